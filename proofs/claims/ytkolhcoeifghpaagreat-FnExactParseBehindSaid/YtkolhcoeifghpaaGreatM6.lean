/- Own words and walks of this claim, part 6: what the program's functions compute, for all the arguments that are named; no further conditions. -/
import Derived.Test.YtkolhcoeifghpaaGreatM3
import Derived.Test.YtkolhcoeifghpaaGreatM5
import Derived.Test.YtkolhcoeifghpaaGreatM4
import Derived.Test.YtkolhcoeifghpaaGreatM2
section
namespace Go.Proofs.YtkolhcoeifghpaaGreat.En
open Go.RowKit
set_option linter.unusedSimpArgs false
set_option linter.unusedVariables false
set_option maxHeartbeats 4000000
noncomputable def todoX (g : GrammarT) (L : LrT) (s : Nat) (t : Int) : List Int := (if 0 ≤ t ∧ 0 ≤ leadsX g L s (-1 - t) then [-1] else []) ++ endsAtX g L s t ++ if t < 0 ∧ overX g L s = true then [-2] else []
theorem todoX_len (g : GrammarT) (L : LrT) (s : Nat) (t : Int) : (todoX g L s t).length = manyX g L s t := by
  unfold todoX manyX
  simp only [List.length_append]
  by_cases h : t < 0
  · have h0 : ¬ 0 ≤ t := by omega
    cases overX g L s <;> simp [h, h0]
  · have h0 : 0 ≤ t := by omega
    by_cases h2 : 0 ≤ leadsX g L s (-1 - t)
    · simp [h, h0, h2]; omega
    · simp [h, h0, h2]
theorem endsX_rng {g : GrammarT} {L : LrT} (hL : LrG g L) {s : Nat} (hs : s < L.1.length) {r : Int} (hr : r ∈ endsX g L s) : ∃ n : Nat, r = (n : Int) ∧ n < g.2.2.length := by
  obtain ⟨z, hz, rfl⟩ := List.mem_map.1 hr
  obtain ⟨h1, h2⟩ := List.mem_filter.1 hz
  obtain ⟨n, d, hn, hd, e⟩ := mem_univX.1 ((hL.ok hs).2.2.1 z h1)
  subst e
  rw [isEnd_N, Bool.and_eq_true, decide_eq_true_iff] at h2
  exact ⟨n, rfl, h2.1⟩
theorem endsX_len {g : GrammarT} {L : LrT} (hL : LrG g L) {s : Nat} (hs : s < L.1.length) : (endsX g L s).length ≤ 85 := Nat.le_trans (endsF_len g (stAt L s)) (hL.ok hs).2.2.2
theorem LrG.row {g : GrammarT} (hG : OkG g) {L : LrT} (h : LrG g L) {s : Nat} (hs : s < L.1.length) : L.2[s]? = some (L.2.getD s []) ∧ ((L.2.getD s []).length : Int) = g.1 + g.2.1 := by
  have hs2 : s < L.2.length := by rw [h.ln]; exact hs
  have e : L.2[s]? = some (L.2.getD s []) := by rw [List.getD_eq_getElem?_getD, List.getElem?_eq_getElem hs2]; rfl
  refine ⟨e, ?_⟩
  rw [(h.p.row s _ _ (h.st hs) e).1]
  exact symsX_len hG
theorem l15Todo (g : GrammarT) (hG : OkG g) (L : LrT) (hL : LrG g L) (s : Nat) (hs : s < L.1.length) (n : Nat) (hn : (n : Int) = g.1) (t : Int) (ht0 : -1 ≤ t) (ht1 : t < g.2.1) : Pure Tryz.prog 34 [.ag (grammarC g), .ag (lrC L), .im 1 (intss (rowsT n (followS g))), .im 1 (lastR n (followS g)), .v (.int .i64 s), .v (.int .i64 t)] (.im 1 (ints (todoX g L s t))) := by
  have hlen := hG.len
  have hT0 := hG.t0
  have hT1 := hG.t1
  have hN1 := hG.n1
  have ce := l15Ends g hG L hL s hs
  have co := l15Over g hG L hL s hs
  have hes := fun (r : Int) (hr : r ∈ endsX g L s) => endsX_rng hL hs hr
  have hel := endsX_len hL hs
  obtain ⟨hrow, hrl⟩ := hL.row hG hs
  have hld : leadsX g L s (-1 - t) = (L.2.getD s []).getD (-1 - t + g.2.1).toNat (-1) := rfl
  unfold todoX endsAtX
  generalize leadsX g L s (-1 - t) = e at hld ⊢
  generalize overX g L s = ov at co ⊢
  generalize endsX g L s = es at ce hes hel ⊢
  generalize L.2.getD s [] = row at hrow hrl hld
  have hs2 : s < L.2.length := (List.getElem?_eq_some_iff.1 hrow).1
  refine Pure.mk (rs := [.tmp 12]) (nt := 89) Tryz.func34 (by kernel_rfl) rfl rfl rfl (by simp) ?_
  simp only [sl, grammarC, lrC]
  refine wkdsc0 _ ?_
  refine Holds.niw 13 3 1 rfl ?_
  by_cases hge : 0 ≤ t
  · have hlt : ¬ t < 0 := by omega
    have hw1 : wr64 (g.2.1 - 1) = g.2.1 - 1 := wr64_id (by omega) (by omega)
    have hw2 : wr64 (g.2.1 - 1 - t) = g.2.1 - 1 - t := wr64_id (by omega) (by omega)
    have hi : ∃ i : Nat, g.2.1 - 1 - t = (i : Int) ∧ i < row.length ∧ (-1 - t + g.2.1).toNat = i := ⟨(g.2.1 - 1 - t).toNat, by omega, by omega, by omega⟩
    obtain ⟨i, hi1, hil, hi2⟩ := hi
    have hei : row[i]? = some row[i] := List.getElem?_eq_getElem hil
    rw [hi2, List.getD_eq_getElem?_getD, hei] at hld
    change e = row[i] at hld
    rw [← hld] at hei
    rw [hi1] at hw2
    clear hld
    by_cases he : 0 ≤ e
    · rw [if_pos (show 0 ≤ t ∧ 0 ≤ e from ⟨hge, he⟩)]
      have hen : ¬ e < 0 := by omega
      (refine Holds.any mixed ?_ ?_; (· kernel_rfl))
      refine wkdc (And.intro @hge (And.intro @hlt (And.intro @he (And.intro @hw1 (And.intro @hi1 (And.intro @hw2 (And.intro @hil (And.intro @hei (And.intro (@get_E _ _ _ _ hei) (And.intro @hs2 (And.intro @hrow (And.intro (@get_E _ _ _ _ hrow) (And.intro @intsC.eq_1 (And.intro @grammarC.eq_1 (@lrC.eq_1))))))))))))))) _ ?_
      first | refine GS.cc (ce) rfl rfl rfl rfl (by simp [go_sem, List.take_of_length_le, grammarC, lrC] <;> with_reducible rfl) rfl (by simp [go_sem, List.take_of_length_le, grammarC, lrC]) ?_ | refine Gd.cc (ce) rfl rfl rfl rfl (by simp [go_sem, List.take_of_length_le, grammarC, lrC] <;> with_reducible rfl) rfl (by simp [go_sem, List.take_of_length_le, grammarC, lrC]) ?_
      refine wkdc (And.intro @hge (And.intro @hlt (And.intro @he (And.intro @hw1 (And.intro @hi1 (And.intro @hw2 (And.intro @hil (And.intro @hei (And.intro (@get_E _ _ _ _ hei) (And.intro @hs2 (And.intro @hrow (And.intro (@get_E _ _ _ _ hrow) (@intsC.eq_1))))))))))))) _ ?_
      refine Holds.loop (ι := Nat) (fun j => ⟨[(2, .im 1 (intss (rowsT n (followS g)))), (3, .im 1 (lastR n (followS g))), (4, .v (.int .i64 s)), (5, .v (.int .i64 t)), (6, .pb 0 3 0 0), (7, .pb 1 2 0 0), (13, .own 2 1 0 ([(-1 : Int)] ++ ((es.take j).filter fun r => followS g ((ruleN g r.toNat).1, t))).length), (40, .im 1 (ints es)), (41, .v (.int .i64 es.length)), (42, .v (.int .i64 j))],
          [(2, ⟨3, 1, ints ([(-1 : Int)] ++ ((es.take j).filter fun r => followS g ((ruleN g r.toNat).1, t)))⟩), (1, ⟨48, 2, [lrC L]⟩), (0, ⟨31, 3, [grammarC g]⟩)], 3⟩)
        (fun j => j ≤ es.length) (fun j => es.length - j) 0 (Nat.zero_le _) ?_ ?_
      · exact Cov.ofn (nm [0, 1, 5]) rfl (by simp [go_sem, List.take_of_length_le, ren, ren1, ren2, okr, okr1, okr2, ChkT, ChkN, BlkN, nf, niw, grammarC, lrC, ints]) (by simp [go_sem, List.take_of_length_le, ren, ren1, ren2, okr, okr1, okr2, ChkT, ChkN, BlkN, nf, niw, grammarC, lrC, ints])
      intro j hj
      have stepj : wr64 ((j : Int) + 1) = ((j + 1 : Nat) : Int) := wr64_id (by omega) (by omega)
      have hfl : ([(-1 : Int)] ++ ((es.take j).filter fun r => followS g ((ruleN g r.toNat).1, t))).length ≤ 86 := by
        have h1 := List.length_filter_le (fun r : Int => followS g ((ruleN g r.toNat).1, t)) (es.take j)
        rw [List.length_take] at h1
        simp only [List.length_append, List.length_cons, List.length_nil]
        omega
      have hnxt : ∀ q : Nat, es[j]? = some (q : Int) → [(-1 : Int)] ++ ((es.take (j + 1)).filter fun r => followS g ((ruleN g r.toNat).1, t)) = ([(-1 : Int)] ++ ((es.take j).filter fun r => followS g ((ruleN g r.toNat).1, t))) ++ if followS g ((ruleN g q).1, t) = true then [(q : Int)] else [] := fun q hq => by
        rw [List.take_add_one, hq, Option.toList_some, List.filter_append, List.append_assoc]
        by_cases hc : followS g ((ruleN g q).1, t) = true <;> simp [hc]
      have hend : j = es.length → [(-1 : Int)] ++ ((es.take j).filter fun r => followS g ((ruleN g r.toNat).1, t)) = [(-1 : Int)] ++ (es.filter fun r => followS g ((ruleN g r.toNat).1, t)) := fun e => by rw [e, List.take_length]
      generalize [(-1 : Int)] ++ ((es.take j).filter fun r => followS g ((ruleN g r.toNat).1, t)) = M at hfl hnxt hend ⊢
      refine wkdc0 _ ?_
      refine Holds.cond rfl (fun h => ?_) (fun h => ?_)
      · have hjl : j < es.length := by simp at h; omega
        have hrj : es[j]? = some es[j] := List.getElem?_eq_getElem hjl
        obtain ⟨q, hq, hql⟩ := hes _ (List.getElem_mem hjl)
        rw [hq] at hrj
        clear hq
        have hnx := hnxt q hrj
        have hrr := ruleN_at hql
        have hl0 := hG.l0 _ (List.mem_of_getElem? hrr)
        have hl1 := hG.l1 _ (List.mem_of_getElem? hrr)
        generalize ruleN g q = R at hnx hrr hl0 hl1
        obtain ⟨lf, rt⟩ := R
        dsimp only at hl0 hl1 hnx
        obtain ⟨x, rfl⟩ : ∃ x : Nat, lf = (x : Int) := ⟨lf.toNat, by omega⟩
        have hxn : x < n := by omega
        have hbb : (M.length + 1) * 8 ≤ 140737488355328 := by omega
        have hrow2 := rowsT_at (followS g) hxn
        have ch := l1Has (lstT fun u => followS g ((x : Int), u)) t (by have := lstT_len (fun u => followS g ((x : Int), u)); omega)
        rw [lstT_has _ ⟨hge, by omega⟩] at ch
        refine wkdc (And.intro @hge (And.intro @hlt (And.intro @hrj (And.intro (@get_E _ _ _ _ hrj) (And.intro @hjl (And.intro @hql (And.intro @hrr (And.intro (@get_E _ _ _ _ hrr) (And.intro @ruleC.eq_1 (And.intro @hrow2 (And.intro (@get_E _ _ _ _ hrow2) (And.intro @hxn (And.intro @intsC.eq_1 (And.intro @grammarC.eq_1 (@rowsT_len))))))))))))))) _ ?_
        first | refine GS.cc (ch) rfl rfl rfl rfl (by simp [go_sem, List.take_of_length_le] <;> with_reducible rfl) rfl (by simp [go_sem, List.take_of_length_le]) ?_ | refine Gd.cc (ch) rfl rfl rfl rfl (by simp [go_sem, List.take_of_length_le] <;> with_reducible rfl) rfl (by simp [go_sem, List.take_of_length_le]) ?_
        cases hb : followS g ((x : Int), t) with
        | true =>
          rw [if_pos hb] at hnx
          refine wkdc (And.intro @hge (And.intro @hlt (@hbb))) _ ?_
          refine ⟨j + 1, by omega, by omega, ?_⟩
          rw [stepj, hnx]
          exact Cov.ofn (nm [0, 1, 5]) rfl (by simp [go_sem, List.take_of_length_le, ren, ren1, ren2, okr, okr1, okr2, ChkT, ChkN, BlkN, nf, grammarC, lrC, ints_snoc]) (by simp [go_sem, List.take_of_length_le, ren, ren1, ren2, okr, okr1, okr2, ChkT, ChkN, BlkN, nf, grammarC, lrC, ints_snoc])
        | false =>
          rw [if_neg (by rw [hb]; simp), List.append_nil] at hnx
          refine wkdc (And.intro @hge (@hlt)) _ ?_
          refine ⟨j + 1, by omega, by omega, ?_⟩
          rw [stepj, hnx]
          exact Cov.ofn (id) rfl (by simp [go_sem, List.take_of_length_le, ren, ren1, ren2, okr, okr1, okr2, ChkT, ChkN, BlkN, nf, grammarC, lrC]) (by simp [go_sem, List.take_of_length_le, ren, ren1, ren2, okr, okr1, okr2, ChkT, ChkN, BlkN, nf, grammarC, lrC])
      · have hje : j = es.length := by simp at h; omega
        have hM := hend hje
        rw [if_neg (show ¬ (t < 0 ∧ ov = true) from fun h => hlt h.1), List.append_nil, ← hM]
        refine wkdc (And.intro @hge (@hlt)) _ ?_
        refine Out.mk (xs := ?_) ?_ ?_ (by first | exact .inr rfl | exact .inl rfl)
        rotate_left
        · simp [go_sem, List.take_of_length_le] <;> with_reducible rfl
        exact Fz.all rfl rfl (by simp) rfl (ints_cl _)
    · rw [if_neg (show ¬ (0 ≤ t ∧ 0 ≤ e) from fun h => he h.2)]
      have hen : e < 0 := by omega
      (refine Holds.any mixed ?_ ?_; (· kernel_rfl))
      refine wkdc (And.intro @hge (And.intro @hlt (And.intro @he (And.intro @hw1 (And.intro @hi1 (And.intro @hw2 (And.intro @hil (And.intro @hei (And.intro (@get_E _ _ _ _ hei) (And.intro @hs2 (And.intro @hrow (And.intro (@get_E _ _ _ _ hrow) (And.intro @intsC.eq_1 (And.intro @grammarC.eq_1 (@lrC.eq_1))))))))))))))) _ ?_
      first | refine GS.cc (ce) rfl rfl rfl rfl (by simp [go_sem, List.take_of_length_le, grammarC, lrC] <;> with_reducible rfl) rfl (by simp [go_sem, List.take_of_length_le, grammarC, lrC]) ?_ | refine Gd.cc (ce) rfl rfl rfl rfl (by simp [go_sem, List.take_of_length_le, grammarC, lrC] <;> with_reducible rfl) rfl (by simp [go_sem, List.take_of_length_le, grammarC, lrC]) ?_
      refine wkdc (And.intro @hge (And.intro @hlt (And.intro @he (And.intro @hw1 (And.intro @hi1 (And.intro @hw2 (And.intro @hil (And.intro @hei (And.intro (@get_E _ _ _ _ hei) (And.intro @hs2 (And.intro @hrow (And.intro (@get_E _ _ _ _ hrow) (@intsC.eq_1))))))))))))) _ ?_
      refine Holds.loop (ι := Nat) (fun j => ⟨[(2, .im 1 (intss (rowsT n (followS g)))), (3, .im 1 (lastR n (followS g))), (4, .v (.int .i64 s)), (5, .v (.int .i64 t)), (6, .pb 0 3 0 0), (7, .pb 1 2 0 0), (13, .own 2 1 0 (([] : List Int) ++ ((es.take j).filter fun r => followS g ((ruleN g r.toNat).1, t))).length), (40, .im 1 (ints es)), (41, .v (.int .i64 es.length)), (42, .v (.int .i64 j))],
          [(2, ⟨3, 1, ints (([] : List Int) ++ ((es.take j).filter fun r => followS g ((ruleN g r.toNat).1, t)))⟩), (1, ⟨48, 2, [lrC L]⟩), (0, ⟨31, 3, [grammarC g]⟩)], 3⟩)
        (fun j => j ≤ es.length) (fun j => es.length - j) 0 (Nat.zero_le _) ?_ ?_
      · exact Cov.ofn (nm [0, 1, 2]) rfl (by simp [go_sem, List.take_of_length_le, ren, ren1, ren2, okr, okr1, okr2, ChkT, ChkN, BlkN, nf, niw, grammarC, lrC, ints]) (by simp [go_sem, List.take_of_length_le, ren, ren1, ren2, okr, okr1, okr2, ChkT, ChkN, BlkN, nf, niw, grammarC, lrC, ints])
      intro j hj
      have stepj : wr64 ((j : Int) + 1) = ((j + 1 : Nat) : Int) := wr64_id (by omega) (by omega)
      have hfl : (([] : List Int) ++ ((es.take j).filter fun r => followS g ((ruleN g r.toNat).1, t))).length ≤ 86 := by
        have h1 := List.length_filter_le (fun r : Int => followS g ((ruleN g r.toNat).1, t)) (es.take j)
        rw [List.length_take] at h1
        simp only [List.length_append, List.length_cons, List.length_nil]
        omega
      have hnxt : ∀ q : Nat, es[j]? = some (q : Int) → ([] : List Int) ++ ((es.take (j + 1)).filter fun r => followS g ((ruleN g r.toNat).1, t)) = (([] : List Int) ++ ((es.take j).filter fun r => followS g ((ruleN g r.toNat).1, t))) ++ if followS g ((ruleN g q).1, t) = true then [(q : Int)] else [] := fun q hq => by
        rw [List.take_add_one, hq, Option.toList_some, List.filter_append, List.append_assoc]
        by_cases hc : followS g ((ruleN g q).1, t) = true <;> simp [hc]
      have hend : j = es.length → ([] : List Int) ++ ((es.take j).filter fun r => followS g ((ruleN g r.toNat).1, t)) = ([] : List Int) ++ (es.filter fun r => followS g ((ruleN g r.toNat).1, t)) := fun e => by rw [e, List.take_length]
      generalize ([] : List Int) ++ ((es.take j).filter fun r => followS g ((ruleN g r.toNat).1, t)) = M at hfl hnxt hend ⊢
      refine wkdc0 _ ?_
      refine Holds.cond rfl (fun h => ?_) (fun h => ?_)
      · have hjl : j < es.length := by simp at h; omega
        have hrj : es[j]? = some es[j] := List.getElem?_eq_getElem hjl
        obtain ⟨q, hq, hql⟩ := hes _ (List.getElem_mem hjl)
        rw [hq] at hrj
        clear hq
        have hnx := hnxt q hrj
        have hrr := ruleN_at hql
        have hl0 := hG.l0 _ (List.mem_of_getElem? hrr)
        have hl1 := hG.l1 _ (List.mem_of_getElem? hrr)
        generalize ruleN g q = R at hnx hrr hl0 hl1
        obtain ⟨lf, rt⟩ := R
        dsimp only at hl0 hl1 hnx
        obtain ⟨x, rfl⟩ : ∃ x : Nat, lf = (x : Int) := ⟨lf.toNat, by omega⟩
        have hxn : x < n := by omega
        have hbb : (M.length + 1) * 8 ≤ 140737488355328 := by omega
        have hrow2 := rowsT_at (followS g) hxn
        have ch := l1Has (lstT fun u => followS g ((x : Int), u)) t (by have := lstT_len (fun u => followS g ((x : Int), u)); omega)
        rw [lstT_has _ ⟨hge, by omega⟩] at ch
        refine wkdc (And.intro @hge (And.intro @hlt (And.intro @hrj (And.intro (@get_E _ _ _ _ hrj) (And.intro @hjl (And.intro @hql (And.intro @hrr (And.intro (@get_E _ _ _ _ hrr) (And.intro @ruleC.eq_1 (And.intro @hrow2 (And.intro (@get_E _ _ _ _ hrow2) (And.intro @hxn (And.intro @intsC.eq_1 (And.intro @grammarC.eq_1 (@rowsT_len))))))))))))))) _ ?_
        first | refine GS.cc (ch) rfl rfl rfl rfl (by simp [go_sem, List.take_of_length_le] <;> with_reducible rfl) rfl (by simp [go_sem, List.take_of_length_le]) ?_ | refine Gd.cc (ch) rfl rfl rfl rfl (by simp [go_sem, List.take_of_length_le] <;> with_reducible rfl) rfl (by simp [go_sem, List.take_of_length_le]) ?_
        cases hb : followS g ((x : Int), t) with
        | true =>
          rw [if_pos hb] at hnx
          refine wkdc (And.intro @hge (And.intro @hlt (@hbb))) _ ?_
          refine ⟨j + 1, by omega, by omega, ?_⟩
          rw [stepj, hnx]
          exact Cov.ofn (nm [0, 1, 5]) rfl (by simp [go_sem, List.take_of_length_le, ren, ren1, ren2, okr, okr1, okr2, ChkT, ChkN, BlkN, nf, grammarC, lrC, ints_snoc]) (by simp [go_sem, List.take_of_length_le, ren, ren1, ren2, okr, okr1, okr2, ChkT, ChkN, BlkN, nf, grammarC, lrC, ints_snoc])
        | false =>
          rw [if_neg (by rw [hb]; simp), List.append_nil] at hnx
          refine wkdc (And.intro @hge (@hlt)) _ ?_
          refine ⟨j + 1, by omega, by omega, ?_⟩
          rw [stepj, hnx]
          exact Cov.ofn (id) rfl (by simp [go_sem, List.take_of_length_le, ren, ren1, ren2, okr, okr1, okr2, ChkT, ChkN, BlkN, nf, grammarC, lrC]) (by simp [go_sem, List.take_of_length_le, ren, ren1, ren2, okr, okr1, okr2, ChkT, ChkN, BlkN, nf, grammarC, lrC])
      · have hje : j = es.length := by simp at h; omega
        have hM := hend hje
        rw [if_neg (show ¬ (t < 0 ∧ ov = true) from fun h => hlt h.1), List.append_nil, ← hM]
        refine wkdc (And.intro @hge (@hlt)) _ ?_
        refine Out.mk (xs := ?_) ?_ ?_ (by first | exact .inr rfl | exact .inl rfl)
        rotate_left
        · simp [go_sem, List.take_of_length_le] <;> with_reducible rfl
        exact Fz.all rfl rfl (by simp) rfl (ints_cl _)
  · have hlt : t < 0 := by omega
    have ht : t = -1 := by omega
    (refine Holds.any mixed ?_ ?_; (· kernel_rfl))
    refine wkdc (And.intro @hge (And.intro @hlt (And.intro @grammarC.eq_1 (@lrC.eq_1)))) _ ?_
    first | refine GS.cc (ce) rfl rfl rfl rfl (by simp [go_sem, List.take_of_length_le, grammarC, lrC] <;> with_reducible rfl) rfl (by simp [go_sem, List.take_of_length_le, grammarC, lrC]) ?_ | refine Gd.cc (ce) rfl rfl rfl rfl (by simp [go_sem, List.take_of_length_le, grammarC, lrC] <;> with_reducible rfl) rfl (by simp [go_sem, List.take_of_length_le, grammarC, lrC]) ?_
    refine wkdc (And.intro @hge (@hlt)) _ ?_
    refine Holds.loop (ι := Nat) (fun j => ⟨[(2, .im 1 (intss (rowsT n (followS g)))), (3, .im 1 (lastR n (followS g))), (4, .v (.int .i64 s)), (5, .v (.int .i64 t)), (6, .pb 0 3 0 0), (7, .pb 1 2 0 0), (13, .own 2 1 0 (([] : List Int) ++ ((es.take j).filter fun r => followS g ((ruleN g r.toNat).1, t))).length), (40, .im 1 (ints es)), (41, .v (.int .i64 es.length)), (42, .v (.int .i64 j))],
        [(2, ⟨3, 1, ints (([] : List Int) ++ ((es.take j).filter fun r => followS g ((ruleN g r.toNat).1, t)))⟩), (1, ⟨48, 2, [lrC L]⟩), (0, ⟨31, 3, [grammarC g]⟩)], 3⟩)
      (fun j => j ≤ es.length) (fun j => es.length - j) 0 (Nat.zero_le _) ?_ ?_
    · exact Cov.ofn (nm [0, 1, 2]) rfl (by simp [go_sem, List.take_of_length_le, ren, ren1, ren2, okr, okr1, okr2, ChkT, ChkN, BlkN, nf, niw, grammarC, lrC, ints]) (by simp [go_sem, List.take_of_length_le, ren, ren1, ren2, okr, okr1, okr2, ChkT, ChkN, BlkN, nf, niw, grammarC, lrC, ints])
    intro j hj
    have stepj : wr64 ((j : Int) + 1) = ((j + 1 : Nat) : Int) := wr64_id (by omega) (by omega)
    have hfl : (([] : List Int) ++ ((es.take j).filter fun r => followS g ((ruleN g r.toNat).1, t))).length ≤ 86 := by
      have h1 := List.length_filter_le (fun r : Int => followS g ((ruleN g r.toNat).1, t)) (es.take j)
      rw [List.length_take] at h1
      simp only [List.length_append, List.length_cons, List.length_nil]
      omega
    have hnxt : ∀ q : Nat, es[j]? = some (q : Int) → ([] : List Int) ++ ((es.take (j + 1)).filter fun r => followS g ((ruleN g r.toNat).1, t)) = (([] : List Int) ++ ((es.take j).filter fun r => followS g ((ruleN g r.toNat).1, t))) ++ if followS g ((ruleN g q).1, t) = true then [(q : Int)] else [] := fun q hq => by
      rw [List.take_add_one, hq, Option.toList_some, List.filter_append, List.append_assoc]
      by_cases hc : followS g ((ruleN g q).1, t) = true <;> simp [hc]
    have hend : j = es.length → ([] : List Int) ++ ((es.take j).filter fun r => followS g ((ruleN g r.toNat).1, t)) = ([] : List Int) ++ (es.filter fun r => followS g ((ruleN g r.toNat).1, t)) := fun e => by rw [e, List.take_length]
    generalize ([] : List Int) ++ ((es.take j).filter fun r => followS g ((ruleN g r.toNat).1, t)) = M at hfl hnxt hend ⊢
    refine wkdc0 _ ?_
    refine Holds.cond rfl (fun h => ?_) (fun h => ?_)
    · have hjl : j < es.length := by simp at h; omega
      have hrj : es[j]? = some es[j] := List.getElem?_eq_getElem hjl
      obtain ⟨q, hq, hql⟩ := hes _ (List.getElem_mem hjl)
      rw [hq] at hrj
      clear hq
      have hnx := hnxt q hrj
      have hrr := ruleN_at hql
      have hl0 := hG.l0 _ (List.mem_of_getElem? hrr)
      have hl1 := hG.l1 _ (List.mem_of_getElem? hrr)
      generalize ruleN g q = R at hnx hrr hl0 hl1
      obtain ⟨lf, rt⟩ := R
      dsimp only at hl0 hl1 hnx
      obtain ⟨x, rfl⟩ : ∃ x : Nat, lf = (x : Int) := ⟨lf.toNat, by omega⟩
      have hxn : x < n := by omega
      have hbb : (M.length + 1) * 8 ≤ 140737488355328 := by omega
      have hrow2 := lastR_at (followS g) hxn
      cases hb : followS g ((x : Int), -1) with
      | true =>
        rw [hb] at hrow2
        rw [ht, if_pos hb] at hnx
        refine wkdc (And.intro @hge (And.intro @hlt (And.intro @hrj (And.intro (@get_E _ _ _ _ hrj) (And.intro @hjl (And.intro @hql (And.intro @hrr (And.intro (@get_E _ _ _ _ hrr) (And.intro @ruleC.eq_1 (And.intro @hrow2 (And.intro (@get_E _ _ _ _ hrow2) (And.intro @hxn (And.intro @grammarC.eq_1 (And.intro @lastR_len (@hbb))))))))))))))) _ ?_
        refine ⟨j + 1, by omega, by omega, ?_⟩
        rw [stepj, ht, hnx]
        exact Cov.ofn (nm [0, 1, 5]) rfl (by simp [go_sem, List.take_of_length_le, ren, ren1, ren2, okr, okr1, okr2, ChkT, ChkN, BlkN, nf, grammarC, lrC, ints_snoc]) (by simp [go_sem, List.take_of_length_le, ren, ren1, ren2, okr, okr1, okr2, ChkT, ChkN, BlkN, nf, grammarC, lrC, ints_snoc])
      | false =>
        rw [hb] at hrow2
        rw [ht, if_neg (by rw [hb]; simp), List.append_nil] at hnx
        refine wkdc (And.intro @hge (And.intro @hlt (And.intro @hrj (And.intro (@get_E _ _ _ _ hrj) (And.intro @hjl (And.intro @hql (And.intro @hrr (And.intro (@get_E _ _ _ _ hrr) (And.intro @ruleC.eq_1 (And.intro @hrow2 (And.intro (@get_E _ _ _ _ hrow2) (And.intro @hxn (And.intro @grammarC.eq_1 (@lastR_len)))))))))))))) _ ?_
        refine ⟨j + 1, by omega, by omega, ?_⟩
        rw [stepj, ht, hnx]
        exact Cov.ofn (id) rfl (by simp [go_sem, List.take_of_length_le, ren, ren1, ren2, okr, okr1, okr2, ChkT, ChkN, BlkN, nf, grammarC, lrC]) (by simp [go_sem, List.take_of_length_le, ren, ren1, ren2, okr, okr1, okr2, ChkT, ChkN, BlkN, nf, grammarC, lrC])
    · have hje : j = es.length := by simp at h; omega
      have hM := hend hje
      rw [show (if (0 ≤ t ∧ 0 ≤ e) then [(-1 : Int)] else []) = [] from if_neg fun h => hge h.1]
      have hbb : (M.length + 1) * 8 ≤ 140737488355328 := by omega
      cases ov with
      | true =>
        rw [if_pos (show t < 0 ∧ true = true from ⟨hlt, rfl⟩), ← hM]
        refine wkdc (And.intro @hlt (And.intro @hge (And.intro @grammarC.eq_1 (@lrC.eq_1)))) _ ?_
        first | refine GS.cc (co) rfl rfl rfl rfl (by simp [go_sem, List.take_of_length_le, grammarC, lrC] <;> with_reducible rfl) rfl (by simp [go_sem, List.take_of_length_le, grammarC, lrC]) ?_ | refine Gd.cc (co) rfl rfl rfl rfl (by simp [go_sem, List.take_of_length_le, grammarC, lrC] <;> with_reducible rfl) rfl (by simp [go_sem, List.take_of_length_le, grammarC, lrC]) ?_
        refine wkdc (@hbb) _ ?_
        refine Out.mk (xs := ?_) ?_ ?_ (by first | exact .inr rfl | exact .inl rfl)
        rotate_left
        · simp [go_sem, List.take_of_length_le] <;> with_reducible rfl
        exact Fz.all rfl rfl (by simp) (by simp [ints]) (ints_cl _)
      | false =>
        rw [if_neg (show ¬ (t < 0 ∧ false = true) from fun h => by cases h.2), List.append_nil, ← hM]
        refine wkdc (And.intro @hlt (And.intro @hge (And.intro @grammarC.eq_1 (@lrC.eq_1)))) _ ?_
        first | refine GS.cc (co) rfl rfl rfl rfl (by simp [go_sem, List.take_of_length_le, grammarC, lrC] <;> with_reducible rfl) rfl (by simp [go_sem, List.take_of_length_le, grammarC, lrC]) ?_ | refine Gd.cc (co) rfl rfl rfl rfl (by simp [go_sem, List.take_of_length_le, grammarC, lrC] <;> with_reducible rfl) rfl (by simp [go_sem, List.take_of_length_le, grammarC, lrC]) ?_
        refine wkdc0 _ ?_
        refine Out.mk (xs := ?_) ?_ ?_ (by first | exact .inr rfl | exact .inl rfl)
        rotate_left
        · simp [go_sem, List.take_of_length_le] <;> with_reducible rfl
        exact Fz.all rfl rfl (by simp) rfl (ints_cl _)
theorem clashAt_next (g : GrammarT) (L : LrT) (s i : Nat) : clashAt g L s (i + 1) = (clashAt g L s i || decide (1 < manyX g L s ((i : Int) - 1))) := by
  rw [clashAt, List.range_succ, List.any_append]
  simp [clashAt]
theorem lrClash_next (g : GrammarT) (L : LrT) (k : Nat) : lrClash g L (k + 1) = lrClash g L k ++ if clashAt g L k (g.2.1 + 1).toNat = true then [(k : Int)] else [] := by
  rw [lrClash, List.range_succ, List.filter_append, List.map_append]
  by_cases h : clashAt g L k (g.2.1 + 1).toNat = true <;> simp [h, lrClash]
theorem lrClash_lt (g : GrammarT) (L : LrT) (k : Nat) : ∀ x ∈ lrClash g L k, x < (k : Int) := fun x hx => by
  obtain ⟨s, hs, rfl⟩ := List.mem_map.1 hx
  have := List.mem_range.1 (List.mem_filter.1 hs).1
  omega
theorem lrClash_len (g : GrammarT) (L : LrT) (k : Nat) : (lrClash g L k).length ≤ k := by
  simp only [lrClash, List.length_map]
  have := List.length_filter_le (fun s => clashAt g L s (g.2.1 + 1).toNat) (List.range k)
  rwa [List.length_range] at this
theorem lastR_cl (n : Nat) (W : Int × Int → Bool) : ∀ row ∈ lastR n W, ∀ x ∈ row, cl1 x = true := fun row hr x hx => by
  obtain ⟨y, _, rfl⟩ := List.mem_map.1 hr
  rw [List.mem_singleton] at hx
  subst hx; rfl
theorem l15Clashes (g : GrammarT) (hG : OkG g) (L : LrT) (hL : LrG g L) : Pure Tryz.prog 61 [.ag (grammarC g), .ag (lrC L)] (.im 1 (ints (lrClash g L L.1.length))) := by
  have hlen := hG.len
  have hn0 := hG.n0
  have hT0 := hG.t0
  have hT1 := hG.t1
  have hfew := hL.few
  obtain ⟨n, hn⟩ : ∃ n : Nat, (n : Int) = g.1 := ⟨g.1.toNat, by omega⟩
  have cf := l14Follows g hG n hn
  refine Pure.mk (rs := [.tmp 4]) (nt := 41) Tryz.func61 (by kernel_rfl) rfl rfl rfl (by simp) ?_
  simp only [sl, grammarC, lrC]
  refine wkc (@grammarC.eq_1) _ ?_
  refine GS.fnn [] (cf) rfl rfl rfl rfl (by simp [go_sem, List.take_of_length_le, ren, ren1, ren2, okr, okr1, okr2, ChkN, BlkN, List.range_succ, nf, grammarC] <;> with_reducible rfl) (by simp [go_sem, List.take_of_length_le, ren, ren1, ren2, okr, okr1, okr2, ChkN, BlkN, List.range_succ, nf, grammarC]) (by simp [go_sem, List.take_of_length_le, ren, ren1, ren2, okr, okr1, okr2, ChkN, BlkN, List.range_succ, nf, grammarC]) (by simp [List.range_succ, lb]) (ChkN.toB (by simp [go_sem, List.take_of_length_le, ren, ren1, ren2, okr, okr1, okr2, ChkN, BlkN, List.range_succ, nf, grammarC])) (by decide) (by simp) rfl (.nfr (by simp) (.nfr (by simp) .nil)) (by simp [go_sem, List.take_of_length_le, ren, ren1, ren2, okr, okr1, okr2, ChkN, BlkN, List.range_succ, nf, grammarC] <;> with_reducible rfl) ?_
  refine wkc0 _ ?_
  refine Holds.frz [2, 3] [(5, .im 1 (intss (rowsT n (followS g)))), (6, .im 1 (lastR n (followS g))), (7, .im 1 (ints []))] (.cons rfl (Fz.all rfl rfl (by simp) rfl (intss_cl _)) (.cons rfl (Fz.all rfl rfl (by simp) rfl (lastR_cl _ _)) (.cons rfl (Fz.nl _) .nil))) ?_
  refine wkc (And.intro @frz.eq_1 (@lrC.eq_1)) _ ?_
  refine Holds.loop (ι := Nat) (fun k => ⟨[(2, .pb 0 3 0 0), (3, .pb 1 2 0 0), (5, .im 1 (intss (rowsT n (followS g)))), (6, .im 1 (lastR n (followS g))), (7, .im 1 (ints (lrClash g L k))), (17, .v (.int .i64 L.1.length)), (18, .v (.int .i64 k))], [(1, ⟨48, 2, [lrC L]⟩), (0, ⟨31, 3, [grammarC g]⟩)], 2⟩)
    (fun k => k ≤ L.1.length) (fun k => L.1.length - k) 0 (Nat.zero_le _) ?_ ?_
  · exact Cov.ofn (id) rfl (by simp [go_sem, List.take_of_length_le, ren, ren1, ren2, okr, okr1, okr2, ChkT, ChkN, BlkN, nf, grammarC, lrC, frz, show lrClash g L 0 = [] from rfl]) (by simp [go_sem, List.take_of_length_le, ren, ren1, ren2, okr, okr1, okr2, ChkT, ChkN, BlkN, nf, grammarC, lrC, frz, show lrClash g L 0 = [] from rfl])
  intro k hk
  have stepk : wr64 ((k : Int) + 1) = ((k + 1 : Nat) : Int) := wr64_id (by omega) (by omega)
  refine wkc0 _ ?_
  refine Holds.cond rfl (fun h => ?_) (fun h => ?_)
  · have hkl : k < L.1.length := by simp at h; omega
    have hnx := lrClash_next g L k
    have hlt := lrClash_lt g L k
    have hll := lrClash_len g L k
    generalize lrClash g L k = C at hnx hlt hll ⊢
    refine wkc0 _ ?_
    refine Holds.loop (ι := Nat) (fun i => ⟨[(2, .pb 0 3 0 0), (3, .pb 1 2 0 0), (5, .im 1 (intss (rowsT n (followS g)))), (6, .im 1 (lastR n (followS g))), (7, .im 1 (ints (C ++ if clashAt g L k i = true then [(k : Int)] else []))), (8, .v (.int .i64 k)), (9, .v (.int .i64 ((i : Int) - 1))), (17, .v (.int .i64 L.1.length)), (18, .v (.int .i64 k))], [(1, ⟨48, 2, [lrC L]⟩), (0, ⟨31, 3, [grammarC g]⟩)], 2⟩)
      (fun i => i ≤ (g.2.1 + 1).toNat) (fun i => (g.2.1 + 1).toNat - i) 0 (Nat.zero_le _) ?_ ?_
    · exact Cov.ofn (id) rfl (by simp [go_sem, List.take_of_length_le, ren, ren1, ren2, okr, okr1, okr2, ChkT, ChkN, BlkN, nf, grammarC, lrC, show clashAt g L k 0 = false from rfl]) (by simp [go_sem, List.take_of_length_le, ren, ren1, ren2, okr, okr1, okr2, ChkT, ChkN, BlkN, nf, grammarC, lrC, show clashAt g L k 0 = false from rfl])
    intro i hi
    have stepi : wr64 (i : Int) = ((i + 1 : Nat) : Int) - 1 := by rw [wr64_id (by omega) (by omega)]; omega
    have hci := clashAt_next g L k i
    have htl := todoX_len g L k ((i : Int) - 1)
    refine wkc (And.intro @grammarC.eq_1 (@lrC.eq_1)) _ ?_
    refine Holds.cond rfl (fun h => ?_) (fun h => ?_)
    · have hit : (i : Int) - 1 < g.2.1 := by simpa using h
      have ct := l15Todo g hG L hL k hkl n hn ((i : Int) - 1) (by omega) hit
      generalize todoX g L k ((i : Int) - 1) = T at ct htl
      refine wkc (And.intro @grammarC.eq_1 (@lrC.eq_1)) _ ?_
      refine GS.cc (ct) rfl rfl rfl rfl (by simp [go_sem, List.take_of_length_le, grammarC, lrC] <;> with_reducible rfl) rfl (by simp [go_sem, List.take_of_length_le, grammarC, lrC]) ?_
      by_cases hm : 1 < manyX g L k ((i : Int) - 1)
      · rw [decide_eq_true hm, Bool.or_true] at hci
        have hTi : (1 : Int) < (T.length : Int) := by omega
        have hTn : 1 < T.length := by omega
        cases hc : clashAt g L k i with
        | true =>
          have cp := l1PutD (C ++ [(k : Int)]) (k : Int) (by simp; omega)
          rw [putD_has _ _ hlt] at cp
          simp only [if_true]
          refine wkc (And.intro @hTi (@hTn)) _ ?_
          refine GS.cc (cp) rfl rfl rfl rfl (by simp [go_sem, List.take_of_length_le] <;> with_reducible rfl) rfl (by simp [go_sem, List.take_of_length_le]) ?_
          refine wkc0 _ ?_
          refine ⟨i + 1, by omega, by omega, ?_⟩
          rw [stepi, hci]
          exact Cov.ofn (id) rfl (by simp [go_sem, List.take_of_length_le, ren, ren1, ren2, okr, okr1, okr2, ChkT, ChkN, BlkN, nf, grammarC, lrC]) (by simp [go_sem, List.take_of_length_le, ren, ren1, ren2, okr, okr1, okr2, ChkT, ChkN, BlkN, nf, grammarC, lrC])
        | false =>
          have cp := l1PutD C (k : Int) (by omega)
          rw [putD_end _ _ hlt] at cp
          simp only [Bool.false_eq_true, if_false, List.append_nil]
          refine wkc (And.intro @hTi (@hTn)) _ ?_
          refine GS.cc (cp) rfl rfl rfl rfl (by simp [go_sem, List.take_of_length_le] <;> with_reducible rfl) rfl (by simp [go_sem, List.take_of_length_le]) ?_
          refine wkc0 _ ?_
          refine ⟨i + 1, by omega, by omega, ?_⟩
          rw [stepi, hci]
          exact Cov.ofn (id) rfl (by simp [go_sem, List.take_of_length_le, ren, ren1, ren2, okr, okr1, okr2, ChkT, ChkN, BlkN, nf, grammarC, lrC]) (by simp [go_sem, List.take_of_length_le, ren, ren1, ren2, okr, okr1, okr2, ChkT, ChkN, BlkN, nf, grammarC, lrC])
      · rw [decide_eq_false hm, Bool.or_false] at hci
        have hTi : ¬ (1 : Int) < (T.length : Int) := by omega
        have hTn : ¬ 1 < T.length := by omega
        generalize clashAt g L k i = c at hci ⊢
        refine wkc (And.intro @hTi (@hTn)) _ ?_
        refine ⟨i + 1, by omega, by omega, ?_⟩
        rw [stepi, hci]
        exact Cov.ofn (id) rfl (by simp [go_sem, List.take_of_length_le, ren, ren1, ren2, okr, okr1, okr2, ChkT, ChkN, BlkN, nf, grammarC, lrC]) (by simp [go_sem, List.take_of_length_le, ren, ren1, ren2, okr, okr1, okr2, ChkT, ChkN, BlkN, nf, grammarC, lrC])
    · have hie : i = (g.2.1 + 1).toNat := by simp at h; omega
      subst hie
      rw [← hnx]
      refine wkc0 _ ?_
      refine ⟨k + 1, by omega, by omega, ?_⟩
      rw [stepk]
      exact Cov.ofn (id) rfl (by simp [go_sem, List.take_of_length_le, ren, ren1, ren2, okr, okr1, okr2, ChkT, ChkN, BlkN, nf, grammarC, lrC]) (by simp [go_sem, List.take_of_length_le, ren, ren1, ren2, okr, okr1, okr2, ChkT, ChkN, BlkN, nf, grammarC, lrC])
  · have hke : k = L.1.length := by simp at h; omega
    subst hke
    refine wkc0 _ ?_
    refine Out.mk (xs := ?_) ?_ ?_ (by first | exact .inr rfl | exact .inl rfl)
    rotate_left
    · simp [go_sem, List.take_of_length_le] <;> with_reducible rfl
    exact .im _ _
end Go.Proofs.YtkolhcoeifghpaaGreat.En
end
section
namespace Go.Proofs.YtkolhcoeifghpaaGreat.En
open Go.RowKit
set_option linter.unusedSimpArgs false
set_option linter.unusedVariables false
set_option maxHeartbeats 4000000
inductive PileP (g : GrammarT) (L : LrT) : List Nat → Prop where
  | one : PileP g L [0]
  | more {s b : Nat} {P : List Nat} {x : Int} : PileP g L (b :: P) → s < L.1.length → stAt L s = gotoX (gX g) (stAt L b) x → PileP g L (s :: b :: P)
theorem LrG.pos {g : GrammarT} {L : LrT} (h : LrG g L) : 0 < L.1.length := (List.getElem?_eq_some_iff.1 h.p.st).1
theorem LrG.start {g : GrammarT} {L : LrT} (h : LrG g L) : stAt L 0 = start0 g := by
  have := h.st h.pos
  rw [h.p.st] at this
  exact (Option.some.inj this).symm
theorem PileP.lt {g : GrammarT} {L : LrT} (hL : LrG g L) {P : List Nat} (h : PileP g L P) : ∀ s ∈ P, s < L.1.length := by
  induction h with
  | one => intro s hs; rw [List.mem_singleton] at hs; subst hs; exact hL.pos
  | more _ h1 _ ih =>
    intro s hs
    rcases List.mem_cons.1 hs with e | e
    · rw [e]; exact h1
    · exact ih s e
theorem start0_dot {g : GrammarT} (hG : OkG g) {z : Item3} (hz : z ∈ start0 g) : z.2.1 = 0 := by
  have hK : ∀ y ∈ [itemN g.2.2.length 0 0], y ∈ univX (gX g) := fun y hy => by rw [List.mem_singleton] at hy; subst hy; exact univX_item hG
  rcases closX_dot ((clX_mem hK z).1 hz) with h | h
  · rw [List.mem_singleton] at h; subst h; rfl
  · exact h
theorem goto_dot {g : GrammarT} {S : List Item3} (hS : ∀ z ∈ S, z ∈ univX (gX g)) {x : Int} {r d : Nat} (h : itemN r (d + 1) 0 ∈ gotoX (gX g) S x) : itemN r d 0 ∈ S := by
  rcases closX_dot ((clX_mem (kernX_univ hS x) _).1 h) with h | h
  · obtain ⟨y, hy, e⟩ := List.mem_map.1 h
    have hyS := (List.mem_filter.1 hy).1
    obtain ⟨r2, d2, _, _, e2⟩ := mem_univX.1 (hS y hyS)
    subst e2
    rw [advI_N] at e
    simp only [itemN, Prod.mk.injEq] at e
    have h1 : r2 = r := by omega
    have h2 : d2 = d := by omega
    rw [h1, h2] at hyS
    exact hyS
  · simp only [itemN] at h
    omega
theorem PileP.deep {g : GrammarT} (hG : OkG g) {L : LrT} (hL : LrG g L) {r : Nat} : ∀ (d : Nat) {s : Nat} {P : List Nat}, PileP g L (s :: P) → itemN r d 0 ∈ stAt L s → ∃ b Q, (s :: P).drop d = b :: Q ∧ PileP g L (b :: Q) ∧ itemN r 0 0 ∈ stAt L b
  | 0, s, P, h, hz => ⟨s, P, rfl, h, hz⟩
  | d + 1, s, P, h, hz => by
    cases h with
    | one =>
      rw [hL.start] at hz
      have := start0_dot hG hz
      simp only [itemN] at this
      omega
    | more h1 h2 h3 =>
      rename_i b P x
      have hb := h1.lt hL b (.head _)
      rw [h3] at hz
      obtain ⟨c, Q, e, hp, hi⟩ := PileP.deep hG hL d h1 (goto_dot (hL.ok hb).2.2.1 hz)
      exact ⟨c, Q, by rw [List.drop_succ_cons]; exact e, hp, hi⟩
theorem clX_from {g : GrammarT} {K : List Item3} (hK : ∀ z ∈ K, z ∈ univX (gX g)) {r : Nat} (h : itemN r 0 0 ∈ clX (gX g) K) (hn : itemN r 0 0 ∉ K) : ∃ y ∈ clX (gX g) K, symAt (gX g) y = some (ruleN (gX g) r).1 := by
  rcases closX_from ((clX_mem hK _).1 h) with h | ⟨y, hy, n, e, hs⟩
  · exact absurd h hn
  · simp only [itemN, Prod.mk.injEq] at e
    have : r = n := by omega
    subst this
    exact ⟨y, (clX_mem hK y).2 hy, hs⟩
theorem PileP.begins {g : GrammarT} (hG : OkG g) {L : LrT} (hL : LrG g L) {s : Nat} {P : List Nat} (h : PileP g L (s :: P)) {r : Nat} (hr : r < g.2.2.length) (hz : itemN r 0 0 ∈ stAt L s) : gotoX (gX g) (stAt L s) (ruleN g r).1 ≠ [] := by
  have hs := h.lt hL s (.head _)
  have hu := (hL.ok hs).2.2.1
  have key : ∃ y ∈ stAt L s, symAt (gX g) y = some (ruleN (gX g) r).1 := by
    cases h with
    | one =>
      rw [hL.start] at hz ⊢
      refine clX_from (fun y hy => by rw [List.mem_singleton] at hy; subst hy; exact univX_item hG) hz fun hm => ?_
      rw [List.mem_singleton] at hm
      simp only [itemN, Prod.mk.injEq] at hm
      omega
    | more h1 h2 h3 =>
      rename_i b P x
      have hb := h1.lt hL b (.head _)
      rw [h3] at hz ⊢
      refine clX_from (kernX_univ (hL.ok hb).2.2.1 x) hz fun hm => ?_
      obtain ⟨y, hy, e⟩ := List.mem_map.1 hm
      obtain ⟨r2, d2, _, _, e2⟩ := mem_univX.1 ((hL.ok hb).2.2.1 y (List.mem_filter.1 hy).1)
      subst e2
      rw [advI_N] at e
      simp only [itemN, Prod.mk.injEq] at e
      omega
  obtain ⟨y, hy, hsy⟩ := key
  rw [ruleX_lt hr] at hsy
  intro e
  rw [gotoX_nil hu, kernX, List.map_eq_nil_iff, List.filter_eq_nil_iff] at e
  exact e y hy (decide_eq_true hsy)
theorem leadsX_to {g : GrammarT} (hG : OkG g) {L : LrT} (hL : LrG g L) {s : Nat} (hs : s < L.1.length) {x : Int} (h0 : -g.2.1 ≤ x) (h1 : x < g.1) : ToOk g L.1 (stAt L s) x (leadsX g L s x) := by
  obtain ⟨hrow, hrl⟩ := hL.row hG hs
  have hi : (x + g.2.1).toNat < (symsX g).length := by have := symsX_len hG; omega
  refine (hL.p.row s _ _ (hL.st hs) hrow).2 (x + g.2.1).toNat x _ ?_ ?_
  · rw [symsX_at hi]; congr 1; omega
  · unfold leadsX
    generalize L.2.getD s [] = row at hrl ⊢
    rw [List.getD_eq_getElem?_getD, List.getElem?_eq_getElem (by omega)]; rfl
theorem PileP.go {g : GrammarT} (hG : OkG g) {L : LrT} (hL : LrG g L) {s : Nat} {P : List Nat} (h : PileP g L (s :: P)) {x : Int} (h0 : -g.2.1 ≤ x) (h1 : x < g.1) (hl : 0 ≤ leadsX g L s x) : ∃ n : Nat, leadsX g L s x = (n : Int) ∧ PileP g L (n :: s :: P) := by
  have hs := h.lt hL s (.head _)
  rcases leadsX_to hG hL hs h0 h1 with ⟨_, e⟩ | ⟨j, e, hj⟩
  · omega
  · have hjl := (List.getElem?_eq_some_iff.1 hj).1
    refine ⟨j, e, PileP.more (x := x) h hjl ?_⟩
    have := hL.st hjl
    rw [hj] at this
    exact (Option.some.inj this).symm
theorem PileP.reduce {g : GrammarT} (hG : OkG g) {L : LrT} (hL : LrG g L) {s : Nat} {P : List Nat} (h : PileP g L (s :: P)) {r : Nat} (hr : (r : Int) ∈ endsX g L s) : r < g.2.2.length ∧ ∃ (b n : Nat) (Q : List Nat), (s :: P).drop (ruleN g r).2.length = b :: Q ∧ leadsX g L b (ruleN g r).1 = (n : Int) ∧ PileP g L (n :: b :: Q) := by
  have hs := h.lt hL s (.head _)
  obtain ⟨n, e, hn⟩ := endsX_rng hL hs hr
  have : r = n := by omega
  subst this
  refine ⟨hn, ?_⟩
  obtain ⟨z, hz, e2⟩ := List.mem_map.1 hr
  obtain ⟨h1, h2⟩ := List.mem_filter.1 hz
  obtain ⟨r2, d, _, _, e3⟩ := mem_univX.1 ((hL.ok hs).2.2.1 z h1)
  subst e3
  simp only [itemN] at e2
  have : r2 = r := by omega
  subst this
  rw [isEnd_N, Bool.and_eq_true, decide_eq_true_iff, decide_eq_true_iff] at h2
  rw [h2.2] at h1
  obtain ⟨b, Q, hd, hp, hb⟩ := h.deep hG hL _ h1
  have hrr := ruleN_at hn
  have hl0 := hG.l0 _ (List.mem_of_getElem? hrr)
  have hl1 := hG.l1 _ (List.mem_of_getElem? hrr)
  have hT0 := hG.t0
  have hne := hp.begins hG hL hn hb
  have hbs := hp.lt hL b (.head _)
  have hto := leadsX_to hG hL hbs (x := (ruleN g r2).1) (by omega) hl1
  have h0 : 0 ≤ leadsX g L b (ruleN g r2).1 := by
    rcases hto with ⟨e, _⟩ | ⟨j, e, _⟩
    · exact absurd e hne
    · omega
  obtain ⟨n, hn2, hp2⟩ := hp.go hG hL (x := (ruleN g r2).1) (by omega) hl1 h0
  exact ⟨b, n, Q, hd, hn2, hp2⟩
theorem few_todo {g : GrammarT} {L : LrT} (h : lrClash g L L.1.length = []) {s : Nat} (hs : s < L.1.length) {t : Int} (h0 : -1 ≤ t) (h1 : t < g.2.1) : (todoX g L s t).length ≤ 1 := by
  rw [todoX_len]
  rw [lrClash, List.map_eq_nil_iff, List.filter_eq_nil_iff] at h
  have := h s (List.mem_range.2 hs)
  rw [Bool.not_eq_true, clashAt, List.any_eq_false] at this
  have h2 := this (t + 1).toNat (List.mem_range.2 (by omega))
  rw [show (((t + 1).toNat : Nat) : Int) - 1 = t by omega] at h2
  simpa using h2
end Go.Proofs.YtkolhcoeifghpaaGreat.En
end
section
namespace Go.Proofs.YtkolhcoeifghpaaGreat.En
open Go.RowKit
set_option linter.unusedSimpArgs false
set_option linter.unusedVariables false
set_option maxHeartbeats 4000000
def tokB (w : List Int) (a : Nat) : Int := (w[a]?).getD (-1)
abbrev PbV := List Int × Int × Bool
noncomputable def pbRun (g : GrammarT) (L : LrT) (w : List Int) : Nat → List Nat → Nat → List Int → PbV
  | 0, _, _, _ => ([], 0, false)
  | n + 1, P, a, out => match todoX g L (P.headD 0) (tokB w a) with
    | [] => ([], (a : Int), false)
    | x :: _ => if x = -2 then (out, (a : Int), true)
      else if x = -1 then pbRun g L w n ((leadsX g L (P.headD 0) (-1 - tokB w a)).toNat :: P) (a + 1) out
      else if out.length = 60 then ([], (a : Int), false)
      else pbRun g L w n ((leadsX g L ((P.drop (ruleN g x.toNat).2.length).headD 0) (ruleN g x.toNat).1).toNat :: P.drop (ruleN g x.toNat).2.length) a (out ++ [x])
noncomputable def pbV (g : GrammarT) (L : LrT) (w : List Int) : PbV := pbRun g L w 200 [0] 0 []
structure InvPB (g : GrammarT) (L : LrT) (w : List Int) (V : PbV) (P : List Nat) (a : Nat) (out : List Int) : Prop where
  path : PileP g L P
  ale : a ≤ w.length
  ole : out.length ≤ 60
  ple : P.length ≤ 1 + a + out.length
  run : pbRun g L w (200 - a - out.length) P a out = V
theorem InvPB.start (g : GrammarT) (L : LrT) (w : List Int) : InvPB g L w (pbV g L w) [0] 0 [] := ⟨.one, Nat.zero_le _, by simp, by simp, rfl⟩
theorem tokB_rng {w : List Int} {k : Int} (hw : ∀ x ∈ w, 0 ≤ x ∧ x < k) (h0 : 0 ≤ k) (a : Nat) : -1 ≤ tokB w a ∧ (a < w.length → 0 ≤ tokB w a) ∧ (w.length ≤ a → tokB w a = -1) ∧ (tokB w a < k ∨ tokB w a = -1) := by
  unfold tokB
  by_cases h : a < w.length
  · rw [List.getElem?_eq_getElem h, Option.getD_some]
    have := hw _ (List.getElem_mem h)
    exact ⟨by omega, fun _ => this.1, fun h2 => absurd h (by omega), .inl this.2⟩
  · rw [List.getElem?_eq_none (by omega), Option.getD_none]
    exact ⟨by omega, fun h2 => absurd h2 h, fun _ => rfl, .inr rfl⟩
theorem InvPB.unf {g : GrammarT} {L : LrT} {w : List Int} {V : PbV} {P : List Nat} {a : Nat} {out : List Int} (h : InvPB g L w V P a out) (hw : w.length ≤ 20) : ∃ n, n = 199 - a - out.length ∧ pbRun g L w (n + 1) P a out = V := ⟨199 - a - out.length, rfl, by
  have := h.run; have := h.ale; have := h.ole
  rw [show 199 - a - out.length + 1 = 200 - a - out.length by omega]
  exact h.run⟩
theorem InvPB.none {g : GrammarT} {L : LrT} {w : List Int} {V : PbV} {P : List Nat} {a : Nat} {out : List Int} (h : InvPB g L w V P a out) (hw : w.length ≤ 20) (ht : todoX g L (P.headD 0) (tokB w a) = []) : V = ([], (a : Int), false) := by
  obtain ⟨n, _, hr⟩ := h.unf hw
  simp only [pbRun, ht] at hr
  exact hr.symm
theorem InvPB.done {g : GrammarT} {L : LrT} {w : List Int} {V : PbV} {P : List Nat} {a : Nat} {out : List Int} (h : InvPB g L w V P a out) (hw : w.length ≤ 20) {l : List Int} (ht : todoX g L (P.headD 0) (tokB w a) = -2 :: l) : V = (out, (a : Int), true) := by
  obtain ⟨n, _, hr⟩ := h.unf hw
  simp only [pbRun, ht, if_true] at hr
  exact hr.symm
theorem InvPB.full {g : GrammarT} {L : LrT} {w : List Int} {V : PbV} {P : List Nat} {a : Nat} {out : List Int} (h : InvPB g L w V P a out) (hw : w.length ≤ 20) {r : Nat} {l : List Int} (ht : todoX g L (P.headD 0) (tokB w a) = (r : Int) :: l) (ho : out.length = 60) : V = ([], (a : Int), false) := by
  obtain ⟨n, _, hr⟩ := h.unf hw
  simp only [pbRun, ht] at hr
  rw [if_neg (show ¬ (r : Int) = -2 by omega), if_neg (show ¬ (r : Int) = -1 by omega), if_pos ho] at hr
  exact hr.symm
theorem InvPB.shift {g : GrammarT} (hG : OkG g) {L : LrT} (hL : LrG g L) {w : List Int} {V : PbV} {s : Nat} {P : List Nat} {a : Nat} {out : List Int} (h : InvPB g L w V (s :: P) a out) (hw : w.length ≤ 20) (ha : a < w.length) (hw2 : ∀ x ∈ w, 0 ≤ x ∧ x < g.2.1) {l : List Int} (ht : todoX g L s (tokB w a) = -1 :: l) (hl : 0 ≤ leadsX g L s (-1 - tokB w a)) : ∃ n : Nat, leadsX g L s (-1 - tokB w a) = (n : Int) ∧ InvPB g L w V (n :: s :: P) (a + 1) out := by
  obtain ⟨n, hn, hr⟩ := h.unf hw
  obtain ⟨t1, t2, t3, t4⟩ := tokB_rng hw2 (by have := hG.t0; omega) a
  have ht0 := t2 ha
  have hN0 := hG.n0
  obtain ⟨q, hq, hp⟩ := h.path.go hG hL (x := -1 - tokB w a) (by omega) (by omega) hl
  simp only [pbRun, List.headD_cons, ht] at hr
  rw [if_neg (show ¬ (-1 : Int) = -2 by omega)] at hr
  simp only [if_true, hq, Int.toNat_natCast] at hr
  have h1 := h.ale
  have h2 := h.ole
  have h3 := h.ple
  refine ⟨q, hq, hp, by omega, h2, by simp only [List.length_cons] at h3 ⊢; omega, ?_⟩
  rw [show 200 - (a + 1) - out.length = n by omega]
  exact hr
theorem InvPB.red {g : GrammarT} (hG : OkG g) {L : LrT} (hL : LrG g L) {w : List Int} {V : PbV} {s : Nat} {P : List Nat} {a : Nat} {out : List Int} (h : InvPB g L w V (s :: P) a out) (hw : w.length ≤ 20) {r : Nat} {l : List Int} (ht : todoX g L s (tokB w a) = (r : Int) :: l) (hm : (r : Int) ∈ endsX g L s) (ho : ¬ out.length = 60) : r < g.2.2.length ∧ ∃ (b n : Nat) (Q : List Nat), (s :: P).drop (ruleN g r).2.length = b :: Q ∧ leadsX g L b (ruleN g r).1 = (n : Int) ∧ InvPB g L w V (n :: b :: Q) a (out ++ [(r : Int)]) := by
  obtain ⟨n, hn, hr⟩ := h.unf hw
  obtain ⟨hrl, b, q, Q, hd, hq, hp⟩ := h.path.reduce hG hL hm
  simp only [pbRun, List.headD_cons, ht] at hr
  rw [if_neg (show ¬ (r : Int) = -2 by omega), if_neg (show ¬ (r : Int) = -1 by omega), if_neg ho, Int.toNat_natCast, hd, List.headD_cons, hq, Int.toNat_natCast] at hr
  have h1 := h.ale
  have h2 := h.ole
  have h3 := h.ple
  have hlen : (b :: Q).length ≤ (s :: P).length := by
    rw [← hd, List.length_drop]; omega
  refine ⟨hrl, b, q, Q, hd, hq, hp, h1, by rw [List.length_append, List.length_singleton]; omega, by simp only [List.length_cons, List.length_append, List.length_singleton, List.length_nil] at h3 hlen ⊢; omega, ?_⟩
  rw [show 200 - a - (out ++ [(r : Int)]).length = n by rw [List.length_append, List.length_singleton]; omega]
  exact hr
theorem todo_cases {g : GrammarT} {L : LrT} {s : Nat} {t : Int} (h : (todoX g L s t).length ≤ 1) : todoX g L s t = [] ∨ (todoX g L s t = [-1] ∧ 0 ≤ t ∧ 0 ≤ leadsX g L s (-1 - t) ∧ endsAtX g L s t = []) ∨ (todoX g L s t = [-2] ∧ t < 0 ∧ overX g L s = true ∧ endsAtX g L s t = []) ∨ ∃ r, todoX g L s t = [r] ∧ endsAtX g L s t = [r] ∧ ¬ (0 ≤ t ∧ 0 ≤ leadsX g L s (-1 - t)) ∧ ¬ (t < 0 ∧ overX g L s = true) := by
  unfold todoX at h ⊢
  by_cases h1 : 0 ≤ t ∧ 0 ≤ leadsX g L s (-1 - t)
  · rw [if_pos h1] at h ⊢
    have h2 : ¬ (t < 0 ∧ overX g L s = true) := fun h2 => by omega
    rw [if_neg h2] at h ⊢
    cases he : endsAtX g L s t with
    | nil => exact .inr (.inl ⟨rfl, h1.1, h1.2, rfl⟩)
    | cons r l => rw [he] at h; simp at h
  · rw [if_neg h1] at h ⊢
    by_cases h2 : t < 0 ∧ overX g L s = true
    · rw [if_pos h2] at h ⊢
      cases he : endsAtX g L s t with
      | nil => exact .inr (.inr (.inl ⟨rfl, h2.1, h2.2, rfl⟩))
      | cons r l => rw [he] at h; simp at h
    · rw [if_neg h2] at h ⊢
      cases he : endsAtX g L s t with
      | nil => exact .inl rfl
      | cons r l =>
        rw [he] at h
        cases l with
        | nil => exact .inr (.inr (.inr ⟨r, rfl, rfl, h1, h2⟩))
        | cons r2 l2 => simp at h
end Go.Proofs.YtkolhcoeifghpaaGreat.En
end
section
namespace Go.Proofs.YtkolhcoeifghpaaGreat.En
open Go.RowKit
set_option linter.unusedSimpArgs false
set_option linter.unusedVariables false
set_option maxHeartbeats 4000000
theorem ints_takeD (l : List Int) (n : Nat) : (ints l).take n = ints (l.take n) := by simp [ints, List.map_take]
theorem ints_setD (l : List Int) (n : Nat) (r : Int) : (ints l).set n [.v (.int .i64 r)] = ints (l.set n r) := by simp [ints, List.map_set]
theorem deleteInts (f : FuncId) (cap : List AV) (p : Int → Bool) (xs : List Int) (hx : xs.length < 1000000) (hcap : cap.all cl1 = true) (hg : ∀ x ∈ xs, Pure Tryz.prog f (.v (.int .i64 x) :: cap) (.v (.bool (p x)))) : Fn Tryz.prog 119 1 [.own 0 1 0 xs.length, .fn f cap] [(0, ⟨3, 1, ints xs⟩)] (.own 0 1 0 (xs.filter fun x => !p x).length) 1 [(0, ⟨3, 1, ints (xs.filter fun x => !p x)⟩)] := by
  have ci := indexFuncInt f cap p xs (by omega) hcap hg
  refine Fn.mk (rs := [.tmp 4]) (nt := 42) Tryz.func119 (by kernel_rfl) rfl rfl rfl (by simp) ?_
  simp only [sl]
  refine wkc0 _ ?_
  refine GS.cd (ci) rfl rfl rfl rfl (by simp [go_sem, List.take_of_length_le, hcap, all_cl1 hcap] <;> with_reducible rfl) rfl (by exact .cons (Fz.all rfl rfl (by simp) rfl (ints_cl _)) (.cons (Fz.cl (by simpa [cl] using hcap)) .nil)) rfl ?_
  refine wkc0 _ ?_
  rcases fstP_cases p xs with ⟨h1, h2⟩ | ⟨k, h1, hD⟩
  · rw [h1, h2]
    refine wkc0 _ ?_
    refine OutF.mkn (xs := ?_) (nm [0]) ?_ ?_ ?_ ?_ ?_ (by first | exact .inr rfl | exact .inl rfl)
    rotate_left
    · simp [go_sem, List.take_of_length_le] <;> with_reducible rfl
    · simp [go_sem, List.take_of_length_le, ren, ren1, ren2, okr, okr1, okr2, ChkN, BlkN, List.range_succ, nf]
    · simp [go_sem, List.take_of_length_le, ren, ren1, ren2, okr, okr1, okr2, ChkN, BlkN, List.range_succ, nf]
    · simp [go_sem, List.take_of_length_le, ren, ren1, ren2, okr, okr1, okr2, ChkN, BlkN, List.range_succ, nf]
    · rfl
  · rw [h1]
    have hk1 : ((k : Int) == -1) = false := by rw [beq_eq_false_iff_ne]; omega
    have hk2 : ¬ (k : Int) = -1 := by omega
    have stepk : wr64 ((k : Int) + 1) = ((k + 1 : Nat) : Int) := wr64_id (by have := hD.jl; omega) (by have := hD.jl; omega)
    refine wkc (And.intro @hk1 (And.intro @hk2 (@stepk))) _ ?_
    refine Holds.loop (ι := Nat × Nat × List Int) (fun i => ⟨[(0, .own 0 1 0 xs.length), (1, .fn f cap), (5, .v (.int .i64 i.1)), (6, .v (.int .i64 i.2.1))], [(0, ⟨3, 1, ints i.2.2⟩)], 1⟩)
      (fun i => DelI p xs i.2.2 i.1 i.2.1) (fun i => xs.length - i.2.1) (k, k + 1, xs) hD ?_ ?_
    · exact Cov.ofn (id) rfl (by simp [go_sem, List.take_of_length_le, ren, ren1, ren2, okr, okr1, okr2, ChkT, ChkN, BlkN, nf, okr1_cap hcap, ren1_cap hcap]) (by simp [go_sem, List.take_of_length_le, ren, ren1, ren2, okr, okr1, okr2, ChkT, ChkN, BlkN, nf, okr1_cap hcap, ren1_cap hcap])
    clear hD h1 hk1 hk2 stepk
    rintro ⟨i, j, L⟩ hD
    dsimp only at hD ⊢
    have hij := hD.ij
    have hjl := hD.jl
    have hln := hD.ln
    have stepi : wr64 ((i : Int) + 1) = ((i + 1 : Nat) : Int) := wr64_id (by omega) (by omega)
    have stepj : wr64 ((j : Int) + 1) = ((j + 1 : Nat) : Int) := wr64_id (by omega) (by omega)
    refine wkc0 _ ?_
    refine Holds.cond rfl (fun h => ?_) (fun h => ?_)
    · have hlt : j < xs.length := by simpa using h
      have hxj : xs[j]? = some xs[j] := List.getElem?_eq_getElem hlt
      have hgj := hg _ (List.getElem_mem hlt)
      generalize xs[j] = x at hxj hgj
      have hLj : L[j]? = some x := hD.at_.trans hxj
      have hlL : j < L.length := by omega
      have hiL : i < L.length := by omega
      have hix : i < xs.length := by omega
      refine wkc (And.intro (@get_E _ _ _ _ hLj) (And.intro @hLj (And.intro @hlt (@hlL)))) _ ?_
      refine GS.cc (hgj) rfl rfl rfl rfl (by simp [go_sem, List.take_of_length_le, hcap, all_cl1 hcap] <;> with_reducible rfl) rfl (by simp [go_sem, List.take_of_length_le, hcap, all_cl1 hcap]) ?_
      refine wkc0 _ ?_
      cases hp : p x with
      | false =>
        refine wkc (And.intro @hiL (And.intro @hix (And.intro @ints_setD (@stepi)))) _ ?_
        refine ⟨(i + 1, j + 1, L.set i x), hD.keep hxj hp, by dsimp only; omega, ?_⟩
        rw [stepj]
        exact Cov.ofn (id) rfl (by simp [go_sem, List.take_of_length_le, ren, ren1, ren2, okr, okr1, okr2, ChkT, ChkN, BlkN, nf, ints_setD, okr1_cap hcap, ren1_cap hcap]) (by simp [go_sem, List.take_of_length_le, ren, ren1, ren2, okr, okr1, okr2, ChkT, ChkN, BlkN, nf, ints_setD, okr1_cap hcap, ren1_cap hcap])
      | true =>
        refine wkc0 _ ?_
        refine ⟨(i, j + 1, L), hD.skip hxj hp, by dsimp only; omega, ?_⟩
        rw [stepj]
        exact Cov.ofn (id) rfl (by simp [go_sem, List.take_of_length_le, ren, ren1, ren2, okr, okr1, okr2, ChkT, ChkN, BlkN, nf, okr1_cap hcap, ren1_cap hcap]) (by simp [go_sem, List.take_of_length_le, ren, ren1, ren2, okr, okr1, okr2, ChkT, ChkN, BlkN, nf, okr1_cap hcap, ren1_cap hcap])
    · have hje : j = xs.length := by simp at h; omega
      subst hje
      have hfin := hD.fin
      have hi2 : i ≤ xs.length := by omega
      have hiL : i ≤ L.length := by omega
      have hfl : (xs.filter fun x => !p x).length = i := by rw [← hfin, List.length_take]; omega
      rw [hfl, ← hfin]
      refine wkc (And.intro @hi2 (@hiL)) _ ?_
      refine GS.clr (e := 3) (s1 := ?_) rfl rfl rfl rfl (by simp [go_sem]) zc3 ti3 rfl rfl rfl (by simp; omega) ?_ ?_
      rotate_left
      · simp [go_sem, ints_takeD] <;> with_reducible rfl
      refine wkc (@hi2) _ ?_
      refine OutF.mkn (xs := ?_) (nm [0]) ?_ ?_ ?_ ?_ ?_ (by first | exact .inr rfl | exact .inl rfl)
      rotate_left
      · simp [go_sem, List.take_of_length_le] <;> with_reducible rfl
      · simp [go_sem, List.take_of_length_le, ren, ren1, ren2, okr, okr1, okr2, ChkN, BlkN, List.range_succ, nf]
      · simp [go_sem, List.take_of_length_le, ren, ren1, ren2, okr, okr1, okr2, ChkN, BlkN, List.range_succ, nf]
      · simp [go_sem, List.take_of_length_le, ren, ren1, ren2, okr, okr1, okr2, ChkN, BlkN, List.range_succ, nf]
      · rfl
theorem endsInG (g : GrammarT) (hG : OkG g) (L : LrT) (hL : LrG g L) (s : Nat) (hs : s < L.1.length) : Fn Tryz.prog 59 0 [.ag (grammarC g), .ag (lrC L), .v (.int .i64 s)] [] (.own 0 1 0 (endsX g L s).length) 1 [(0, ⟨3, 1, ints (endsX g L s)⟩)] := by
  have hS := hL.st hs
  obtain ⟨hso, _, hun, hsl⟩ := hL.ok hs
  rw [show endsX g L s = endsF g (stAt L s) from rfl]
  generalize stAt L s = S at hS hso hun hsl ⊢
  refine Fn.mk (rs := [.tmp 6]) (nt := 47) Tryz.func59 (by kernel_rfl) rfl rfl rfl (by simp) ?_
  simp only [sl, grammarC, lrC]
  refine wkdc (And.intro @hs (And.intro @hS (And.intro (@get_E _ _ _ _ hS) (@itemssC.eq_1)))) _ ?_
  refine Holds.loop (ι := Nat) (fun i => ⟨[(3, .pb 0 3 0 0), (7, .own 1 1 0 (endsF g (S.take i)).length), (15, .im 3 (nodes S)), (16, .v (.int .i64 S.length)), (17, .v (.int .i64 i))], [(1, ⟨3, 1, ints (endsF g (S.take i))⟩), (0, ⟨31, 3, [grammarC g]⟩)], 2⟩)
    (fun i => i ≤ S.length) (fun i => S.length - i) 0 (Nat.zero_le _) ?_ ?_
  · exact Cov.ofn (nm [0, 2]) rfl (by simp [go_sem, List.take_of_length_le, ren, ren1, ren2, okr, okr1, okr2, ChkT, ChkN, BlkN, nf, grammarC, show endsF g [] = [] from rfl, show ints [] = [] from rfl]) (by simp [go_sem, List.take_of_length_le, ren, ren1, ren2, okr, okr1, okr2, ChkT, ChkN, BlkN, nf, grammarC, show endsF g [] = [] from rfl, show ints [] = [] from rfl])
  intro i hi
  have stepi : wr64 ((i : Int) + 1) = ((i + 1 : Nat) : Int) := wr64_id (by omega) (by omega)
  refine wkdc0 _ ?_
  refine Holds.cond rfl (fun h => ?_) (fun h => ?_)
  · have hlt : i < S.length := by simp at h; omega
    have hzi : S[i]? = some S[i] := List.getElem?_eq_getElem hlt
    have hnx := endsF_snoc (g := g) hzi
    obtain ⟨r, d, hr, hd, hz⟩ := mem_univX.1 (hun _ (List.getElem_mem hlt))
    have hel := endsF_len g (S.take i)
    rw [List.length_take] at hel
    rw [hz] at hzi hnx
    clear hz
    rw [gX_len] at hr
    rw [isEnd_N] at hnx
    generalize endsF g (S.take i) = E at hnx hel ⊢
    have hbb : (E.length + 1) * 8 ≤ 140737488355328 := by omega
    by_cases hrlt : r < g.2.2.length
    · have hri : (r : Int) < (g.2.2.length : Int) := by omega
      rw [ruleX_lt hrlt] at hd
      have hrr := ruleN_at hrlt
      rw [decide_eq_true hrlt, Bool.true_and] at hnx
      generalize ruleN g r = R at hd hrr hnx
      by_cases hdl : d = R.2.length
      · have hdi : ((d : Int) == (R.2.length : Int)) = true := by simp [hdl]
        rw [if_pos (decide_eq_true hdl)] at hnx
        refine wkdsc (And.intro @hlt (And.intro @hzi (And.intro (@get_E _ _ _ _ hzi) (And.intro @nodeC.eq_1 (And.intro @itemN.eq_1 (@grammarC.eq_1)))))) _ ?_
        (refine Holds.any mixed ?_ ?_; (· kernel_rfl))
        refine wkdsc (And.intro @hrlt (And.intro @hri (And.intro @hrr (And.intro (@get_E _ _ _ _ hrr) (And.intro @ruleC.eq_1 (And.intro @hdi (And.intro @hlt (And.intro @hzi (And.intro (@get_E _ _ _ _ hzi) (And.intro @nodeC.eq_1 (And.intro @itemN.eq_1 (And.intro @grammarC.eq_1 (@hbb))))))))))))) _ ?_
        refine ⟨i + 1, by omega, by omega, ?_⟩
        rw [stepi, hnx]
        exact Cov.ofn (nm [0, 5]) rfl (by simp [go_sem, List.take_of_length_le, ren, ren1, ren2, okr, okr1, okr2, ChkT, ChkN, BlkN, nf, grammarC, itemN, ints_snoc]) (by simp [go_sem, List.take_of_length_le, ren, ren1, ren2, okr, okr1, okr2, ChkT, ChkN, BlkN, nf, grammarC, itemN, ints_snoc])
      · have hdi : ((d : Int) == (R.2.length : Int)) = false := by rw [beq_eq_false_iff_ne]; omega
        have hdn : ¬ (d : Int) = (R.2.length : Int) := by omega
        rw [if_neg (by simp [hdl]), List.append_nil] at hnx
        refine wkdsc (And.intro @hlt (And.intro @hzi (And.intro (@get_E _ _ _ _ hzi) (And.intro @nodeC.eq_1 (And.intro @itemN.eq_1 (@grammarC.eq_1)))))) _ ?_
        (refine Holds.any mixed ?_ ?_; (· kernel_rfl))
        refine wkdsc (And.intro @hrlt (And.intro @hri (And.intro @hrr (And.intro (@get_E _ _ _ _ hrr) (And.intro @ruleC.eq_1 (And.intro @hdi (And.intro @hdn (And.intro @hdl (And.intro @hlt (And.intro @hzi (And.intro (@get_E _ _ _ _ hzi) (And.intro @nodeC.eq_1 (And.intro @itemN.eq_1 (@grammarC.eq_1)))))))))))))) _ ?_
        refine ⟨i + 1, by omega, by omega, ?_⟩
        rw [stepi, hnx]
        exact Cov.ofn (id) rfl (by simp [go_sem, List.take_of_length_le, ren, ren1, ren2, okr, okr1, okr2, ChkT, ChkN, BlkN, nf, grammarC]) (by simp [go_sem, List.take_of_length_le, ren, ren1, ren2, okr, okr1, okr2, ChkT, ChkN, BlkN, nf, grammarC])
    · have hri : ¬ (r : Int) < (g.2.2.length : Int) := by omega
      rw [decide_eq_false hrlt, Bool.false_and, if_neg (by simp), List.append_nil] at hnx
      refine wkdsc (And.intro @hlt (And.intro @hzi (And.intro (@get_E _ _ _ _ hzi) (And.intro @nodeC.eq_1 (And.intro @itemN.eq_1 (@grammarC.eq_1)))))) _ ?_
      (refine Holds.any mixed ?_ ?_; (· kernel_rfl))
      refine wkdsc (And.intro @hrlt (And.intro @hri (And.intro @hlt (And.intro @hzi (And.intro (@get_E _ _ _ _ hzi) (And.intro @nodeC.eq_1 (And.intro @itemN.eq_1 (@grammarC.eq_1)))))))) _ ?_
      refine ⟨i + 1, by omega, by omega, ?_⟩
      rw [stepi, hnx]
      exact Cov.ofn (id) rfl (by simp [go_sem, List.take_of_length_le, ren, ren1, ren2, okr, okr1, okr2, ChkT, ChkN, BlkN, nf, grammarC]) (by simp [go_sem, List.take_of_length_le, ren, ren1, ren2, okr, okr1, okr2, ChkT, ChkN, BlkN, nf, grammarC])
  · have hie : i = S.length := by simp at h; omega
    subst hie
    rw [List.take_length]
    refine wkdc0 _ ?_
    refine OutF.mkn (xs := ?_) (nm [1]) ?_ ?_ ?_ ?_ ?_ (by first | exact .inr rfl | exact .inl rfl)
    rotate_left
    · simp [go_sem, List.take_of_length_le] <;> with_reducible rfl
    · simp [go_sem, List.take_of_length_le, ren, ren1, ren2, okr, okr1, okr2, ChkN, BlkN, List.range_succ, nf]
    · simp [go_sem, List.take_of_length_le, ren, ren1, ren2, okr, okr1, okr2, ChkN, BlkN, List.range_succ, nf]
    · simp [go_sem, List.take_of_length_le, ren, ren1, ren2, okr, okr1, okr2, ChkN, BlkN, List.range_succ, nf]
    · rfl
theorem isOverG (g : GrammarT) (L : LrT) (hL : LrG g L) (s : Nat) (hs : s < L.1.length) : Pure Tryz.prog 87 [.ag (grammarC g), .ag (lrC L), .v (.int .i64 s)] (.v (.bool (overX g L s))) := by
  have hS := hL.st hs
  obtain ⟨hso, _, hun, hsl⟩ := hL.ok hs
  unfold overX
  generalize stAt L s = S at hS hso hun hsl ⊢
  have cc := containsItem S ((g.2.2.length : Int), 1, 0) (by omega)
  generalize decide (((g.2.2.length : Int), (1 : Int), (0 : Int)) ∈ S) = b at cc ⊢
  simp only [nodeC] at cc
  refine Pure.mk (rs := [.tmp 6]) (nt := 17) Tryz.func87 (by kernel_rfl) rfl rfl rfl (by simp) ?_
  simp only [sl, grammarC, lrC]
  refine wkdsc0 _ ?_
  refine Holds.anx [8] [0, 1, 2, 3, 4, 5, 6, 7] (fun n => decide (2 ≤ n)) mixed ?_ ?_ ?_; (· kernel_rfl); (· kernel_rfl)
  refine wkdasc (And.intro @hs (And.intro @hS (And.intro (@get_E _ _ _ _ hS) (And.intro @itemssC.eq_1 (@grammarC.eq_1))))) _ ?_
  first | refine GS.cc (cc) rfl rfl rfl rfl (by simp [go_sem, List.take_of_length_le] <;> with_reducible rfl) rfl (by simp [go_sem, List.take_of_length_le]) ?_ | refine Gd.cc (cc) rfl rfl rfl rfl (by simp [go_sem, List.take_of_length_le] <;> with_reducible rfl) rfl (by simp [go_sem, List.take_of_length_le]) ?_ | refine Gx.cc (cc) rfl rfl rfl rfl rfl (by simp [go_sem, List.take_of_length_le] <;> with_reducible rfl) rfl (by simp [go_sem, List.take_of_length_le]) ?_ | refine Gx.cch (cc) rfl rfl rfl rfl rfl (by simp [go_sem, List.take_of_length_le] <;> with_reducible rfl) rfl (by simp [go_sem, List.take_of_length_le]) ?_
  refine wkdac0 _ ?_
  refine Out.mk (xs := ?_) ?_ ?_ (by first | exact .inr rfl | exact .inl rfl)
  rotate_left
  · simp [go_sem, List.take_of_length_le] <;> with_reducible rfl
  exact .v _
theorem leadsG (g : GrammarT) (hG : OkG g) (L : LrT) (hL : LrG g L) (s : Nat) (hs : s < L.1.length) (x : Int) (hx0 : -g.2.1 ≤ x) (hx1 : x < g.1) : Pure Tryz.prog 52 [.ag (grammarC g), .ag (lrC L), .v (.int .i64 s), .v (.int .i64 x)] (.v (.int .i64 (leadsX g L s x))) := by
  have hN1 := hG.n1
  have hT1 := hG.t1
  obtain ⟨hrow, hrl⟩ := hL.row hG hs
  have hld : leadsX g L s x = (L.2.getD s []).getD (x + g.2.1).toNat (-1) := rfl
  generalize leadsX g L s x = e at hld ⊢
  generalize L.2.getD s [] = row at hrow hrl hld
  have hs2 : s < L.2.length := (List.getElem?_eq_some_iff.1 hrow).1
  obtain ⟨i, hi1, hil, hi2⟩ : ∃ i : Nat, x + g.2.1 = (i : Int) ∧ i < row.length ∧ (x + g.2.1).toNat = i := ⟨(x + g.2.1).toNat, by omega, by omega, by omega⟩
  have hei : row[i]? = some row[i] := List.getElem?_eq_getElem hil
  rw [hi2, List.getD_eq_getElem?_getD, hei] at hld
  change e = row[i] at hld
  rw [← hld] at hei
  have hw : wr64 (x + g.2.1) = (i : Int) := by rw [hi1]; exact wr64_id (by omega) (by omega)
  refine Pure.mk (rs := [.tmp 8]) (nt := 20) Tryz.func52 (by kernel_rfl) rfl rfl rfl (by simp) ?_
  simp only [sl, grammarC, lrC]
  refine wkdsc0 _ ?_
  (refine Holds.any mixed ?_ ?_; (· kernel_rfl))
  refine wkdsc (And.intro @hs2 (And.intro @hrow (And.intro (@get_E _ _ _ _ hrow) (And.intro @intsC.eq_1 (And.intro @hw (And.intro @hil (And.intro @hei (@get_E _ _ _ _ hei)))))))) _ ?_
  refine Out.mk (xs := ?_) ?_ ?_ (by first | exact .inr rfl | exact .inl rfl)
  rotate_left
  · simp [go_sem, List.take_of_length_le] <;> with_reducible rfl
  exact .v _
end Go.Proofs.YtkolhcoeifghpaaGreat.En
end
section
namespace Go.Proofs.YtkolhcoeifghpaaGreat.En
open Go.RowKit
set_option linter.unusedSimpArgs false
set_option linter.unusedVariables false
set_option maxHeartbeats 4000000
noncomputable def headF (g : GrammarT) : Nat → Bool := headH (madeS g true) (madeS g false) (firstS g) (followS g)
theorem endsAt1 (g : GrammarT) (hG : OkG g) (q : Nat) (hq : q < g.2.2.length) (t : Int) (ht0 : -1 ≤ t) (ht1 : t < g.2.1) : Pure Tryz.prog 120 [.v (.int .i64 q), .pi (grammarC g), .pi [.v (.int .i64 t)], .pi [.pi (boxH (headF g))]] (.v (.bool (!followS g ((ruleN g q).1, t)))) := by
  have hN1 := hG.n1
  have hT1 := hG.t1
  have hrr := ruleN_at hq
  have hl0 := hG.l0 _ (List.mem_of_getElem? hrr)
  have hl1 := hG.l1 _ (List.mem_of_getElem? hrr)
  generalize ruleN g q = R at hrr hl0 hl1 ⊢
  obtain ⟨lf, rt⟩ := R
  dsimp only at hl0 hl1 ⊢
  obtain ⟨x, rfl⟩ : ∃ x : Nat, lf = (x : Int) := ⟨lf.toNat, by omega⟩
  have hx6 : x < 6 := by omega
  have hatl : (boxH (headF g))[60 + x]? = some (.v (.bool (followS g ((x : Int), -1)))) := by
    rw [boxH_at _ (by omega), headF, headH_L _ _ _ _ hx6]
  have hat4 : ∀ i : Nat, i < 4 → (boxH (headF g))[36 + x * 4 + i]? = some (.v (.bool (followS g ((x : Int), (i : Int))))) := fun i hi => by
    rw [boxH_at _ (by omega), headF, headH_W _ _ _ _ hx6 hi]
  have hbl := boxH_len (headF g)
  generalize boxH (headF g) = B at hatl hat4 hbl ⊢
  refine Pure.mk (rs := [.tmp 5]) (nt := 31) Tryz.func120 (by kernel_rfl) rfl rfl rfl (by simp) ?_
  simp only [sl, grammarC]
  by_cases ht : t < 0
  · have hte : t = -1 := by omega
    subst hte
    refine wkdc (And.intro @hq (And.intro @hrr (And.intro (@get_E _ _ _ _ hrr) (And.intro @ruleC.eq_1 (@hx6))))) _ ?_
    refine wkdc (And.intro @hatl (And.intro (@get_E _ _ _ _ hatl) (And.intro @hbl (show 60 + x < 66 by omega)))) _ ?_
    refine Out.mk (xs := ?_) ?_ ?_ (by first | exact .inr rfl | exact .inl rfl)
    rotate_left
    · simp [go_sem, List.take_of_length_le] <;> with_reducible rfl
    exact .v _
  · obtain ⟨i, rfl⟩ : ∃ i : Nat, t = (i : Int) := ⟨t.toNat, by omega⟩
    have hi4 : i < 4 := by omega
    have hat := hat4 i hi4
    refine wkdsc (And.intro @ht (And.intro @hq (And.intro @hrr (And.intro (@get_E _ _ _ _ hrr) (And.intro @ruleC.eq_1 (And.intro @hx6 (@hi4))))))) _ ?_
    (refine Holds.any mixed ?_ ?_; (· kernel_rfl))
    refine wkdsc (And.intro @ht (And.intro @hq (And.intro @hrr (And.intro (@get_E _ _ _ _ hrr) (And.intro @ruleC.eq_1 (And.intro @hx6 (And.intro @hi4 (And.intro @hat (And.intro (@get_E _ _ _ _ hat) (And.intro @hbl (show 36 + x * 4 + i < 66 by omega))))))))))) _ ?_
    refine Out.mk (xs := ?_) ?_ ?_ (by first | exact .inr rfl | exact .inl rfl)
    rotate_left
    · simp [go_sem, List.take_of_length_le] <;> with_reducible rfl
    exact .v _
theorem endsAtG (g : GrammarT) (hG : OkG g) (L : LrT) (hL : LrG g L) (s : Nat) (hs : s < L.1.length) (t : Int) (ht0 : -1 ≤ t) (ht1 : t < g.2.1) : Fn Tryz.prog 86 0 [.ag (grammarC g), .pi (boxH (headF g)), .ag (lrC L), .v (.int .i64 s), .v (.int .i64 t)] [] (.own 0 1 0 (endsAtX g L s t).length) 1 [(0, ⟨3, 1, ints (endsAtX g L s t)⟩)] := by
  have ce := endsInG g hG L hL s hs
  have hel := endsX_len hL hs
  have hes := fun (r : Int) (hr : r ∈ endsX g L s) => endsX_rng hL hs hr
  have cd := deleteInts 120 [.pi (grammarC g), .pi [.v (.int .i64 t)], .pi [.pi (boxH (headF g))]] (fun r => !followS g ((ruleN g r.toNat).1, t)) (endsX g L s) (by omega) rfl fun r hr => by
    obtain ⟨q, rfl, hq⟩ := hes r hr
    exact endsAt1 g hG q hq t ht0 ht1
  have hE : endsAtX g L s t = (endsX g L s).filter fun r => !(!followS g ((ruleN g r.toNat).1, t)) := by
    simp only [endsAtX, Bool.not_not]
  rw [hE]
  generalize (endsX g L s).filter (fun r => !(!followS g ((ruleN g r.toNat).1, t))) = D at cd ⊢
  generalize endsX g L s = es at ce cd hel
  have hbl := boxH_clA (headF g)
  generalize boxH (headF g) = B at cd hbl ⊢
  refine Fn.mk (rs := [.tmp 10]) (nt := 17) Tryz.func86 (by kernel_rfl) rfl rfl rfl (by simp) ?_
  simp only [sl, grammarC, lrC]
  refine wkc (And.intro @grammarC.eq_1 (@lrC.eq_1)) _ ?_
  refine GS.fnn [] (ce) rfl rfl rfl rfl (by simp [go_sem, List.take_of_length_le, ren, ren1, ren2, okr, okr1, okr2, ChkN, BlkN, List.range_succ, nf, grammarC, lrC] <;> with_reducible rfl) (by simp [go_sem, List.take_of_length_le, ren, ren1, ren2, okr, okr1, okr2, ChkN, BlkN, List.range_succ, nf, grammarC, lrC]) (by simp [go_sem, List.take_of_length_le, ren, ren1, ren2, okr, okr1, okr2, ChkN, BlkN, List.range_succ, nf, grammarC, lrC]) (by simp [List.range_succ, lb]) (ChkN.toB (by simp [go_sem, List.take_of_length_le, ren, ren1, ren2, okr, okr1, okr2, ChkN, BlkN, List.range_succ, nf, grammarC, lrC])) (by decide) (by simp) rfl (.nfr (by simp) .nil) (by simp [go_sem, List.take_of_length_le, ren, ren1, ren2, okr, okr1, okr2, ChkN, BlkN, List.range_succ, nf, grammarC, lrC] <;> with_reducible rfl) ?_
  repeat' first | (refine Holds.condT ?_ ?_; (· (simp [go_sem, List.take_of_length_le, grammarC] <;> with_reducible rfl))) | (refine Holds.condF ?_ ?_; (· (simp [go_sem, List.take_of_length_le, grammarC] <;> with_reducible rfl))) | refine Holds.seq ?_ | refine Holds.skip ?_ | refine Holds.exit ?_ | refine Holds.ret ?_ | refine thenA_normal ?_ | refine thenA_exit ?_ | refine thenA_ret ?_ | refine inB_normal ?_ | refine inB_ret ?_ | refine inB_here ?_ | (refine inB_past ?_ ?_; (· exact rfl)) | refine Holds.reg ?_ | refine Holds.block ?_ | refine GS.nil ?_ | (refine GS.stepD 15 (s' := ?_) rfl ?_ ?_ ?_; rotate_left; (· exact rfl); (· (simp [go_sem, List.take_of_length_le, grammarC] <;> with_reducible rfl))) | (refine GS.skip ?_ ?_ ?_; (· exact rfl); (· exact rfl)) | fail
  refine GS.frz [0, 1, 3] [(5, .pi (grammarC g)), (9, .pi [.v (.int .i64 t)]), (6, .pi [.pi B])] (.cons rfl (Fz.pbM rfl rfl rfl (.cons (.v _) (.cons (.v _) (.cons (.im _ _) .nil)))) (.cons rfl (Fz.pbM rfl rfl rfl (.cons (.v _) .nil)) (.cons rfl (Fz.pbM rfl rfl rfl (.cons (.pi _) .nil)) .nil))) ?_
  refine wkc (And.intro @frz.eq_1 (@grammarC.eq_1)) _ ?_
  refine GS.fnn [4] (cd) rfl rfl rfl rfl (by simp [go_sem, List.take_of_length_le, ren, ren1, ren2, okr, okr1, okr2, ChkN, BlkN, List.range_succ, nf, grammarC] <;> with_reducible rfl) (by simp [go_sem, List.take_of_length_le, ren, ren1, ren2, okr, okr1, okr2, ChkN, BlkN, List.range_succ, nf, grammarC]) (by simp [go_sem, List.take_of_length_le, ren, ren1, ren2, okr, okr1, okr2, ChkN, BlkN, List.range_succ, nf, grammarC]) (by simp [List.range_succ, lb]) (ChkN.toB (by simp [go_sem, List.take_of_length_le, ren, ren1, ren2, okr, okr1, okr2, ChkN, BlkN, List.range_succ, nf, grammarC])) (by decide) (by simp) rfl (.nfr (by simp) .nil) (by simp [go_sem, List.take_of_length_le, ren, ren1, ren2, okr, okr1, okr2, ChkN, BlkN, List.range_succ, nf, grammarC] <;> with_reducible rfl) ?_
  refine wkc0 _ ?_
  refine OutF.mkn (xs := ?_) (nm [4]) ?_ ?_ ?_ ?_ ?_ (by first | exact .inr rfl | exact .inl rfl)
  rotate_left
  · simp [go_sem, List.take_of_length_le] <;> with_reducible rfl
  · simp [go_sem, List.take_of_length_le, ren, ren1, ren2, okr, okr1, okr2, ChkN, BlkN, List.range_succ, nf]
  · simp [go_sem, List.take_of_length_le, ren, ren1, ren2, okr, okr1, okr2, ChkN, BlkN, List.range_succ, nf]
  · simp [go_sem, List.take_of_length_le, ren, ren1, ren2, okr, okr1, okr2, ChkN, BlkN, List.range_succ, nf]
  · rfl
end Go.Proofs.YtkolhcoeifghpaaGreat.En
end
section
namespace Go.Proofs.YtkolhcoeifghpaaGreat.En
open Go.RowKit
set_option linter.unusedSimpArgs false
set_option linter.unusedVariables false
set_option maxHeartbeats 4000000
theorem lrClashesG (g : GrammarT) (hG : OkG g) (L : LrT) (hL : LrG g L) : Fn Tryz.prog 40 0 [.ag (grammarC g), .ag (lrC L)] [] (.own 0 1 0 (lrClash g L L.1.length).length) 1 [(0, ⟨3, 1, ints (lrClash g L L.1.length)⟩)] := by
  have hlen := hG.len
  have hn0 := hG.n0
  have hN1 := hG.n1
  have hT0 := hG.t0
  have hT1 := hG.t1
  have hfew := hL.few
  have ch := headsG g hG
  change Fn _ _ 0 _ [] (.pb 0 66 0 0) 1 [(0, ⟨_, 66, [boxH (headF g)]⟩)] at ch
  refine Fn.mk (rs := [.tmp 4]) (nt := 68) Tryz.func40 (by kernel_rfl) rfl rfl rfl (by simp) ?_
  simp only [sl, grammarC, lrC]
  refine wkdc (@grammarC.eq_1) _ ?_
  refine GS.fnn [] (ch) rfl rfl rfl rfl (by simp [go_sem, List.take_of_length_le, ren, ren1, ren2, okr, okr1, okr2, ChkN, BlkN, List.range_succ, nf, grammarC] <;> with_reducible rfl) (by simp [go_sem, List.take_of_length_le, ren, ren1, ren2, okr, okr1, okr2, ChkN, BlkN, List.range_succ, nf, grammarC]) (by simp [go_sem, List.take_of_length_le, ren, ren1, ren2, okr, okr1, okr2, ChkN, BlkN, List.range_succ, nf, grammarC]) (by simp [List.range_succ, lb]) (ChkN.toB (by simp [go_sem, List.take_of_length_le, ren, ren1, ren2, okr, okr1, okr2, ChkN, BlkN, List.range_succ, nf, grammarC])) (by decide) (by simp) rfl (.nfr (by simp) .nil) (by simp [go_sem, List.take_of_length_le, ren, ren1, ren2, okr, okr1, okr2, ChkN, BlkN, List.range_succ, nf, grammarC] <;> with_reducible rfl) ?_
  repeat' first | (refine Holds.condT ?_ ?_; (· (simp [go_sem, List.take_of_length_le] <;> with_reducible rfl))) | (refine Holds.condF ?_ ?_; (· (simp [go_sem, List.take_of_length_le] <;> with_reducible rfl))) | refine Holds.seq ?_ | refine Holds.skip ?_ | refine Holds.exit ?_ | refine Holds.ret ?_ | refine thenA_normal ?_ | refine thenA_exit ?_ | refine thenA_ret ?_ | refine inB_normal ?_ | refine inB_ret ?_ | refine inB_here ?_ | (refine inB_past ?_ ?_; (· exact rfl)) | refine Holds.reg ?_ | refine Holds.block ?_ | refine GS.nil ?_ | refine Gd.nil ?_ | (refine Holds.any mixed ?_ ?_; (· kernel_rfl)) | (refine GS.stepD 13 (s' := ?_) rfl ?_ ?_ ?_; rotate_left; (· exact rfl); (· (simp [go_sem, List.take_of_length_le] <;> with_reducible rfl))) | (refine GS.skip ?_ ?_ ?_; (· exact rfl); (· exact rfl)) | (refine Gd.go (s' := ?_) ?_ ?_ ?_; rotate_left; (· exact rfl); (· (simp [go_sem, List.take_of_length_le] <;> with_reducible rfl))) | (refine Gd.skip ?_ ?_ ?_; (· exact rfl); (· exact rfl)) | fail
  refine GS.frz [2] [(5, .pi (boxH (headF g)))] (.cons rfl (Fz.box rfl rfl rfl (boxH_clA _)) .nil) ?_
  refine wkdc (And.intro @frz.eq_1 (@lrC.eq_1)) _ ?_
  refine Holds.loop (ι := Nat) (fun k => ⟨[(2, .pb 0 3 0 0), (3, .pb 1 2 0 0), (5, .pi (boxH (headF g))), (6, .own 2 1 0 (lrClash g L k).length), (16, .v (.int .i64 L.1.length)), (17, .v (.int .i64 k))], [(2, ⟨3, 1, ints (lrClash g L k)⟩), (1, ⟨48, 2, [lrC L]⟩), (0, ⟨31, 3, [grammarC g]⟩)], 3⟩)
    (fun k => k ≤ L.1.length) (fun k => L.1.length - k) 0 (Nat.zero_le _) ?_ ?_
  · exact Cov.ofn (nm [0, 1, 3]) rfl (by simp [go_sem, List.take_of_length_le, ren, ren1, ren2, okr, okr1, okr2, ChkT, ChkN, BlkN, nf, grammarC, lrC, show lrClash g L 0 = [] from rfl, show ints [] = [] from rfl]) (by simp [go_sem, List.take_of_length_le, ren, ren1, ren2, okr, okr1, okr2, ChkT, ChkN, BlkN, nf, grammarC, lrC, show lrClash g L 0 = [] from rfl, show ints [] = [] from rfl])
  intro k hk
  have stepk : wr64 ((k : Int) + 1) = ((k + 1 : Nat) : Int) := wr64_id (by omega) (by omega)
  refine wkdc0 _ ?_
  refine Holds.cond rfl (fun h => ?_) (fun h => ?_)
  · have hkl : k < L.1.length := by simp at h; omega
    have hnx := lrClash_next g L k
    have hll := lrClash_len g L k
    generalize lrClash g L k = C at hnx hll ⊢
    have hbb : (C.length + 1) * 8 ≤ 140737488355328 := by omega
    refine wkdc0 _ ?_
    refine Holds.loop (ι := Nat) (fun i => ⟨[(2, .pb 0 3 0 0), (3, .pb 1 2 0 0), (5, .pi (boxH (headF g))), (6, .own 2 1 0 C.length), (7, .v (.int .i64 k)), (8, .v (.bool (clashAt g L k i))), (9, .v (.int .i64 ((i : Int) - 1))), (16, .v (.int .i64 L.1.length)), (17, .v (.int .i64 k))], [(2, ⟨3, 1, ints C⟩), (1, ⟨48, 2, [lrC L]⟩), (0, ⟨31, 3, [grammarC g]⟩)], 3⟩)
      (fun i => i ≤ (g.2.1 + 1).toNat) (fun i => (g.2.1 + 1).toNat - i) 0 (Nat.zero_le _) ?_ ?_
    · exact Cov.ofn (id) rfl (by simp [go_sem, List.take_of_length_le, ren, ren1, ren2, okr, okr1, okr2, ChkT, ChkN, BlkN, nf, grammarC, lrC, show clashAt g L k 0 = false from rfl]) (by simp [go_sem, List.take_of_length_le, ren, ren1, ren2, okr, okr1, okr2, ChkT, ChkN, BlkN, nf, grammarC, lrC, show clashAt g L k 0 = false from rfl])
    intro i hi
    have stepi : wr64 (i : Int) = ((i + 1 : Nat) : Int) - 1 := by rw [wr64_id (by omega) (by omega)]; omega
    have hci := clashAt_next g L k i
    refine wkdc (And.intro @grammarC.eq_1 (@lrC.eq_1)) _ ?_
    refine Holds.cond rfl (fun h => ?_) (fun h => ?_)
    · have hit : (i : Int) - 1 < g.2.1 := by simpa using h
      have ct := endsAtG g hG L hL k hkl ((i : Int) - 1) (by omega) hit
      have hmv : manyX g L k ((i : Int) - 1) = (endsAtX g L k ((i : Int) - 1)).length + if (decide ((i : Int) - 1 < 0) && overX g L k) || (decide (0 ≤ (i : Int) - 1) && decide (0 ≤ leadsX g L k (-1 - ((i : Int) - 1)))) then 1 else 0 := rfl
      have hdl : (endsAtX g L k ((i : Int) - 1)).length ≤ 85 := Nat.le_trans (List.length_filter_le _ _) (endsX_len hL hkl)
      generalize endsAtX g L k ((i : Int) - 1) = D at ct hmv hdl
      generalize D.length = dl at ct hmv hdl
      obtain ⟨m1, hm1⟩ : ∃ m1, m1 = dl + 1 := ⟨_, rfl⟩
      have hw1 : wr64 ((dl : Int) + 1) = (m1 : Int) := by rw [wr64_id (by omega) (by omega)]; omega
      generalize manyX g L k ((i : Int) - 1) = mv at hmv hci
      refine wkdc (And.intro @grammarC.eq_1 (@lrC.eq_1)) _ ?_
      refine GS.fnn [] (ct) rfl rfl rfl rfl (by simp [go_sem, List.take_of_length_le, ren, ren1, ren2, okr, okr1, okr2, ChkN, BlkN, List.range_succ, nf, grammarC, lrC] <;> with_reducible rfl) (by simp [go_sem, List.take_of_length_le, ren, ren1, ren2, okr, okr1, okr2, ChkN, BlkN, List.range_succ, nf, grammarC, lrC]) (by simp [go_sem, List.take_of_length_le, ren, ren1, ren2, okr, okr1, okr2, ChkN, BlkN, List.range_succ, nf, grammarC, lrC]) (by simp [List.range_succ, lb]) (ChkN.toB (by simp [go_sem, List.take_of_length_le, ren, ren1, ren2, okr, okr1, okr2, ChkN, BlkN, List.range_succ, nf, grammarC, lrC])) (by decide) (by simp) rfl (.nfr (by simp) .nil) (by simp [go_sem, List.take_of_length_le, ren, ren1, ren2, okr, okr1, okr2, ChkN, BlkN, List.range_succ, nf, grammarC, lrC] <;> with_reducible rfl) ?_
      by_cases hi0 : i = 0
      · subst hi0
        have stepz : wr64 (0 : Int) = ((0 + 1 : Nat) : Int) - 1 := by rw [wr64_id (by omega) (by omega)]; rfl
        have co := isOverG g L hL k hkl
        have cond1 : ((decide (((0 : Nat) : Int) - 1 < 0) && overX g L k) || (decide (0 ≤ ((0 : Nat) : Int) - 1) && decide (0 ≤ leadsX g L k (-1 - (((0 : Nat) : Int) - 1))))) = overX g L k := by simp
        rw [cond1] at hmv
        generalize overX g L k = ov at co hmv
        refine wkdsc (And.intro @grammarC.eq_1 (@lrC.eq_1)) _ ?_
        (refine Holds.any mixed ?_ ?_; (· kernel_rfl))
        refine wkdsc (And.intro @grammarC.eq_1 (@lrC.eq_1)) _ ?_
        first | refine GS.cc (co) rfl rfl rfl rfl (by simp [go_sem, List.take_of_length_le, grammarC, lrC] <;> with_reducible rfl) rfl (by simp [go_sem, List.take_of_length_le, grammarC, lrC]) ?_ | refine Gd.cc (co) rfl rfl rfl rfl (by simp [go_sem, List.take_of_length_le, grammarC, lrC] <;> with_reducible rfl) rfl (by simp [go_sem, List.take_of_length_le, grammarC, lrC]) ?_
        cases ov with
        | true =>
          simp only [if_true] at hmv
          cases hc : clashAt g L k 0 with
          | true =>
            rw [hc, Bool.true_or] at hci
            refine wkdc (@hw1) _ ?_
            refine ⟨0 + 1, by omega, by omega, ?_⟩
            rw [stepz, hci]
            exact Cov.ofn (id) rfl (by simp [go_sem, List.take_of_length_le, ren, ren1, ren2, okr, okr1, okr2, ChkT, ChkN, BlkN, nf, grammarC, lrC]) (by simp [go_sem, List.take_of_length_le, ren, ren1, ren2, okr, okr1, okr2, ChkT, ChkN, BlkN, nf, grammarC, lrC])
          | false =>
            rw [hc, Bool.false_or] at hci
            by_cases hm : 1 < m1
            · have hmi : (1 : Int) < (m1 : Int) := by omega
              rw [decide_eq_true (show 1 < mv by omega)] at hci
              refine wkdc (And.intro @hw1 (And.intro @hm (@hmi))) _ ?_
              refine ⟨0 + 1, by omega, by omega, ?_⟩
              rw [stepz, hci]
              exact Cov.ofn (id) rfl (by simp [go_sem, List.take_of_length_le, ren, ren1, ren2, okr, okr1, okr2, ChkT, ChkN, BlkN, nf, grammarC, lrC]) (by simp [go_sem, List.take_of_length_le, ren, ren1, ren2, okr, okr1, okr2, ChkT, ChkN, BlkN, nf, grammarC, lrC])
            · have hmi : ¬ (1 : Int) < (m1 : Int) := by omega
              rw [decide_eq_false (show ¬ 1 < mv by omega)] at hci
              refine wkdc (And.intro @hw1 (And.intro @hm (@hmi))) _ ?_
              refine ⟨0 + 1, by omega, by omega, ?_⟩
              rw [stepz, hci]
              exact Cov.ofn (id) rfl (by simp [go_sem, List.take_of_length_le, ren, ren1, ren2, okr, okr1, okr2, ChkT, ChkN, BlkN, nf, grammarC, lrC]) (by simp [go_sem, List.take_of_length_le, ren, ren1, ren2, okr, okr1, okr2, ChkT, ChkN, BlkN, nf, grammarC, lrC])
        | false =>
          simp only [Bool.false_eq_true, if_false, Nat.add_zero] at hmv
          cases hc : clashAt g L k 0 with
          | true =>
            rw [hc, Bool.true_or] at hci
            refine wkdc (@hw1) _ ?_
            refine ⟨0 + 1, by omega, by omega, ?_⟩
            rw [stepz, hci]
            exact Cov.ofn (id) rfl (by simp [go_sem, List.take_of_length_le, ren, ren1, ren2, okr, okr1, okr2, ChkT, ChkN, BlkN, nf, grammarC, lrC]) (by simp [go_sem, List.take_of_length_le, ren, ren1, ren2, okr, okr1, okr2, ChkT, ChkN, BlkN, nf, grammarC, lrC])
          | false =>
            rw [hc, Bool.false_or] at hci
            by_cases hm : 1 < dl
            · have hmi : (1 : Int) < (dl : Int) := by omega
              rw [decide_eq_true (show 1 < mv by omega)] at hci
              refine wkdc (And.intro @hw1 (And.intro @hm (@hmi))) _ ?_
              refine ⟨0 + 1, by omega, by omega, ?_⟩
              rw [stepz, hci]
              exact Cov.ofn (id) rfl (by simp [go_sem, List.take_of_length_le, ren, ren1, ren2, okr, okr1, okr2, ChkT, ChkN, BlkN, nf, grammarC, lrC]) (by simp [go_sem, List.take_of_length_le, ren, ren1, ren2, okr, okr1, okr2, ChkT, ChkN, BlkN, nf, grammarC, lrC])
            · have hmi : ¬ (1 : Int) < (dl : Int) := by omega
              rw [decide_eq_false (show ¬ 1 < mv by omega)] at hci
              refine wkdc (And.intro @hw1 (And.intro @hm (@hmi))) _ ?_
              refine ⟨0 + 1, by omega, by omega, ?_⟩
              rw [stepz, hci]
              exact Cov.ofn (id) rfl (by simp [go_sem, List.take_of_length_le, ren, ren1, ren2, okr, okr1, okr2, ChkT, ChkN, BlkN, nf, grammarC, lrC]) (by simp [go_sem, List.take_of_length_le, ren, ren1, ren2, okr, okr1, okr2, ChkT, ChkN, BlkN, nf, grammarC, lrC])
      · have h0 : (0 : Int) ≤ (i : Int) - 1 := by omega
        have hn : ¬ (i : Int) - 1 < 0 := by omega
        have h0' : (1 : Int) ≤ (i : Int) := by omega
        have h0n : 1 ≤ i := by omega
        have hn' : ¬ (i : Int) < 1 := by omega
        have cs := symbolOfA ((i : Int) - 1) (by omega) (by omega)
        have cl := leadsG g hG L hL k hkl (-1 - ((i : Int) - 1)) (by omega) (by omega)
        rw [decide_eq_false hn, decide_eq_true h0, Bool.false_and, Bool.false_or, Bool.true_and] at hmv
        generalize leadsX g L k (-1 - ((i : Int) - 1)) = e at cl hmv
        generalize hsy : -1 - ((i : Int) - 1) = sy at cs cl
        refine wkdsc (And.intro @hn (And.intro @h0 (And.intro @h0' (And.intro @h0n (And.intro @hn' (And.intro @hi0 (And.intro @grammarC.eq_1 (@lrC.eq_1)))))))) _ ?_
        (refine Holds.any mixed ?_ ?_; (· kernel_rfl))
        refine wkdsc (And.intro @hn (And.intro @h0 (And.intro @h0' (And.intro @h0n (And.intro @hn' (And.intro @hi0 (And.intro @grammarC.eq_1 (@lrC.eq_1)))))))) _ ?_
        first | refine GS.cc (cs) rfl rfl rfl rfl (by simp [go_sem, List.take_of_length_le, grammarC, lrC] <;> with_reducible rfl) rfl (by simp [go_sem, List.take_of_length_le, grammarC, lrC]) ?_ | refine Gd.cc (cs) rfl rfl rfl rfl (by simp [go_sem, List.take_of_length_le, grammarC, lrC] <;> with_reducible rfl) rfl (by simp [go_sem, List.take_of_length_le, grammarC, lrC]) ?_
        refine wkdsc (And.intro @grammarC.eq_1 (@lrC.eq_1)) _ ?_
        first | refine GS.cc (cl) rfl rfl rfl rfl (by simp [go_sem, List.take_of_length_le, grammarC, lrC] <;> with_reducible rfl) rfl (by simp [go_sem, List.take_of_length_le, grammarC, lrC]) ?_ | refine Gd.cc (cl) rfl rfl rfl rfl (by simp [go_sem, List.take_of_length_le, grammarC, lrC] <;> with_reducible rfl) rfl (by simp [go_sem, List.take_of_length_le, grammarC, lrC]) ?_
        by_cases he : 0 ≤ e
        · have hen : ¬ e < 0 := by omega
          rw [decide_eq_true he] at hmv
          simp only [if_true] at hmv
          cases hc : clashAt g L k i with
          | true =>
            rw [hc, Bool.true_or] at hci
            refine wkdc (And.intro @he (And.intro @hen (And.intro @hn (And.intro @h0 (And.intro @h0' (And.intro @h0n (And.intro @hn' (And.intro @hi0 (@hw1))))))))) _ ?_
            refine ⟨i + 1, by omega, by omega, ?_⟩
            rw [stepi, hci]
            exact Cov.ofn (id) rfl (by simp [go_sem, List.take_of_length_le, ren, ren1, ren2, okr, okr1, okr2, ChkT, ChkN, BlkN, nf, grammarC, lrC]) (by simp [go_sem, List.take_of_length_le, ren, ren1, ren2, okr, okr1, okr2, ChkT, ChkN, BlkN, nf, grammarC, lrC])
          | false =>
            rw [hc, Bool.false_or] at hci
            by_cases hm : 1 < m1
            · have hmi : (1 : Int) < (m1 : Int) := by omega
              rw [decide_eq_true (show 1 < mv by omega)] at hci
              refine wkdc (And.intro @he (And.intro @hen (And.intro @hn (And.intro @h0 (And.intro @h0' (And.intro @h0n (And.intro @hn' (And.intro @hi0 (And.intro @hw1 (And.intro @hm (@hmi))))))))))) _ ?_
              refine ⟨i + 1, by omega, by omega, ?_⟩
              rw [stepi, hci]
              exact Cov.ofn (id) rfl (by simp [go_sem, List.take_of_length_le, ren, ren1, ren2, okr, okr1, okr2, ChkT, ChkN, BlkN, nf, grammarC, lrC]) (by simp [go_sem, List.take_of_length_le, ren, ren1, ren2, okr, okr1, okr2, ChkT, ChkN, BlkN, nf, grammarC, lrC])
            · have hmi : ¬ (1 : Int) < (m1 : Int) := by omega
              rw [decide_eq_false (show ¬ 1 < mv by omega)] at hci
              refine wkdc (And.intro @he (And.intro @hen (And.intro @hn (And.intro @h0 (And.intro @h0' (And.intro @h0n (And.intro @hn' (And.intro @hi0 (And.intro @hw1 (And.intro @hm (@hmi))))))))))) _ ?_
              refine ⟨i + 1, by omega, by omega, ?_⟩
              rw [stepi, hci]
              exact Cov.ofn (id) rfl (by simp [go_sem, List.take_of_length_le, ren, ren1, ren2, okr, okr1, okr2, ChkT, ChkN, BlkN, nf, grammarC, lrC]) (by simp [go_sem, List.take_of_length_le, ren, ren1, ren2, okr, okr1, okr2, ChkT, ChkN, BlkN, nf, grammarC, lrC])
        · have hen : e < 0 := by omega
          rw [decide_eq_false he] at hmv
          simp only [Bool.false_eq_true, if_false, Nat.add_zero] at hmv
          cases hc : clashAt g L k i with
          | true =>
            rw [hc, Bool.true_or] at hci
            refine wkdc (And.intro @he (And.intro @hen (And.intro @hn (And.intro @h0 (And.intro @h0' (And.intro @h0n (And.intro @hn' (And.intro @hi0 (@hw1))))))))) _ ?_
            refine ⟨i + 1, by omega, by omega, ?_⟩
            rw [stepi, hci]
            exact Cov.ofn (id) rfl (by simp [go_sem, List.take_of_length_le, ren, ren1, ren2, okr, okr1, okr2, ChkT, ChkN, BlkN, nf, grammarC, lrC]) (by simp [go_sem, List.take_of_length_le, ren, ren1, ren2, okr, okr1, okr2, ChkT, ChkN, BlkN, nf, grammarC, lrC])
          | false =>
            rw [hc, Bool.false_or] at hci
            by_cases hm : 1 < dl
            · have hmi : (1 : Int) < (dl : Int) := by omega
              rw [decide_eq_true (show 1 < mv by omega)] at hci
              refine wkdc (And.intro @he (And.intro @hen (And.intro @hn (And.intro @h0 (And.intro @h0' (And.intro @h0n (And.intro @hn' (And.intro @hi0 (And.intro @hw1 (And.intro @hm (@hmi))))))))))) _ ?_
              refine ⟨i + 1, by omega, by omega, ?_⟩
              rw [stepi, hci]
              exact Cov.ofn (id) rfl (by simp [go_sem, List.take_of_length_le, ren, ren1, ren2, okr, okr1, okr2, ChkT, ChkN, BlkN, nf, grammarC, lrC]) (by simp [go_sem, List.take_of_length_le, ren, ren1, ren2, okr, okr1, okr2, ChkT, ChkN, BlkN, nf, grammarC, lrC])
            · have hmi : ¬ (1 : Int) < (dl : Int) := by omega
              rw [decide_eq_false (show ¬ 1 < mv by omega)] at hci
              refine wkdc (And.intro @he (And.intro @hen (And.intro @hn (And.intro @h0 (And.intro @h0' (And.intro @h0n (And.intro @hn' (And.intro @hi0 (And.intro @hw1 (And.intro @hm (@hmi))))))))))) _ ?_
              refine ⟨i + 1, by omega, by omega, ?_⟩
              rw [stepi, hci]
              exact Cov.ofn (id) rfl (by simp [go_sem, List.take_of_length_le, ren, ren1, ren2, okr, okr1, okr2, ChkT, ChkN, BlkN, nf, grammarC, lrC]) (by simp [go_sem, List.take_of_length_le, ren, ren1, ren2, okr, okr1, okr2, ChkT, ChkN, BlkN, nf, grammarC, lrC])
    · have hie : i = (g.2.1 + 1).toNat := by simp at h; omega
      subst hie
      cases hc : clashAt g L k (g.2.1 + 1).toNat with
      | true =>
        rw [if_pos hc] at hnx
        refine wkdc (@hbb) _ ?_
        refine ⟨k + 1, by omega, by omega, ?_⟩
        rw [stepk, hnx]
        exact Cov.ofn (nm [0, 1, 5]) rfl (by simp [go_sem, List.take_of_length_le, ren, ren1, ren2, okr, okr1, okr2, ChkT, ChkN, BlkN, nf, grammarC, lrC, ints_snoc]) (by simp [go_sem, List.take_of_length_le, ren, ren1, ren2, okr, okr1, okr2, ChkT, ChkN, BlkN, nf, grammarC, lrC, ints_snoc])
      | false =>
        rw [if_neg (by rw [hc]; simp), List.append_nil] at hnx
        refine wkdc0 _ ?_
        refine ⟨k + 1, by omega, by omega, ?_⟩
        rw [stepk, hnx]
        exact Cov.ofn (id) rfl (by simp [go_sem, List.take_of_length_le, ren, ren1, ren2, okr, okr1, okr2, ChkT, ChkN, BlkN, nf, grammarC, lrC]) (by simp [go_sem, List.take_of_length_le, ren, ren1, ren2, okr, okr1, okr2, ChkT, ChkN, BlkN, nf, grammarC, lrC])
  · have hke : k = L.1.length := by simp at h; omega
    subst hke
    refine wkdc0 _ ?_
    refine OutF.mkn (xs := ?_) (nm [2]) ?_ ?_ ?_ ?_ ?_ (by first | exact .inr rfl | exact .inl rfl)
    rotate_left
    · simp [go_sem, List.take_of_length_le] <;> with_reducible rfl
    · simp [go_sem, List.take_of_length_le, ren, ren1, ren2, okr, okr1, okr2, ChkN, BlkN, List.range_succ, nf]
    · simp [go_sem, List.take_of_length_le, ren, ren1, ren2, okr, okr1, okr2, ChkN, BlkN, List.range_succ, nf]
    · simp [go_sem, List.take_of_length_le, ren, ren1, ren2, okr, okr1, okr2, ChkN, BlkN, List.range_succ, nf]
    · rfl
end Go.Proofs.YtkolhcoeifghpaaGreat.En
end
section
namespace Go.Proofs.YtkolhcoeifghpaaGreat.En
open Go.RowKit
set_option linter.unusedSimpArgs false
set_option linter.unusedVariables false
section
attribute [local semireducible] G Gq Holds GS thenA
variable {P : Program} {nt : NT} {s s' : AS} {K : AS → Prop} {ops : Array Oper} {l : List Oper}
theorem Cov.short {q : Nat} (n m : Nat) {b : Blk} (hb : lb s.bl n = some b) : Cov q { s with bl := st s.bl n { b with xs := b.xs.take m } } s :=
  fun _ _ _ S _ _ _ h => ⟨S, _, _, h.short hb⟩
theorem GS.short (n m : Nat) {b : Blk} (hb : lb s.bl n = some b) (hs : ({ s with bl := st s.bl n { b with xs := b.xs.take m } } : AS) = s') {p : Nat} (h : GS P nt ops K l p s') : GS P nt ops K l p s :=
  GS.cov (Cov.short n m hb) (by rw [hs]; exact h)
theorem Holds.short {c : Code} {Q : Exit → AS → Prop} (n m : Nat) {b : Blk} (hb : lb s.bl n = some b) (hs : ({ s with bl := st s.bl n { b with xs := b.xs.take m } } : AS) = s') (h : Holds P nt c Q s') : Holds P nt c Q s :=
  Holds.cov (Cov.short n m hb) (by rw [hs]; exact h)
end
end Go.Proofs.YtkolhcoeifghpaaGreat.En
end
section
namespace Go.Proofs.YtkolhcoeifghpaaGreat.En
open Go.RowKit
set_option linter.unusedSimpArgs false
set_option linter.unusedVariables false
set_option maxHeartbeats 4000000
def pI (P : List Nat) : List Int := P.reverse.map fun n : Nat => (n : Int)
theorem pI_cons (s : Nat) (P : List Nat) : pI (s :: P) = pI P ++ [(s : Int)] := by simp [pI]
@[simp] theorem pI_len (P : List Nat) : (pI P).length = P.length := by simp [pI]
theorem pI_top (s : Nat) (P : List Nat) : (pI (s :: P))[P.length]? = some (s : Int) := by
  rw [pI_cons, List.getElem?_append_right (by simp)]; simp
theorem pI_drop (P : List Nat) (k : Nat) (hk : k ≤ P.length) : (pI P).take (P.length - k) = pI (P.drop k) := by
  have h : P.reverse.take (P.length - k) = (P.drop k).reverse := by
    rw [List.take_reverse]
    congr 2
    omega
  rw [pI, ← List.map_take, h]; rfl
theorem parseBehindG (g : GrammarT) (hG : OkG g) (L : LrT) (hL : LrG g L) (hC : lrClash g L L.1.length = []) (w : List Int) (hw : w.length ≤ 20) (hw2 : ∀ x ∈ w, 0 ≤ x ∧ x < g.2.1) : Fn Tryz.prog 41 0 [.ag (grammarC g), .ag (lrC L), .im 1 (ints w)] [] (.tu [.own 0 1 0 (pbV g L w).1.length, .v (.int .i64 (pbV g L w).2.1), .v (.bool (pbV g L w).2.2)]) 1 [(0, ⟨3, 1, ints (pbV g L w).1⟩)] := by
  have hlen := hG.len
  have hn0 := hG.n0
  have hN1 := hG.n1
  have hT0 := hG.t0
  have hT1 := hG.t1
  have hfew := hL.few
  have ch := headsG g hG
  change Fn _ _ 0 _ [] (.pb 0 66 0 0) 1 [(0, ⟨_, 66, [boxH (headF g)]⟩)] at ch
  have hst := InvPB.start g L w
  generalize pbV g L w = V at hst ⊢
  refine Fn.mk (rs := [.tmp 6, .tmp 7, .tmp 8]) (nt := 122) Tryz.func41 (by kernel_rfl) rfl rfl rfl (by simp) ?_
  simp only [sl, grammarC, lrC]
  refine wkdc (@grammarC.eq_1) _ ?_
  refine GS.fnn [] (ch) rfl rfl rfl rfl (by simp [go_sem, List.take_of_length_le, ren, ren1, ren2, okr, okr1, okr2, ChkN, BlkN, List.range_succ, nf, grammarC] <;> with_reducible rfl) (by simp [go_sem, List.take_of_length_le, ren, ren1, ren2, okr, okr1, okr2, ChkN, BlkN, List.range_succ, nf, grammarC]) (by simp [go_sem, List.take_of_length_le, ren, ren1, ren2, okr, okr1, okr2, ChkN, BlkN, List.range_succ, nf, grammarC]) (by simp [List.range_succ, lb]) (ChkN.toB (by simp [go_sem, List.take_of_length_le, ren, ren1, ren2, okr, okr1, okr2, ChkN, BlkN, List.range_succ, nf, grammarC])) (by decide) (by simp) rfl (.nfr (by simp) .nil) (by simp [go_sem, List.take_of_length_le, ren, ren1, ren2, okr, okr1, okr2, ChkN, BlkN, List.range_succ, nf, grammarC] <;> with_reducible rfl) ?_
  repeat' first | (refine Holds.condT ?_ ?_; (· (simp [go_sem, List.take_of_length_le] <;> with_reducible rfl))) | (refine Holds.condF ?_ ?_; (· (simp [go_sem, List.take_of_length_le] <;> with_reducible rfl))) | refine Holds.seq ?_ | refine Holds.skip ?_ | refine Holds.exit ?_ | refine Holds.ret ?_ | refine thenA_normal ?_ | refine thenA_exit ?_ | refine thenA_ret ?_ | refine inB_normal ?_ | refine inB_ret ?_ | refine inB_here ?_ | (refine inB_past ?_ ?_; (· exact rfl)) | refine Holds.reg ?_ | refine Holds.block ?_ | refine GS.nil ?_ | refine Gd.nil ?_ | (refine Holds.any mixed ?_ ?_; (· kernel_rfl)) | (refine GS.stepD 21 (s' := ?_) rfl ?_ ?_ ?_; rotate_left; (· exact rfl); (· (simp [go_sem, List.take_of_length_le] <;> with_reducible rfl))) | (refine GS.skip ?_ ?_ ?_; (· exact rfl); (· exact rfl)) | (refine Gd.go (s' := ?_) ?_ ?_ ?_; rotate_left; (· exact rfl); (· (simp [go_sem, List.take_of_length_le] <;> with_reducible rfl))) | (refine Gd.skip ?_ ?_ ?_; (· exact rfl); (· exact rfl)) | fail
  refine GS.frz [2] [(9, .pi (boxH (headF g)))] (.cons rfl (Fz.box rfl rfl rfl (boxH_clA _)) .nil) ?_
  refine wkdc (And.intro @frz.eq_1 (@lrC.eq_1)) _ ?_
  refine Holds.loop (ι := List Nat × Nat × List Int) (fun x => ⟨[(2, .im 1 (ints w)), (3, .pb 0 3 0 0), (4, .pb 1 2 0 0), (9, .pi (boxH (headF g))), (10, .own 2 1 0 x.2.2.length), (11, .own 3 1 0 x.1.length), (12, .v (.int .i64 x.2.1))], [(3, ⟨3, 1, ints (pI x.1)⟩), (2, ⟨3, 1, ints x.2.2⟩), (1, ⟨48, 2, [lrC L]⟩), (0, ⟨31, 3, [grammarC g]⟩)], 4⟩)
    (fun x => InvPB g L w V x.1 x.2.1 x.2.2) (fun x => 200 - x.2.1 - x.2.2.length) ([0], 0, []) hst ?_ ?_
  · exact Cov.ofn (nm [0, 1, 3, 4]) rfl (by simp [go_sem, List.take_of_length_le, ren, ren1, ren2, okr, okr1, okr2, ChkT, ChkN, BlkN, nf, grammarC, lrC, show ints [] = [] from rfl, show pI [0] = [(0 : Int)] from rfl, ints]) (by simp [go_sem, List.take_of_length_le, ren, ren1, ren2, okr, okr1, okr2, ChkT, ChkN, BlkN, nf, grammarC, lrC, show ints [] = [] from rfl, show pI [0] = [(0 : Int)] from rfl, ints])
  rintro ⟨P, a, out⟩ hI
  dsimp only at hI ⊢
  obtain ⟨s, P, rfl⟩ : ∃ s Q, P = s :: Q := by
    cases hI.path with
    | one => exact ⟨_, _, rfl⟩
    | more => exact ⟨_, _, rfl⟩
  have hs := hI.path.lt hL s (.head _)
  have hale := hI.ale
  have hole := hI.ole
  have hple := hI.ple
  have htop := pI_top s P
  have hpl : (s :: P).length = P.length + 1 := rfl
  rw [hpl] at hple ⊢
  obtain ⟨r1, r2, r3, r4⟩ := tokB_rng hw2 (by omega) a
  have hfewt := few_todo hC hs r1 (by omega)
  have hpl1 : wr64 (((P.length + 1 : Nat) : Int) - 1) = (P.length : Int) := by rw [wr64_id (by omega) (by omega)]; omega
  have hpl2 : P.length < P.length + 1 := by omega
  have hpl3 : wr64 (P.length : Int) = (P.length : Int) := wr64_id (by omega) (by omega)
  have ce := endsAtG g hG L hL s hs (tokB w a) r1 (by omega)
  have co := isOverG g L hL s hs
  obtain ⟨t, ht⟩ : ∃ t, t = tokB w a := ⟨_, rfl⟩
  refine wkdc (And.intro @hpl1 (And.intro @hpl2 (And.intro @hpl3 (And.intro @htop (@get_E _ _ _ _ htop))))) _ ?_
  refine Holds.join (ι := Unit) (fun _ => ⟨[(2, .im 1 (ints w)), (3, .pb 0 3 0 0), (4, .pb 1 2 0 0), (9, .pi (boxH (headF g))), (10, .own 2 1 0 out.length), (11, .own 3 1 0 (P.length + 1)), (12, .v (.int .i64 a)), (13, .v (.int .i64 s)), (14, .v (.int .i64 t))], [(3, ⟨3, 1, ints (pI (s :: P))⟩), (2, ⟨3, 1, ints out⟩), (1, ⟨48, 2, [lrC L]⟩), (0, ⟨31, 3, [grammarC g]⟩)], 4⟩) (fun _ => ¬ (0 ≤ t ∧ 0 ≤ leadsX g L s (-1 - t))) ?_ ?_
  · refine Holds.cond rfl (fun h => ?_) (fun h => ?_)
    · have hal : a < w.length := by simpa using h
      have ht0 := r2 hal
      have hwa : w[a]? = some t := by
        rw [ht, tokB, List.getElem?_eq_getElem hal]; rfl
      rw [← ht] at r1 r4 ht0
      have cs := symbolOfA t (by omega) (by omega)
      have cl := leadsG g hG L hL s hs (-1 - t) (by omega) (by omega)
      obtain ⟨e, he⟩ : ∃ e, e = leadsX g L s (-1 - t) := ⟨_, rfl⟩
      rw [← he] at cl
      refine wkdsc (And.intro @hal (And.intro @hwa (@get_E _ _ _ _ hwa))) _ ?_
      (refine Holds.any mixed ?_ ?_; (· kernel_rfl))
      refine wkdsc (And.intro @grammarC.eq_1 (@lrC.eq_1)) _ ?_
      first | refine GS.cc (cs) rfl rfl rfl rfl (by simp [go_sem, List.take_of_length_le, grammarC, lrC] <;> with_reducible rfl) rfl (by simp [go_sem, List.take_of_length_le, grammarC, lrC]) ?_ | refine Gd.cc (cs) rfl rfl rfl rfl (by simp [go_sem, List.take_of_length_le, grammarC, lrC] <;> with_reducible rfl) rfl (by simp [go_sem, List.take_of_length_le, grammarC, lrC]) ?_
      refine wkdsc (And.intro @grammarC.eq_1 (@lrC.eq_1)) _ ?_
      first | refine GS.cc (cl) rfl rfl rfl rfl (by simp [go_sem, List.take_of_length_le, grammarC, lrC] <;> with_reducible rfl) rfl (by simp [go_sem, List.take_of_length_le, grammarC, lrC]) ?_ | refine Gd.cc (cl) rfl rfl rfl rfl (by simp [go_sem, List.take_of_length_le, grammarC, lrC] <;> with_reducible rfl) rfl (by simp [go_sem, List.take_of_length_le, grammarC, lrC]) ?_
      by_cases he0 : 0 ≤ e
      · have htd : todoX g L s (tokB w a) = [-1] := by
          rw [← ht]
          have h1 : (todoX g L s t).length ≤ 1 := by rw [ht]; exact hfewt
          unfold todoX at h1 ⊢
          rw [if_pos ⟨ht0, by rw [← he]; exact he0⟩] at h1 ⊢
          simp only [List.length_append, List.length_singleton] at h1
          rw [List.length_eq_zero_iff.1 (show (endsAtX g L s t).length = 0 by omega), List.length_eq_zero_iff.1 (show (if t < 0 ∧ overX g L s = true then [(-2 : Int)] else []).length = 0 by omega)]
          rfl
        obtain ⟨n, hn, hI2⟩ := hI.shift hG hL hw hal hw2 htd (by rw [← ht, ← he]; exact he0)
        rw [← ht, ← he] at hn
        subst hn
        have hbb : (P.length + 1 + 1) * 8 ≤ 140737488355328 := by omega
        have stepa : wr64 ((a : Int) + 1) = ((a + 1 : Nat) : Int) := wr64_id (by omega) (by omega)
        refine wkdc (And.intro @he0 (@hbb)) _ ?_
        refine ⟨(n :: s :: P, a + 1, out), hI2, by dsimp only; omega, ?_⟩
        rw [stepa]
        exact Cov.ofn (nm [0, 1, 2, 6]) rfl (by simp [go_sem, List.take_of_length_le, ren, ren1, ren2, okr, okr1, okr2, ChkT, ChkN, BlkN, nf, grammarC, lrC, pI_cons n, ints_snoc]) (by simp [go_sem, List.take_of_length_le, ren, ren1, ren2, okr, okr1, okr2, ChkT, ChkN, BlkN, nf, grammarC, lrC, pI_cons n, ints_snoc])
      · have he1 : ¬ (0 ≤ t ∧ 0 ≤ leadsX g L s (-1 - t)) := fun h => he0 (by rw [he]; exact h.2)
        refine wkdc (@he0) _ ?_
        refine ⟨(), he1, ?_⟩
        exact Cov.ofn (id) rfl (by simp [go_sem, List.take_of_length_le, ren, ren1, ren2, okr, okr1, okr2, ChkT, ChkN, BlkN, nf, grammarC, lrC]) (by simp [go_sem, List.take_of_length_le, ren, ren1, ren2, okr, okr1, okr2, ChkT, ChkN, BlkN, nf, grammarC, lrC])
    · have hal : ¬ a < w.length := by simpa using h
      have ht1 := r3 (by omega)
      rw [← ht] at ht1
      have he1 : ¬ (0 ≤ t ∧ 0 ≤ leadsX g L s (-1 - t)) := fun h => by omega
      subst ht1
      refine wkdc0 _ ?_
      refine ⟨(), he1, ?_⟩
      exact Cov.ofn (id) rfl (by simp [go_sem, List.take_of_length_le, ren, ren1, ren2, okr, okr1, okr2, ChkT, ChkN, BlkN, nf, grammarC, lrC]) (by simp [go_sem, List.take_of_length_le, ren, ren1, ren2, okr, okr1, okr2, ChkT, ChkN, BlkN, nf, grammarC, lrC])
  rintro ⟨⟩ hno
  have htdx : todoX g L s (tokB w a) = endsAtX g L s (tokB w a) ++ if tokB w a < 0 ∧ overX g L s = true then [-2] else [] := by
    unfold todoX
    rw [← ht, if_neg hno, List.nil_append]
  rw [← ht] at ce hfewt htdx r1 r4
  have hsub : ∀ r ∈ endsAtX g L s t, r ∈ endsX g L s := fun r hr => (List.mem_filter.1 hr).1
  cases hE : endsAtX g L s t with
  | nil =>
    rw [hE] at ce htdx
    rw [List.nil_append] at htdx
    simp only [List.length_nil] at ce
    by_cases htn : t < 0
    · cases hov : overX g L s with
      | true =>
        rw [hov] at co htdx
        rw [if_pos ⟨htn, rfl⟩] at htdx
        have hv := hI.done hw (by rw [← ht]; exact htdx)
        subst hv
        refine wkdc (And.intro @lrC.eq_1 (@grammarC.eq_1)) _ ?_
        refine GS.fnn [] (ce) rfl rfl rfl rfl (by simp [go_sem, List.take_of_length_le, ren, ren1, ren2, okr, okr1, okr2, ChkN, BlkN, List.range_succ, nf, grammarC, lrC] <;> with_reducible rfl) (by simp [go_sem, List.take_of_length_le, ren, ren1, ren2, okr, okr1, okr2, ChkN, BlkN, List.range_succ, nf, grammarC, lrC]) (by simp [go_sem, List.take_of_length_le, ren, ren1, ren2, okr, okr1, okr2, ChkN, BlkN, List.range_succ, nf, grammarC, lrC]) (by simp [List.range_succ, lb]) (ChkN.toB (by simp [go_sem, List.take_of_length_le, ren, ren1, ren2, okr, okr1, okr2, ChkN, BlkN, List.range_succ, nf, grammarC, lrC])) (by decide) (by simp) rfl (.nfr (by simp) .nil) (by simp [go_sem, List.take_of_length_le, ren, ren1, ren2, okr, okr1, okr2, ChkN, BlkN, List.range_succ, nf, grammarC, lrC] <;> with_reducible rfl) ?_
        refine wkdc (And.intro @htn (And.intro @grammarC.eq_1 (@lrC.eq_1))) _ ?_
        first | refine GS.cc (co) rfl rfl rfl rfl (by simp [go_sem, List.take_of_length_le, grammarC, lrC] <;> with_reducible rfl) rfl (by simp [go_sem, List.take_of_length_le, grammarC, lrC]) ?_ | refine Gd.cc (co) rfl rfl rfl rfl (by simp [go_sem, List.take_of_length_le, grammarC, lrC] <;> with_reducible rfl) rfl (by simp [go_sem, List.take_of_length_le, grammarC, lrC]) ?_
        refine wkdc0 _ ?_
        refine OutF.mkn (xs := ?_) (nm [2]) ?_ ?_ ?_ ?_ ?_ (by first | exact .inr rfl | exact .inl rfl)
        rotate_left
        · simp [go_sem, List.take_of_length_le] <;> with_reducible rfl
        · simp [go_sem, List.take_of_length_le, ren, ren1, ren2, okr, okr1, okr2, ChkN, BlkN, List.range_succ, nf]
        · simp [go_sem, List.take_of_length_le, ren, ren1, ren2, okr, okr1, okr2, ChkN, BlkN, List.range_succ, nf]
        · simp [go_sem, List.take_of_length_le, ren, ren1, ren2, okr, okr1, okr2, ChkN, BlkN, List.range_succ, nf]
        · rfl
      | false =>
        rw [hov] at co htdx
        rw [if_neg (fun h => by cases h.2)] at htdx
        have hv := hI.none hw (by rw [← ht]; exact htdx)
        subst hv
        refine wkdc (And.intro @lrC.eq_1 (@grammarC.eq_1)) _ ?_
        refine GS.fnn [] (ce) rfl rfl rfl rfl (by simp [go_sem, List.take_of_length_le, ren, ren1, ren2, okr, okr1, okr2, ChkN, BlkN, List.range_succ, nf, grammarC, lrC] <;> with_reducible rfl) (by simp [go_sem, List.take_of_length_le, ren, ren1, ren2, okr, okr1, okr2, ChkN, BlkN, List.range_succ, nf, grammarC, lrC]) (by simp [go_sem, List.take_of_length_le, ren, ren1, ren2, okr, okr1, okr2, ChkN, BlkN, List.range_succ, nf, grammarC, lrC]) (by simp [List.range_succ, lb]) (ChkN.toB (by simp [go_sem, List.take_of_length_le, ren, ren1, ren2, okr, okr1, okr2, ChkN, BlkN, List.range_succ, nf, grammarC, lrC])) (by decide) (by simp) rfl (.nfr (by simp) .nil) (by simp [go_sem, List.take_of_length_le, ren, ren1, ren2, okr, okr1, okr2, ChkN, BlkN, List.range_succ, nf, grammarC, lrC] <;> with_reducible rfl) ?_
        refine wkdc (And.intro @htn (And.intro @grammarC.eq_1 (@lrC.eq_1))) _ ?_
        first | refine GS.cc (co) rfl rfl rfl rfl (by simp [go_sem, List.take_of_length_le, grammarC, lrC] <;> with_reducible rfl) rfl (by simp [go_sem, List.take_of_length_le, grammarC, lrC]) ?_ | refine Gd.cc (co) rfl rfl rfl rfl (by simp [go_sem, List.take_of_length_le, grammarC, lrC] <;> with_reducible rfl) rfl (by simp [go_sem, List.take_of_length_le, grammarC, lrC]) ?_
        refine wkdc0 _ ?_
        refine OutF.cov (Cov.niw (t := 6) 3 1 rfl) ?_
        refine OutF.mkn (xs := ?_) (nm [5]) ?_ ?_ ?_ ?_ ?_ (by first | exact .inr rfl | exact .inl rfl)
        rotate_left
        · simp [go_sem, List.take_of_length_le, niw, ints] <;> with_reducible rfl
        · simp [go_sem, List.take_of_length_le, ren, ren1, ren2, okr, okr1, okr2, ChkN, BlkN, List.range_succ, nf, niw, ints]
        · simp [go_sem, List.take_of_length_le, ren, ren1, ren2, okr, okr1, okr2, ChkN, BlkN, List.range_succ, nf, niw, ints]
        · simp [go_sem, List.take_of_length_le, ren, ren1, ren2, okr, okr1, okr2, ChkN, BlkN, List.range_succ, nf, niw, ints]
        · rfl
    · rw [if_neg (fun h => htn h.1)] at htdx
      have hv := hI.none hw (by rw [← ht]; exact htdx)
      subst hv
      refine wkdc (And.intro @lrC.eq_1 (@grammarC.eq_1)) _ ?_
      refine GS.fnn [] (ce) rfl rfl rfl rfl (by simp [go_sem, List.take_of_length_le, ren, ren1, ren2, okr, okr1, okr2, ChkN, BlkN, List.range_succ, nf, grammarC, lrC] <;> with_reducible rfl) (by simp [go_sem, List.take_of_length_le, ren, ren1, ren2, okr, okr1, okr2, ChkN, BlkN, List.range_succ, nf, grammarC, lrC]) (by simp [go_sem, List.take_of_length_le, ren, ren1, ren2, okr, okr1, okr2, ChkN, BlkN, List.range_succ, nf, grammarC, lrC]) (by simp [List.range_succ, lb]) (ChkN.toB (by simp [go_sem, List.take_of_length_le, ren, ren1, ren2, okr, okr1, okr2, ChkN, BlkN, List.range_succ, nf, grammarC, lrC])) (by decide) (by simp) rfl (.nfr (by simp) .nil) (by simp [go_sem, List.take_of_length_le, ren, ren1, ren2, okr, okr1, okr2, ChkN, BlkN, List.range_succ, nf, grammarC, lrC] <;> with_reducible rfl) ?_
      refine wkdc (And.intro @htn (And.intro @grammarC.eq_1 (@lrC.eq_1))) _ ?_
      refine OutF.cov (Cov.niw (t := 6) 3 1 rfl) ?_
      refine OutF.mkn (xs := ?_) (nm [5]) ?_ ?_ ?_ ?_ ?_ (by first | exact .inr rfl | exact .inl rfl)
      rotate_left
      · simp [go_sem, List.take_of_length_le, niw, ints] <;> with_reducible rfl
      · simp [go_sem, List.take_of_length_le, ren, ren1, ren2, okr, okr1, okr2, ChkN, BlkN, List.range_succ, nf, niw, ints]
      · simp [go_sem, List.take_of_length_le, ren, ren1, ren2, okr, okr1, okr2, ChkN, BlkN, List.range_succ, nf, niw, ints]
      · simp [go_sem, List.take_of_length_le, ren, ren1, ren2, okr, okr1, okr2, ChkN, BlkN, List.range_succ, nf, niw, ints]
      · rfl
  | cons r l =>
    rw [hE] at ce htdx hsub
    obtain ⟨rn, rfl⟩ : ∃ rn : Nat, r = (rn : Int) := by
      obtain ⟨n, e, _⟩ := endsX_rng hL hs (hsub r (.head _))
      exact ⟨n, e⟩
    have hm := hsub _ (.head _)
    rw [List.cons_append] at htdx
    have hle : l = [] := by
      rw [htdx] at hfewt
      simp only [List.length_cons, List.length_append] at hfewt
      exact List.length_eq_zero_iff.1 (by omega)
    subst hle
    have hi1 : ints [(rn : Int)] = [[.v (.int .i64 rn)]] := rfl
    rw [ht] at htdx
    obtain ⟨hrl, b, n, Q, hd, hq, hI2⟩ : rn < g.2.2.length ∧ ∃ (b n : Nat) (Q : List Nat), (s :: P).drop (ruleN g rn).2.length = b :: Q ∧ leadsX g L b (ruleN g rn).1 = (n : Int) ∧ (¬ out.length = 60 → InvPB g L w V (n :: b :: Q) a (out ++ [(rn : Int)])) := by
      obtain ⟨hrl, b, n, Q, hd, hq, _⟩ := hI.path.reduce hG hL hm
      refine ⟨hrl, b, n, Q, hd, hq, fun ho => ?_⟩
      obtain ⟨_, b2, n2, Q2, hd2, hq2, hI2⟩ := hI.red hG hL hw htdx hm ho
      rw [hd] at hd2
      injection hd2 with e1 e2
      subst e1 e2
      have : n = n2 := by omega
      subst this
      exact hI2
    have hrr := ruleN_at hrl
    have hbl : b < L.1.length := by
      have := hI.path.reduce hG hL hm
      obtain ⟨_, b2, n2, Q2, hd2, _, hp⟩ := this
      rw [hd] at hd2
      injection hd2 with e1 e2
      subst e1 e2
      exact hp.lt hL b (.tail _ (.head _))
    have hR4 := hG.r4 _ (List.mem_of_getElem? hrr)
    have hl0 := hG.l0 _ (List.mem_of_getElem? hrr)
    have hl1 := hG.l1 _ (List.mem_of_getElem? hrr)
    have cl := leadsG g hG L hL b hbl (ruleN g rn).1 (by omega) hl1
    rw [hq] at cl
    have hdl : (s :: P).length - (ruleN g rn).2.length = Q.length + 1 := by
      have := congrArg List.length hd
      rwa [List.length_drop, List.length_cons (a := b)] at this
    rw [hpl] at hdl
    have hpd : (pI (s :: P)).take (Q.length + 1) = pI (b :: Q) := by
      rw [← hd, ← pI_drop _ _ (by rw [hpl]; omega), hpl, hdl]
    have htop2 := pI_top b Q
    generalize ruleN g rn = R at hrr hR4 hl0 hl1 cl hdl
    refine wkdc (And.intro @lrC.eq_1 (@grammarC.eq_1)) _ ?_
    refine GS.fnn [] (ce) rfl rfl rfl rfl (by simp [go_sem, List.take_of_length_le, ren, ren1, ren2, okr, okr1, okr2, ChkN, BlkN, List.range_succ, nf, grammarC, lrC] <;> with_reducible rfl) (by simp [go_sem, List.take_of_length_le, ren, ren1, ren2, okr, okr1, okr2, ChkN, BlkN, List.range_succ, nf, grammarC, lrC]) (by simp [go_sem, List.take_of_length_le, ren, ren1, ren2, okr, okr1, okr2, ChkN, BlkN, List.range_succ, nf, grammarC, lrC]) (by simp [List.range_succ, lb]) (ChkN.toB (by simp [go_sem, List.take_of_length_le, ren, ren1, ren2, okr, okr1, okr2, ChkN, BlkN, List.range_succ, nf, grammarC, lrC])) (by decide) (by simp) rfl (.nfr (by simp) .nil) (by simp [go_sem, List.take_of_length_le, ren, ren1, ren2, okr, okr1, okr2, ChkN, BlkN, List.range_succ, nf, grammarC, lrC] <;> with_reducible rfl) ?_
    by_cases ho : out.length = 60
    · have hv := hI.full hw htdx ho
      subst hv
      have hoi : ((out.length : Int) == 60) = true := by rw [ho]; rfl
      refine wkdsc (And.intro @lrC.eq_1 (And.intro @grammarC.eq_1 (And.intro @hrl (And.intro @hrr (And.intro (@get_E _ _ _ _ hrr) (And.intro @ruleC.eq_1 (@hi1))))))) _ ?_
      refine Holds.anx [7, 1008] [0, 1, 2, 3, 4, 5, 6] (fun n => decide (5 ≤ n)) mixed ?_ ?_ ?_; (· kernel_rfl); (· kernel_rfl)
      refine wkdac (And.intro @lrC.eq_1 (And.intro @grammarC.eq_1 (And.intro @hrl (And.intro @hrr (And.intro (@get_E _ _ _ _ hrr) (And.intro @ruleC.eq_1 (And.intro @ho (And.intro @hoi (@hi1))))))))) _ ?_
      refine OutF.cov (Cov.niw (t := 6) 3 1 rfl) ?_
      refine OutF.mkn (xs := ?_) (nm [6]) ?_ ?_ ?_ ?_ ?_ (by first | exact .inr rfl | exact .inl rfl)
      rotate_left
      · simp [go_sem, List.take_of_length_le, niw, ints] <;> with_reducible rfl
      · simp [go_sem, List.take_of_length_le, ren, ren1, ren2, okr, okr1, okr2, ChkN, BlkN, List.range_succ, nf, niw, ints]
      · simp [go_sem, List.take_of_length_le, ren, ren1, ren2, okr, okr1, okr2, ChkN, BlkN, List.range_succ, nf, niw, ints]
      · simp [go_sem, List.take_of_length_le, ren, ren1, ren2, okr, okr1, okr2, ChkN, BlkN, List.range_succ, nf, niw, ints]
      · rfl
    · have hI3 := hI2 ho
      have hoi : ((out.length : Int) == 60) = false := by rw [beq_eq_false_iff_ne]; omega
      have hge : ¬ (P.length : Int) + 1 ≤ (R.2.length : Int) := by omega
      have hgn : ¬ P.length + 1 ≤ R.2.length := by omega
      obtain ⟨m, hm0⟩ : ∃ m, m = Q.length + 1 := ⟨_, rfl⟩
      have hsb : wr64 ((P.length : Int) + 1 - (R.2.length : Int)) = (m : Int) := by rw [wr64_id (by omega) (by omega)]; omega
      have hql : m ≤ P.length + 1 := by omega
      have hqp : wr64 ((m : Int) - 1) = (Q.length : Int) := by rw [wr64_id (by omega) (by omega)]; omega
      have hqi : Q.length < m := by omega
      have hb1 : (m + 1) * 8 ≤ 140737488355328 := by omega
      rw [← hm0] at hpd
      have hm1 : Q.length + 1 = m := hm0.symm
      have hpt : List.take m (ints (pI (s :: P))) = ints (pI (b :: Q)) := by rw [← hpd, ints, ints, List.map_take]
      have hb2 : (out.length + 1) * 8 ≤ 140737488355328 := by omega
      have hn0' : ¬ (n : Int) < 0 := by omega
      refine wkdasc (And.intro @lrC.eq_1 (And.intro @grammarC.eq_1 (And.intro @hrl (And.intro @hrr (And.intro (@get_E _ _ _ _ hrr) (And.intro @ruleC.eq_1 (@hi1))))))) _ ?_
      refine Holds.anx [7, 1008] [0, 1, 2, 3, 4, 5, 6] (fun n => decide (5 ≤ n)) mixed ?_ ?_ ?_; (· kernel_rfl); (· kernel_rfl)
      refine wkdasc (And.intro @lrC.eq_1 (And.intro @grammarC.eq_1 (And.intro @hrl (And.intro @hrr (And.intro (@get_E _ _ _ _ hrr) (And.intro @ruleC.eq_1 (And.intro @ho (And.intro @hoi (And.intro @hge (And.intro @hgn (And.intro @hsb (And.intro @hql (@hi1))))))))))))) _ ?_
      refine Holds.short 3 m (s' := ?_) rfl ?_ ?_
      rotate_left
      · simp [st, hpt] <;> with_reducible rfl
      (refine Holds.any mixed ?_ ?_; (· kernel_rfl))
      refine wkdasc (And.intro @lrC.eq_1 (And.intro @grammarC.eq_1 (And.intro @htop2 (And.intro (@get_E _ _ _ _ htop2) (And.intro @hqp (@hqi)))))) _ ?_
      first | refine GS.cc (cl) rfl rfl rfl rfl (by simp [go_sem, List.take_of_length_le, grammarC, lrC] <;> with_reducible rfl) rfl (by simp [go_sem, List.take_of_length_le, grammarC, lrC]) ?_ | refine Gd.cc (cl) rfl rfl rfl rfl (by simp [go_sem, List.take_of_length_le, grammarC, lrC] <;> with_reducible rfl) rfl (by simp [go_sem, List.take_of_length_le, grammarC, lrC]) ?_ | refine Gx.cc (cl) rfl rfl rfl rfl rfl (by simp [go_sem, List.take_of_length_le, grammarC, lrC] <;> with_reducible rfl) rfl (by simp [go_sem, List.take_of_length_le, grammarC, lrC]) ?_ | refine Gx.cch (cl) rfl rfl rfl rfl rfl (by simp [go_sem, List.take_of_length_le, grammarC, lrC] <;> with_reducible rfl) rfl (by simp [go_sem, List.take_of_length_le, grammarC, lrC]) ?_
      refine wkdac (And.intro @hn0' (And.intro @hb1 (And.intro @hb2 (And.intro @hi1 (@hm1))))) _ ?_
      refine ⟨(n :: b :: Q, a, out ++ [(rn : Int)]), hI3, by dsimp only; simp only [List.length_append, List.length_singleton]; omega, ?_⟩
      exact Cov.ofn (nm [0, 1, 11, 8]) rfl (by simp [go_sem, List.take_of_length_le, ren, ren1, ren2, okr, okr1, okr2, ChkT, ChkN, BlkN, nf, grammarC, lrC, pI_cons n, ints_snoc, hm1]) (by simp [go_sem, List.take_of_length_le, ren, ren1, ren2, okr, okr1, okr2, ChkT, ChkN, BlkN, nf, grammarC, lrC, pI_cons n, ints_snoc, hm1])
end Go.Proofs.YtkolhcoeifghpaaGreat.En
end
section
namespace Go.Proofs.YtkolhcoeifghpaaGreat.En
open Go.RowKit
set_option linter.unusedSimpArgs false
set_option linter.unusedVariables false
set_option maxHeartbeats 4000000
end Go.Proofs.YtkolhcoeifghpaaGreat.En
end
section
namespace Go.Proofs.YtkolhcoeifghpaaGreat.En
open Go.RowKit
set_option linter.unusedSimpArgs false
set_option linter.unusedVariables false
set_option maxHeartbeats 4000000
theorem itemss_snocD (xs : Sets3) (r : List Item3) : itemss xs ++ [[.im 3 (nodes r)]] = itemss (xs ++ [r]) := by simp [itemss, itemssC]
theorem intss_snocD (xs : List (List Int)) (r : List Int) : intss xs ++ [[.im 1 (ints r)]] = intss (xs ++ [r]) := by simp [intss, intsC]
theorem l15States (g : GrammarT) (hG : OkG g) : Pure Tryz.prog 32 [.ag (grammarC g)] (.tu [.ag [.im 1 (itemss (lrV g).1.1), .im 1 (intss (lrV g).1.2)], .v (.bool (lrV g).2)]) := by
  have hlen := hG.len
  have hlX : (gX g).2.2.length ≤ 17 := by rw [gX_len]; omega
  have cm := l15More g hG
  have c0 : Pure Tryz.prog 65 [.ag (grammarC (gX g)), .im 3 (nodes [itemN g.2.2.length 0 0])] (.im 3 (nodes (start0 g))) := l15Closed (gX g) hlX (ruleX_4 hG) [itemN g.2.2.length 0 0] (List.pairwise_singleton _ _) fun z hz => by
    rw [List.mem_singleton] at hz
    subst hz
    exact univX_item hG
  have hI0 := LrI.start hG
  generalize lrV g = V at hI0 ⊢
  refine Pure.mk (rs := [.cell 2 48, .tmp 3]) (nt := 98) Tryz.func32 (by kernel_rfl) rfl rfl rfl (by simp) ?_
  simp only [sl, grammarC]
  refine wkdc (@grammarC.eq_1) _ ?_
  first | refine GS.cc (cm) rfl rfl rfl rfl (by simp [go_sem, List.take_of_length_le, grammarC] <;> with_reducible rfl) rfl (by simp [go_sem, List.take_of_length_le, grammarC]) ?_ | refine Gd.cc (cm) rfl rfl rfl rfl (by simp [go_sem, List.take_of_length_le, grammarC] <;> with_reducible rfl) rfl (by simp [go_sem, List.take_of_length_le, grammarC]) ?_
  repeat' first | (refine Holds.condT ?_ ?_; (· (simp [go_sem, List.take_of_length_le, grammarC] <;> with_reducible rfl))) | (refine Holds.condF ?_ ?_; (· (simp [go_sem, List.take_of_length_le, grammarC] <;> with_reducible rfl))) | refine Holds.seq ?_ | refine Holds.skip ?_ | refine Holds.exit ?_ | refine Holds.ret ?_ | refine thenA_normal ?_ | refine thenA_exit ?_ | refine thenA_ret ?_ | refine inB_normal ?_ | refine inB_ret ?_ | refine inB_here ?_ | (refine inB_past ?_ ?_; (· exact rfl)) | refine Holds.reg ?_ | refine Holds.block ?_ | refine GS.nil ?_ | refine Gd.nil ?_ | (refine Holds.any mixed ?_ ?_; (· kernel_rfl)) | (refine GS.stepD 21 (s' := ?_) rfl ?_ ?_ ?_; rotate_left; (· exact rfl); (· (simp [go_sem, List.take_of_length_le, grammarC] <;> with_reducible rfl))) | (refine GS.skip ?_ ?_ ?_; (· exact rfl); (· exact rfl)) | (refine Gd.go (s' := ?_) ?_ ?_ ?_; rotate_left; (· exact rfl); (· (simp [go_sem, List.take_of_length_le, grammarC] <;> with_reducible rfl))) | (refine Gd.skip ?_ ?_ ?_; (· exact rfl); (· exact rfl)) | fail
  refine GS.frz [3] [(20, .im 3 (nodes [itemN g.2.2.length 0 0]))] (.cons rfl (Fz.all rfl rfl rfl rfl (nodes_ok _)) .nil) ?_
  first | refine GS.cc (c0) rfl rfl rfl rfl (by simp [go_sem, List.take_of_length_le, grammarC, frz] <;> with_reducible rfl) rfl (by simp [go_sem, List.take_of_length_le, grammarC, frz]) ?_ | refine Gd.cc (c0) rfl rfl rfl rfl (by simp [go_sem, List.take_of_length_le, grammarC, frz] <;> with_reducible rfl) rfl (by simp [go_sem, List.take_of_length_le, grammarC, frz]) ?_
  refine wkdc (And.intro @grammarC.eq_1 (@frz.eq_1)) _ ?_
  refine Holds.nir 5 0 1 25 1 rfl rfl rfl (by simp [go_sem]; rfl) ?_
  refine Holds.loop (ι := LrT) (fun L => ⟨[(1, .pb 0 3 0 0), (2, .pb 1 2 0 0), (4, .pb 2 3 0 0), (5, .pb 4 2 0 0), (6, .v (.int .i64 L.2.length))],
    [(5, ⟨25, 1, intss L.2⟩), (4, ⟨48, 2, [[.own 3 1 0 L.1.length, .own 5 1 0 L.2.length]]⟩), (3, ⟨94, 1, itemss L.1⟩), (2, ⟨31, 3, [grammarC (gX g)]⟩), (1, ⟨48, 2, [[.v (.slice none 0 0), .v (.slice none 0 0)]]⟩), (0, ⟨31, 3, [grammarC g]⟩)], 6⟩)
    (fun L => LrI g V L) (fun L => 61 - L.2.length) ([start0 g], []) hI0 ?_ ?_
  · exact Cov.ofn (nm [0, 1, 2, 4, 5, 6]) rfl (by simp [go_sem, List.take_of_length_le, ren, ren1, ren2, okr, okr1, okr2, ChkT, ChkN, BlkN, nf, grammarC, show intss [] = [] from rfl, itemss, itemssC]) (by simp [go_sem, List.take_of_length_le, ren, ren1, ren2, okr, okr1, okr2, ChkT, ChkN, BlkN, nf, grammarC, show intss [] = [] from rfl, itemss, itemssC])
  clear hI0 c0 cm
  rintro ⟨sts, gs⟩ hI
  have hle := hI.p.le
  have hfew := hI.few
  dsimp only at hle hfew ⊢
  have stepk : wr64 ((gs.length : Int) + 1) = ((gs.length + 1 : Nat) : Int) := wr64_id (by omega) (by omega)
  refine wkdc0 _ ?_
  refine Holds.cond rfl (fun h => ?_) (fun h => ?_)
  · have hlt : gs.length < sts.length := by simp at h; omega
    have hS : sts[gs.length]? = some sts[gs.length] := List.getElem?_eq_getElem hlt
    have hok := hI.p.ok.st _ (List.getElem_mem hlt)
    generalize sts[gs.length] = S at hS hok
    have hmany := fun h => hI.many hS h
    have hnext := fun h => hI.next hG hS h
    have hstok := hI.p.ok
    dsimp only at hmany hnext hstok
    have hn0 := hG.n0
    have hn1 := hG.n1
    have ht0 := hG.t0
    have ht1 := hG.t1
    have hwneg : wr64 (-g.2.1) = -g.2.1 := wr64_id (by omega) (by omega)
    have hsl := symsX_len hG
    refine wkdc (And.intro @hwneg (@grammarC.eq_1)) _ ?_
    refine Holds.niw 7 3 1 rfl ?_
    refine Holds.loop (ι := Nat × RowS) (fun i => ⟨[(1, .pb 0 3 0 0), (2, .pb 1 2 0 0), (4, .pb 2 3 0 0), (5, .pb 4 2 0 0), (6, .v (.int .i64 gs.length)), (7, .own 6 1 0 i.2.2.length), (8, .v (.int .i64 ((i.1 : Int) - g.2.1)))],
      [(6, ⟨3, 1, ints i.2.2⟩), (5, ⟨25, 1, intss gs⟩), (4, ⟨48, 2, [[.own 3 1 0 i.2.1.length, .own 5 1 0 gs.length]]⟩), (3, ⟨94, 1, itemss i.2.1⟩), (2, ⟨31, 3, [grammarC (gX g)]⟩), (1, ⟨48, 2, [[.v (.slice none 0 0), .v (.slice none 0 0)]]⟩), (0, ⟨31, 3, [grammarC g]⟩)], 7⟩)
      (fun i => i.1 ≤ (symsX g).length ∧ StsOk g i.2.1 ∧ i.2.1[gs.length]? = some S ∧ i.2.1.length ≤ 60 + i.1 ∧ i.2.2.length = i.1 ∧ rowR g S ((symsX g).drop i.1) i.2 = rowR g S (symsX g) (sts, [])) (fun i => (symsX g).length - i.1) (0, (sts, [])) ⟨Nat.zero_le _, hstok, hS, by dsimp only; omega, rfl, rfl⟩ ?_ ?_
    · exact Cov.ofn (id) rfl (by simp [go_sem, List.take_of_length_le, ren, ren1, ren2, okr, okr1, okr2, ChkT, ChkN, BlkN, nf, niw, grammarC, show ints [] = [] from rfl]) (by simp [go_sem, List.take_of_length_le, ren, ren1, ren2, okr, okr1, okr2, ChkT, ChkN, BlkN, nf, niw, grammarC, show ints [] = [] from rfl])
    generalize hR : rowR g S (symsX g) (sts, []) = R at hmany hnext
    clear hI hS hstok hfew hle hlt h hR
    rintro ⟨i, sts, row⟩ ⟨hi, hstok, hS, hfew, hrl, hrun⟩
    dsimp only at hi hstok hS hfew hrl hrun ⊢
    have hlt := (List.getElem?_eq_some_iff.1 hS).1
    have stepx : wr64 ((i : Int) - g.2.1 + 1) = ((i + 1 : Nat) : Int) - g.2.1 := by rw [wr64_id (by omega) (by omega)]; omega
    refine wkdc (@grammarC.eq_1) _ ?_
    refine Holds.cond rfl (fun h => ?_) (fun h => ?_)
    · have hil : i < (symsX g).length := by simp at h; omega
      have hx := symsX_at hil
      have hdr : (symsX g).drop i = ((i : Int) - g.2.1) :: (symsX g).drop (i + 1) := by
        rw [List.drop_eq_getElem_cons hil]
        congr 1
        have := List.getElem?_eq_getElem hil
        rw [hx] at this
        exact (Option.some.inj this).symm
      rw [hdr] at hrun
      change rowR g S ((symsX g).drop (i + 1)) (stepR g S (sts, row) ((i : Int) - g.2.1)) = R at hrun
      have cg := l15Goto (gX g) hlX (ruleX_4 hG) S hok.1 hok.2.2.1 hok.2.2.2 ((i : Int) - g.2.1)
      have hok2 := hstok.step hG (s := (sts, row)) S ((i : Int) - g.2.1)
      have hsd : stepR g S (sts, row) ((i : Int) - g.2.1) = if gotoX (gX g) S ((i : Int) - g.2.1) = [] then (sts, row ++ [-1]) else if plX sts (gotoX (gX g) S ((i : Int) - g.2.1)) = -1 then (sts ++ [gotoX (gX g) S ((i : Int) - g.2.1)], row ++ [(sts.length : Int)]) else (sts, row ++ [plX sts (gotoX (gX g) S ((i : Int) - g.2.1))]) := rfl
      have hpl := plX_cases hstok.nd (gotoX (gX g) S ((i : Int) - g.2.1))
      generalize stepR g S (sts, row) ((i : Int) - g.2.1) = s2 at hrun hok2 hsd
      generalize gotoX (gX g) S ((i : Int) - g.2.1) = to at cg hsd hpl
      have hbr : (row.length + 1) * 8 ≤ 140737488355328 := by omega
      have hbs : (sts.length + 1) * 24 ≤ 140737488355328 := by omega
      refine wkdsc (And.intro @hlt (And.intro @hS (And.intro (@get_E _ _ _ _ hS) (And.intro @itemssC.eq_1 (@grammarC.eq_1))))) _ ?_
      (refine Holds.any mixed ?_ ?_; (· kernel_rfl))
      refine wkdsc (And.intro @hlt (And.intro @hS (And.intro (@get_E _ _ _ _ hS) (And.intro @itemssC.eq_1 (@grammarC.eq_1))))) _ ?_
      first | refine GS.cc (cg) rfl rfl rfl rfl (by simp [go_sem, List.take_of_length_le, grammarC] <;> with_reducible rfl) rfl (by simp [go_sem, List.take_of_length_le, grammarC]) ?_ | refine Gd.cc (cg) rfl rfl rfl rfl (by simp [go_sem, List.take_of_length_le, grammarC] <;> with_reducible rfl) rfl (by simp [go_sem, List.take_of_length_le, grammarC]) ?_
      refine wkdc (@grammarC.eq_1) _ ?_
      refine Holds.loop (ι := Nat) (fun j => ⟨[(1, .pb 0 3 0 0), (2, .pb 1 2 0 0), (4, .pb 2 3 0 0), (5, .pb 4 2 0 0), (6, .v (.int .i64 gs.length)), (7, .own 6 1 0 row.length), (8, .v (.int .i64 ((i : Int) - g.2.1))), (9, .im 3 (nodes to)), (10, .v (.int .i64 (if to ∈ sts.take j then plX sts to else -1))), (49, .own 3 1 0 sts.length), (50, .v (.int .i64 sts.length)), (51, .v (.int .i64 j))],
        [(6, ⟨3, 1, ints row⟩), (5, ⟨25, 1, intss gs⟩), (4, ⟨48, 2, [[.own 3 1 0 sts.length, .own 5 1 0 gs.length]]⟩), (3, ⟨94, 1, itemss sts⟩), (2, ⟨31, 3, [grammarC (gX g)]⟩), (1, ⟨48, 2, [[.v (.slice none 0 0), .v (.slice none 0 0)]]⟩), (0, ⟨31, 3, [grammarC g]⟩)], 7⟩)
        (fun j => j ≤ sts.length) (fun j => sts.length - j) 0 (Nat.zero_le _) ?_ ?_
      · exact Cov.ofn (id) rfl (by simp [go_sem, List.take_of_length_le, ren, ren1, ren2, okr, okr1, okr2, ChkT, ChkN, BlkN, nf, grammarC]) (by simp [go_sem, List.take_of_length_le, ren, ren1, ren2, okr, okr1, okr2, ChkT, ChkN, BlkN, nf, grammarC])
      · intro j hj
        have stepj : wr64 ((j : Int) + 1) = ((j + 1 : Nat) : Int) := wr64_id (by omega) (by omega)
        refine wkdc0 _ ?_
        refine Holds.cond rfl (fun h => ?_) (fun h => ?_)
        · have hjl : j < sts.length := by simp at h; omega
          have hl : sts[j]? = some sts[j] := List.getElem?_eq_getElem hjl
          have hlo := hstok.st _ (List.getElem_mem hjl)
          generalize sts[j] = l at hl hlo
          have htk : sts.take (j + 1) = sts.take j ++ [l] := by rw [List.take_add_one, hl]; rfl
          have cs := l15SameItems l to (by have := hlo.2.2.2; omega)
          by_cases he : l = to
          · have hat : (if to ∈ sts.take (j + 1) then plX sts to else -1) = (j : Int) := by
              rw [if_pos (by rw [htk, he]; simp)]
              rcases hpl with ⟨h1, _⟩ | ⟨i2, h1, h2, h3⟩
              · exact absurd (by rw [← he]; exact List.mem_of_getElem? hl) h1
              · rw [h3]
                have : i2 = j := by
                  obtain ⟨_, e1⟩ := List.getElem?_eq_some_iff.1 h2
                  obtain ⟨_, e2⟩ := List.getElem?_eq_some_iff.1 hl
                  exact (List.getElem_inj hstok.nd).1 (by rw [e1, e2, he])
                rw [this]
            have hne : to ≠ [] := by rw [← he]; exact hlo.2.1
            rw [decide_eq_true he] at cs
            have hpos : (0 : Int) < (to.length : Int) := by have := List.length_pos_iff.2 hne; omega
            have hpos2 : 0 < to.length := by omega
            refine wkdc (And.intro @hl (And.intro (@get_E _ _ _ _ hl) (And.intro @hjl (And.intro @hpos (And.intro @hpos2 (And.intro @hne (@itemssC.eq_1))))))) _ ?_
            first | refine GS.cc (cs) rfl rfl rfl rfl (by simp [go_sem, List.take_of_length_le] <;> with_reducible rfl) rfl (by simp [go_sem, List.take_of_length_le]) ?_ | refine Gd.cc (cs) rfl rfl rfl rfl (by simp [go_sem, List.take_of_length_le] <;> with_reducible rfl) rfl (by simp [go_sem, List.take_of_length_le]) ?_
            refine wkdc0 _ ?_
            refine ⟨j + 1, by omega, by omega, ?_⟩
            rw [stepj, hat]
            exact Cov.ofn (id) rfl (by simp [go_sem, List.take_of_length_le, ren, ren1, ren2, okr, okr1, okr2, ChkT, ChkN, BlkN, nf, grammarC]) (by simp [go_sem, List.take_of_length_le, ren, ren1, ren2, okr, okr1, okr2, ChkT, ChkN, BlkN, nf, grammarC])
          · have hat : (if to ∈ sts.take (j + 1) then plX sts to else -1) = (if to ∈ sts.take j then plX sts to else -1) := by
              have : to ∈ sts.take (j + 1) ↔ to ∈ sts.take j := by
                rw [htk, List.mem_append, List.mem_singleton]
                exact ⟨fun h => h.elim id fun e => absurd e.symm he, .inl⟩
              simp only [this]
            generalize (if to ∈ sts.take j then plX sts to else -1) = at_ at hat ⊢
            rw [decide_eq_false he] at cs
            by_cases hne : to = []
            · have hpos : ¬ (0 : Int) < (to.length : Int) := by rw [hne]; simp
              have hpos2 : to.length = 0 := by rw [hne]; rfl
              refine wkdc (And.intro @hl (And.intro (@get_E _ _ _ _ hl) (And.intro @hjl (And.intro @hpos (And.intro @hpos2 (@itemssC.eq_1)))))) _ ?_
              refine ⟨j + 1, by omega, by omega, ?_⟩
              rw [stepj, hat]
              exact Cov.ofn (id) rfl (by simp [go_sem, List.take_of_length_le, ren, ren1, ren2, okr, okr1, okr2, ChkT, ChkN, BlkN, nf, grammarC]) (by simp [go_sem, List.take_of_length_le, ren, ren1, ren2, okr, okr1, okr2, ChkT, ChkN, BlkN, nf, grammarC])
            · have hpos : (0 : Int) < (to.length : Int) := by have := List.length_pos_iff.2 hne; omega
              have hpos2 : 0 < to.length := by omega
              refine wkdc (And.intro @hl (And.intro (@get_E _ _ _ _ hl) (And.intro @hjl (And.intro @hpos (And.intro @hpos2 (And.intro @hne (@itemssC.eq_1))))))) _ ?_
              first | refine GS.cc (cs) rfl rfl rfl rfl (by simp [go_sem, List.take_of_length_le] <;> with_reducible rfl) rfl (by simp [go_sem, List.take_of_length_le]) ?_ | refine Gd.cc (cs) rfl rfl rfl rfl (by simp [go_sem, List.take_of_length_le] <;> with_reducible rfl) rfl (by simp [go_sem, List.take_of_length_le]) ?_
              refine wkdc0 _ ?_
              refine ⟨j + 1, by omega, by omega, ?_⟩
              rw [stepj, hat]
              exact Cov.ofn (id) rfl (by simp [go_sem, List.take_of_length_le, ren, ren1, ren2, okr, okr1, okr2, ChkT, ChkN, BlkN, nf, grammarC]) (by simp [go_sem, List.take_of_length_le, ren, ren1, ren2, okr, okr1, okr2, ChkT, ChkN, BlkN, nf, grammarC])
        · have hje : j = sts.length := by simp at h; omega
          subst hje
          have hat : (if to ∈ sts.take sts.length then plX sts to else -1) = plX sts to := by
            rw [List.take_length]
            split
            · rfl
            · rename_i hn
              rcases hpl with ⟨_, h1⟩ | ⟨i2, _, h2, _⟩
              · exact h1.symm
              · exact absurd (List.mem_of_getElem? h2) hn
          rw [hat]
          by_cases hne : to = []
          · have hpos : ¬ (0 : Int) < (to.length : Int) := by rw [hne]; simp
            have hpos2 : to.length = 0 := by rw [hne]; rfl
            have hm1 : plX sts to = -1 := by
              rcases hpl with ⟨_, h1⟩ | ⟨i2, _, h2, _⟩
              · exact h1
              · exact absurd hne (hstok.st _ (List.mem_of_getElem? h2)).2.1
            rw [if_pos hne] at hsd
            subst hsd
            rw [hm1]
            refine wkdc (And.intro @hpos (And.intro @hpos2 (@hbr))) _ ?_
            refine ⟨(i + 1, (sts, row ++ [-1])), ⟨by dsimp only; omega, hok2, hS, by dsimp only; omega, by simp [hrl], hrun⟩, by dsimp only; omega, ?_⟩
            rw [stepx]
            exact Cov.ofn (nm [0, 1, 2, 3, 4, 5, 9]) rfl (by simp [go_sem, List.take_of_length_le, ren, ren1, ren2, okr, okr1, okr2, ChkT, ChkN, BlkN, nf, grammarC, ints_snoc]) (by simp [go_sem, List.take_of_length_le, ren, ren1, ren2, okr, okr1, okr2, ChkT, ChkN, BlkN, nf, grammarC, ints_snoc])
          · have hpos : (0 : Int) < (to.length : Int) := by have := List.length_pos_iff.2 hne; omega
            have hpos2 : 0 < to.length := by omega
            rw [if_neg hne] at hsd
            rcases hpl with ⟨_, hm1⟩ | ⟨i2, h1, h2, h3⟩
            · rw [if_pos hm1] at hsd
              subst hsd
              rw [hm1]
              refine wkdc (And.intro @hpos (And.intro @hpos2 (And.intro @hne (And.intro @hbr (@hbs))))) _ ?_
              refine ⟨(i + 1, (sts ++ [to], row ++ [(sts.length : Int)])), ⟨by dsimp only; omega, hok2, by dsimp only; rw [List.getElem?_append_left hlt]; exact hS, by simp; omega, by simp [hrl], hrun⟩, by dsimp only; omega, ?_⟩
              rw [stepx]
              exact Cov.ofn (nm [0, 1, 2, 9, 4, 5, 12]) rfl (by simp [go_sem, List.take_of_length_le, ren, ren1, ren2, okr, okr1, okr2, ChkT, ChkN, BlkN, nf, grammarC, ints_snoc, itemss_snocD]) (by simp [go_sem, List.take_of_length_le, ren, ren1, ren2, okr, okr1, okr2, ChkT, ChkN, BlkN, nf, grammarC, ints_snoc, itemss_snocD])
            · have hm2 : ¬ plX sts to = -1 := by omega
              have hm3 : ¬ (i2 : Int) < 0 := by omega
              rw [if_neg hm2, h3] at hsd
              subst hsd
              rw [h3]
              refine wkdc (And.intro @hpos (And.intro @hpos2 (And.intro @hne (And.intro @hbr (@hm3))))) _ ?_
              refine ⟨(i + 1, (sts, row ++ [(i2 : Int)])), ⟨by dsimp only; omega, hok2, hS, by dsimp only; omega, by simp [hrl], hrun⟩, by dsimp only; omega, ?_⟩
              rw [stepx]
              exact Cov.ofn (nm [0, 1, 2, 3, 4, 5, 9]) rfl (by simp [go_sem, List.take_of_length_le, ren, ren1, ren2, okr, okr1, okr2, ChkT, ChkN, BlkN, nf, grammarC, ints_snoc]) (by simp [go_sem, List.take_of_length_le, ren, ren1, ren2, okr, okr1, okr2, ChkT, ChkN, BlkN, nf, grammarC, ints_snoc])
    · have hie : i = (symsX g).length := by simp at h; omega
      subst hie
      rw [List.drop_length] at hrun
      change (sts, row) = R at hrun
      subst hrun
      dsimp only at hmany hnext
      have hbg : (gs.length + 1) * 24 ≤ 140737488355328 := by omega
      refine Holds.frz [6] [(7, .im 1 (ints row))] (.cons rfl (Fz.all rfl rfl (by simp) rfl (ints_cl _)) .nil) ?_
      by_cases h60 : 60 < sts.length
      · rw [hmany h60]
        have h60i : (60 : Int) < (sts.length : Int) := by omega
        refine wkdc (And.intro @frz.eq_1 (And.intro @hbg (And.intro @h60 (@h60i)))) _ ?_
        refine Out.mk (xs := ?_) ?_ ?_ (by first | exact .inr rfl | exact .inl rfl)
        rotate_left
        · simp [go_sem, List.take_of_length_le] <;> with_reducible rfl
        exact Fz.tuL (.cons (Fz.agL (.cons (Fz.nl _) (.cons (Fz.nl _) .nil))) (.cons (.v _) .nil))
      · have h60i : ¬ (60 : Int) < (sts.length : Int) := by omega
        refine wkdc (And.intro @frz.eq_1 (And.intro @hbg (And.intro @h60 (@h60i)))) _ ?_
        refine ⟨(sts, gs ++ [row]), hnext h60, by dsimp only; rw [List.length_append, List.length_singleton]; omega, ?_⟩
        rw [stepk]
        exact Cov.ofn (nm [0, 1, 2, 3, 4, 9]) rfl (by simp [go_sem, List.take_of_length_le, ren, ren1, ren2, okr, okr1, okr2, ChkT, ChkN, BlkN, nf, grammarC, intss_snocD]) (by simp [go_sem, List.take_of_length_le, ren, ren1, ren2, okr, okr1, okr2, ChkT, ChkN, BlkN, nf, grammarC, intss_snocD])
  · rw [hI.end_ (by dsimp only; simp at h; omega)]
    refine wkdc0 _ ?_
    refine Out.mk (xs := ?_) ?_ ?_ (by first | exact .inr rfl | exact .inl rfl)
    rotate_left
    · simp [go_sem, List.take_of_length_le] <;> with_reducible rfl
    exact Fz.tuL (.cons (Fz.agL (.cons (Fz.all rfl rfl (by simp) rfl (itemss_ok _)) (.cons (Fz.all rfl rfl (by simp) rfl (intss_ok _)) .nil))) (.cons (.v _) .nil))
end Go.Proofs.YtkolhcoeifghpaaGreat.En
end
section
namespace Go.Proofs.YtkolhcoeifghpaaGreat.En
open Go.RowKit
set_option linter.unusedSimpArgs false
set_option linter.unusedVariables false
set_option maxHeartbeats 4000000
noncomputable def statesX (g : GrammarT) : LrT × Bool := if goodG g = true then lrV g else (([], []), false)
theorem specStates (g : GrammarT) (hx : g.2.2.length < 4611686018427387904) (hs : ∀ e ∈ g.2.2, e.2.length < 4611686018427387904) : Pure Tryz.prog 60 [.ag (grammarC g)] (.tu [.ag (lrC (statesX g).1), .v (.bool (statesX g).2)]) := by
  have cg := specGoodG g hx hs
  unfold statesX
  refine Pure.mk (rs := [.cell 2 48, .tmp 3]) (nt := 12) Tryz.func60 (by kernel_rfl) rfl rfl rfl (by simp) ?_
  simp only [sl, grammarC]
  refine wkc0 _ ?_
  cases hg : goodG g with
  | false =>
    rw [hg] at cg
    simp only [Bool.false_eq_true, if_false]
    refine GS.cc (cg) rfl rfl rfl rfl (by simp [go_sem, List.take_of_length_le, grammarC] <;> with_reducible rfl) rfl (by simp [go_sem, List.take_of_length_le, grammarC]) ?_
    refine wkc0 _ ?_
    refine Out.mk (xs := ?_) ?_ ?_ (by first | exact .inr rfl | exact .inl rfl)
    rotate_left
    · simp [go_sem, List.take_of_length_le] <;> with_reducible rfl
    exact Fz.tuL (.cons (Fz.agL (.cons (Fz.nl _) (.cons (Fz.nl _) .nil))) (.cons (.v _) .nil))
  | true =>
    rw [hg] at cg
    simp only [if_true]
    have cl := l15States g (goodG_ok hg)
    refine GS.cc (cg) rfl rfl rfl rfl (by simp [go_sem, List.take_of_length_le, grammarC] <;> with_reducible rfl) rfl (by simp [go_sem, List.take_of_length_le, grammarC]) ?_
    refine wkc (@grammarC.eq_1) _ ?_
    generalize lrV g = V at cl ⊢
    refine GS.cc (cl) rfl rfl rfl rfl (by simp [go_sem, List.take_of_length_le, grammarC] <;> with_reducible rfl) rfl (by simp [go_sem, List.take_of_length_le, grammarC]) ?_
    refine wkc0 _ ?_
    refine Out.mk (xs := ?_) ?_ ?_ (by first | exact .inr rfl | exact .inl rfl)
    rotate_left
    · simp [go_sem, List.take_of_length_le] <;> with_reducible rfl
    exact Fz.tuL (.cons (Fz.agL (.cons (.im _ _) (.cons (.im _ _) .nil))) (.cons (.v _) .nil))
end Go.Proofs.YtkolhcoeifghpaaGreat.En
end
section
namespace Go.Proofs.YtkolhcoeifghpaaGreat.En
open Go.RowKit
set_option linter.unusedSimpArgs false
set_option linter.unusedVariables false
set_option maxHeartbeats 4000000
noncomputable def behV (g : GrammarT) : Bool × Bool := if (goodG g && (lrV g).2) = true then (decide ((lrClash g (lrV g).1 (lrV g).1.1.length).length = 0), true) else (false, false)
theorem specBeh (g : GrammarT) (hx : g.2.2.length < 4611686018427387904) (hs : ∀ e ∈ g.2.2, e.2.length < 4611686018427387904) : Pure Tryz.prog 26 [.ag (grammarC g)] (.tu [.v (.bool (behV g).1), .v (.bool (behV g).2)]) := by
  have cs := specStates g hx hs
  unfold behV
  refine Pure.mk (rs := [.tmp 2, .tmp 3]) (nt := 18) Tryz.func26 (by kernel_rfl) rfl rfl rfl (by simp) ?_
  simp only [sl, grammarC]
  refine wkc (@grammarC.eq_1) _ ?_
  cases hg : goodG g with
  | false =>
    rw [show statesX g = (([], []), false) by rw [statesX, if_neg (by rw [hg]; simp)]] at cs
    simp only [Bool.false_and, Bool.false_eq_true, if_false]
    refine GS.cc (cs) rfl rfl rfl rfl (by simp [go_sem, List.take_of_length_le, grammarC] <;> with_reducible rfl) rfl (by simp [go_sem, List.take_of_length_le, grammarC]) ?_
    refine wkc (@lrC.eq_1) _ ?_
    refine Out.mk (xs := ?_) ?_ ?_ (by first | exact .inr rfl | exact .inl rfl)
    rotate_left
    · simp [go_sem, List.take_of_length_le] <;> with_reducible rfl
    exact Fz.cl rfl
  | true =>
    have hG := goodG_ok hg
    rw [show statesX g = lrV g by rw [statesX, if_pos hg]] at cs
    rw [Bool.true_and]
    cases hv : (lrV g).2 with
    | false =>
      rw [hv] at cs
      simp only [Bool.false_eq_true, if_false]
      generalize (lrV g).1 = L at cs
      refine GS.cc (cs) rfl rfl rfl rfl (by simp [go_sem, List.take_of_length_le, grammarC] <;> with_reducible rfl) rfl (by simp [go_sem, List.take_of_length_le, grammarC]) ?_
      refine wkc (@lrC.eq_1) _ ?_
      refine Out.mk (xs := ?_) ?_ ?_ (by first | exact .inr rfl | exact .inl rfl)
      rotate_left
      · simp [go_sem, List.take_of_length_le] <;> with_reducible rfl
      exact Fz.cl rfl
    | true =>
      rw [hv] at cs
      obtain ⟨h1, h2, h3⟩ := lrV_ok hG hv
      have hL : LrG g (lrV g).1 := ⟨h1, h2, h3⟩
      simp only [if_true]
      clear h1 h2 h3 hv
      generalize (lrV g).1 = L at cs hL ⊢
      have cl := l15Clashes g hG L hL
      generalize lrClash g L L.1.length = C at cl ⊢
      refine GS.cc (cs) rfl rfl rfl rfl (by simp [go_sem, List.take_of_length_le, grammarC] <;> with_reducible rfl) rfl (by simp [go_sem, List.take_of_length_le, grammarC]) ?_
      refine wkc (And.intro @grammarC.eq_1 (@lrC.eq_1)) _ ?_
      refine GS.cc (cl) rfl rfl rfl rfl (by simp [go_sem, List.take_of_length_le, grammarC, lrC] <;> with_reducible rfl) rfl (by simp [go_sem, List.take_of_length_le, grammarC, lrC]) ?_
      by_cases hC : C.length = 0
      · have hCi : ((C.length : Int) == 0) = true := by simp [hC]
        rw [decide_eq_true hC]
        refine wkc (And.intro @hCi (@hC)) _ ?_
        refine Out.mk (xs := ?_) ?_ ?_ (by first | exact .inr rfl | exact .inl rfl)
        rotate_left
        · simp [go_sem, List.take_of_length_le] <;> with_reducible rfl
        exact Fz.cl rfl
      · have hCi : ((C.length : Int) == 0) = false := by rw [beq_eq_false_iff_ne]; omega
        have hCn : ¬ C = [] := by rintro rfl; exact hC rfl
        rw [decide_eq_false hC]
        refine wkc (And.intro @hCi (And.intro @hC (@hCn))) _ ?_
        refine Out.mk (xs := ?_) ?_ ?_ (by first | exact .inr rfl | exact .inl rfl)
        rotate_left
        · simp [go_sem, List.take_of_length_le] <;> with_reducible rfl
        exact Fz.cl rfl
end Go.Proofs.YtkolhcoeifghpaaGreat.En
end
section
namespace Go.Proofs.YtkolhcoeifghpaaGreat.En
open Go.RowKit
set_option linter.unusedSimpArgs false
set_option linter.unusedVariables false
set_option maxHeartbeats 4000000
noncomputable def behindV (g : GrammarT) (w : List Int) : PbV := if (goodG g && (lrV g).2 && decide ((lrClash g (lrV g).1 (lrV g).1.1.length).length = 0) && wordV g.2.1 w) = true then pbV g (lrV g).1 w else ([], 0, false)
theorem wordV_okB {t : Int} {w : List Int} (h : wordV t w = true) : w.length ≤ 10 ∧ ∀ x ∈ w, 0 ≤ x ∧ x < t := by
  unfold wordV at h
  simp only [Bool.and_eq_true, decide_eq_true_eq, List.all_eq_true] at h
  refine ⟨h.1, fun x hx => ?_⟩
  have := h.2 x hx
  simp [inR] at this
  omega
theorem getD_atP {l : List Int} {i : Nat} (h : i < l.length) (d : Int) : l[i]? = some (l.getD i d) := by
  rw [List.getD_eq_getElem?_getD, List.getElem?_eq_getElem h]; rfl
theorem leadsX_cell {g : GrammarT} (hG : OkG g) {L : LrT} (hL : LrG g L) {s : Nat} (hs : s < L.1.length) {x : Int} (hx0 : -g.2.1 ≤ x) (hx1 : x < g.1) : ∃ (row : List Int) (i : Nat), L.2[s]? = some row ∧ s < L.2.length ∧ row[i]? = some (leadsX g L s x) ∧ i < row.length ∧ x + g.2.1 = (i : Int) := by
  have hN1 := hG.n1
  have hT1 := hG.t1
  obtain ⟨hrow, hrl⟩ := hL.row hG hs
  have hi : (x + g.2.1).toNat < (L.2.getD s []).length := by omega
  refine ⟨L.2.getD s [], (x + g.2.1).toNat, hrow, (List.getElem?_eq_some_iff.1 hrow).1, ?_, hi, by omega⟩
  exact getD_atP hi _
theorem specPB (g : GrammarT) (w : List Int) (hx : g.2.2.length < 4611686018427387904) (hs : ∀ e ∈ g.2.2, e.2.length < 4611686018427387904) (hw : w.length < 4611686018427387904) : Pure Tryz.prog 9 [.ag (grammarC g), .im 1 (ints w)] (.tu [.im 1 (ints (behindV g w).1), .v (.int .i64 (behindV g w).2.1), .v (.bool (behindV g w).2.2)]) := by
  have co := specBeh g hx hs
  unfold behV at co
  unfold behindV
  refine Pure.mk (rs := [.tmp 4, .tmp 5, .tmp 6]) (nt := 153) Tryz.func9 (by kernel_rfl) rfl rfl rfl (by simp) ?_
  simp only [sl, grammarC]
  refine wkdc (@grammarC.eq_1) _ ?_
  cases hg : (goodG g && (lrV g).2) with
  | false =>
    rw [hg] at co
    simp only [Bool.false_eq_true, if_false] at co
    simp only [Bool.false_and, Bool.false_eq_true, if_false]
    first | refine GS.cc (co) rfl rfl rfl rfl (by simp [go_sem, List.take_of_length_le, grammarC] <;> with_reducible rfl) rfl (by simp [go_sem, List.take_of_length_le, grammarC]) ?_ | refine Gd.cc (co) rfl rfl rfl rfl (by simp [go_sem, List.take_of_length_le, grammarC] <;> with_reducible rfl) rfl (by simp [go_sem, List.take_of_length_le, grammarC]) ?_
    refine wkdc0 _ ?_
    refine Out.mk (xs := ?_) ?_ ?_ (by first | exact .inr rfl | exact .inl rfl)
    rotate_left
    · simp [go_sem, List.take_of_length_le] <;> with_reducible rfl
    exact Fz.tuL (.cons (Fz.nl _) (.cons (.v _) (.cons (.v _) .nil)))
  | true =>
    rw [hg] at co
    simp only [if_true] at co
    rw [Bool.and_eq_true] at hg
    have hG := goodG_ok hg.1
    have hv := hg.2
    obtain ⟨h1, h2, h3⟩ := lrV_ok hG hv
    have hL : LrG g (lrV g).1 := ⟨h1, h2, h3⟩
    clear h1 h2 h3
    have hlen := hG.len
    have hn0 := hG.n0
    have hN1 := hG.n1
    have hT0 := hG.t0
    have hT1 := hG.t1
    have hfew := hL.few
    have cw := l1Word g w (by omega) (by omega) hw
    rw [Bool.true_and]
    cases hC0 : decide ((lrClash g (lrV g).1 (lrV g).1.1.length).length = 0) with
    | false =>
      rw [hC0] at co
      simp only [Bool.false_and, Bool.false_eq_true, if_false]
      first | refine GS.cc (co) rfl rfl rfl rfl (by simp [go_sem, List.take_of_length_le, grammarC] <;> with_reducible rfl) rfl (by simp [go_sem, List.take_of_length_le, grammarC]) ?_ | refine Gd.cc (co) rfl rfl rfl rfl (by simp [go_sem, List.take_of_length_le, grammarC] <;> with_reducible rfl) rfl (by simp [go_sem, List.take_of_length_le, grammarC]) ?_
      refine wkdc0 _ ?_
      refine Out.mk (xs := ?_) ?_ ?_ (by first | exact .inr rfl | exact .inl rfl)
      rotate_left
      · simp [go_sem, List.take_of_length_le] <;> with_reducible rfl
      exact Fz.tuL (.cons (Fz.nl _) (.cons (.v _) (.cons (.v _) .nil)))
    | true =>
      rw [hC0] at co
      rw [Bool.true_and]
      have hC : lrClash g (lrV g).1 (lrV g).1.1.length = [] := List.length_eq_zero_iff.1 (by simpa using hC0)
      first | refine GS.cc (co) rfl rfl rfl rfl (by simp [go_sem, List.take_of_length_le, grammarC] <;> with_reducible rfl) rfl (by simp [go_sem, List.take_of_length_le, grammarC]) ?_ | refine Gd.cc (co) rfl rfl rfl rfl (by simp [go_sem, List.take_of_length_le, grammarC] <;> with_reducible rfl) rfl (by simp [go_sem, List.take_of_length_le, grammarC]) ?_
      refine wkdc (@grammarC.eq_1) _ ?_
      cases hwv : wordV g.2.1 w with
      | false =>
        rw [hwv] at cw
        simp only [Bool.false_eq_true, if_false]
        first | refine GS.cc (cw) rfl rfl rfl rfl (by simp [go_sem, List.take_of_length_le, grammarC] <;> with_reducible rfl) rfl (by simp [go_sem, List.take_of_length_le, grammarC]) ?_ | refine Gd.cc (cw) rfl rfl rfl rfl (by simp [go_sem, List.take_of_length_le, grammarC] <;> with_reducible rfl) rfl (by simp [go_sem, List.take_of_length_le, grammarC]) ?_
        refine wkdc0 _ ?_
        refine Out.mk (xs := ?_) ?_ ?_ (by first | exact .inr rfl | exact .inl rfl)
        rotate_left
        · simp [go_sem, List.take_of_length_le] <;> with_reducible rfl
        exact Fz.tuL (.cons (Fz.nl _) (.cons (.v _) (.cons (.v _) .nil)))
      | true =>
        rw [hwv] at cw
        obtain ⟨hw1, hw2⟩ := wordV_okB hwv
        replace hw1 : w.length ≤ 20 := by omega
        simp only [if_true]
        have cs := l15States g hG
        rw [hv] at cs
        clear hv hg
        generalize (lrV g).1 = L at cs hL hC hfew ⊢
        obtain ⟨n0, hn⟩ : ∃ n : Nat, (n : Int) = g.1 := ⟨g.1.toNat, by omega⟩
        have cf := l14Follows g hG n0 hn
        have hst := InvPB.start g L w
        generalize pbV g L w = V at hst ⊢
        first | refine GS.cc (cw) rfl rfl rfl rfl (by simp [go_sem, List.take_of_length_le, grammarC] <;> with_reducible rfl) rfl (by simp [go_sem, List.take_of_length_le, grammarC]) ?_ | refine Gd.cc (cw) rfl rfl rfl rfl (by simp [go_sem, List.take_of_length_le, grammarC] <;> with_reducible rfl) rfl (by simp [go_sem, List.take_of_length_le, grammarC]) ?_
        refine wkdc (And.intro @grammarC.eq_1 (@lrC.eq_1)) _ ?_
        first | refine GS.cc (cs) rfl rfl rfl rfl (by simp [go_sem, List.take_of_length_le, grammarC, lrC] <;> with_reducible rfl) rfl (by simp [go_sem, List.take_of_length_le, grammarC, lrC]) ?_ | refine Gd.cc (cs) rfl rfl rfl rfl (by simp [go_sem, List.take_of_length_le, grammarC, lrC] <;> with_reducible rfl) rfl (by simp [go_sem, List.take_of_length_le, grammarC, lrC]) ?_
        refine wkdc (And.intro @grammarC.eq_1 (@lrC.eq_1)) _ ?_
        refine GS.fnn [] (cf) rfl rfl rfl rfl (by simp [go_sem, List.take_of_length_le, ren, ren1, ren2, okr, okr1, okr2, ChkN, BlkN, List.range_succ, nf, grammarC] <;> with_reducible rfl) (by simp [go_sem, List.take_of_length_le, ren, ren1, ren2, okr, okr1, okr2, ChkN, BlkN, List.range_succ, nf, grammarC]) (by simp [go_sem, List.take_of_length_le, ren, ren1, ren2, okr, okr1, okr2, ChkN, BlkN, List.range_succ, nf, grammarC]) (by simp [List.range_succ, lb]) (ChkN.toB (by simp [go_sem, List.take_of_length_le, ren, ren1, ren2, okr, okr1, okr2, ChkN, BlkN, List.range_succ, nf, grammarC])) (by decide) (by simp) rfl (.nfr (by simp) (.nfr (by simp) .nil)) (by simp [go_sem, List.take_of_length_le, ren, ren1, ren2, okr, okr1, okr2, ChkN, BlkN, List.range_succ, nf, grammarC] <;> with_reducible rfl) ?_
        refine wkdc0 _ ?_
        refine Holds.frz [2, 3] [(11, .im 1 (intss (rowsT n0 (followS g)))), (12, .im 1 (lastR n0 (followS g)))] (.cons rfl (Fz.all rfl rfl (by simp) rfl (intss_cl _)) (.cons rfl (Fz.all rfl rfl (by simp) rfl (lastR_cl _ _)) .nil)) ?_
        refine Holds.niw 15 3 1 rfl ?_
        refine Holds.loop (ι := List Nat × Nat × List Int) (fun x => ⟨[(1, .im 1 (ints w)), (2, .pb 0 3 0 0), (9, .pb 1 2 0 0), (11, .im 1 (intss (rowsT n0 (followS g)))), (12, .im 1 (lastR n0 (followS g))), (13, .own 2 1 0 x.1.length), (14, .v (.int .i64 x.2.1)), (15, .own 3 1 0 x.2.2.length)], [(3, ⟨3, 1, ints x.2.2⟩), (2, ⟨3, 1, ints (pI x.1)⟩), (1, ⟨48, 2, [lrC L]⟩), (0, ⟨31, 3, [grammarC g]⟩)], 4⟩)
          (fun x => InvPB g L w V x.1 x.2.1 x.2.2) (fun x => 200 - x.2.1 - x.2.2.length) ([0], 0, []) hst ?_ ?_
        · exact Cov.ofn (nm [0, 1, 4, 5]) rfl (by simp [go_sem, List.take_of_length_le, ren, ren1, ren2, okr, okr1, okr2, ChkT, ChkN, BlkN, nf, frz, niw, grammarC, lrC, show pI [0] = [(0 : Int)] from rfl, ints]) (by simp [go_sem, List.take_of_length_le, ren, ren1, ren2, okr, okr1, okr2, ChkT, ChkN, BlkN, nf, frz, niw, grammarC, lrC, show pI [0] = [(0 : Int)] from rfl, ints])
        rintro ⟨P, a, out⟩ hI
        dsimp only at hI ⊢
        obtain ⟨s, P, rfl⟩ : ∃ s Q, P = s :: Q := by
          cases hI.path with
          | one => exact ⟨_, _, rfl⟩
          | more => exact ⟨_, _, rfl⟩
        have hs := hI.path.lt hL s (.head _)
        have hale := hI.ale
        have hole := hI.ole
        have hple := hI.ple
        have htop := pI_top s P
        have hpl : (s :: P).length = P.length + 1 := rfl
        rw [hpl] at hple ⊢
        obtain ⟨r1, r2, r3, r4⟩ := tokB_rng hw2 (by omega) a
        have hfewt := few_todo hC hs r1 (by omega)
        have hpl1 : wr64 (((P.length + 1 : Nat) : Int) - 1) = (P.length : Int) := by rw [wr64_id (by omega) (by omega)]; omega
        have hpl2 : P.length < P.length + 1 := by omega
        have hpl3 : wr64 (P.length : Int) = (P.length : Int) := wr64_id (by omega) (by omega)
        have ct := l15Todo g hG L hL s hs n0 hn (tokB w a) r1 (by omega)
        obtain ⟨t, ht⟩ : ∃ t, t = tokB w a := ⟨_, rfl⟩
        refine wkdc0 _ ?_
        refine Holds.join (ι := Unit) (fun _ => ⟨[(1, .im 1 (ints w)), (2, .pb 0 3 0 0), (9, .pb 1 2 0 0), (11, .im 1 (intss (rowsT n0 (followS g)))), (12, .im 1 (lastR n0 (followS g))), (13, .own 2 1 0 (P.length + 1)), (14, .v (.int .i64 a)), (15, .own 3 1 0 out.length), (16, .v (.int .i64 t))], [(3, ⟨3, 1, ints out⟩), (2, ⟨3, 1, ints (pI (s :: P))⟩), (1, ⟨48, 2, [lrC L]⟩), (0, ⟨31, 3, [grammarC g]⟩)], 4⟩) (fun _ => True) ?_ ?_
        · refine Holds.cond rfl (fun h => ?_) (fun h => ?_)
          · have hal : a < w.length := by simpa using h
            have hwa : w[a]? = some t := by
              rw [ht, tokB, List.getElem?_eq_getElem hal]; rfl
            refine wkdc (And.intro @hal (And.intro @hwa (@get_E _ _ _ _ hwa))) _ ?_
            refine ⟨(), trivial, ?_⟩
            exact Cov.ofn (id) rfl (by simp [go_sem, List.take_of_length_le, ren, ren1, ren2, okr, okr1, okr2, ChkT, ChkN, BlkN, nf, grammarC, lrC]) (by simp [go_sem, List.take_of_length_le, ren, ren1, ren2, okr, okr1, okr2, ChkT, ChkN, BlkN, nf, grammarC, lrC])
          · have hal : ¬ a < w.length := by simpa using h
            have ht1 := r3 (by omega)
            rw [← ht] at ht1
            subst ht1
            refine wkdc0 _ ?_
            refine ⟨(), trivial, ?_⟩
            exact Cov.ofn (id) rfl (by simp [go_sem, List.take_of_length_le, ren, ren1, ren2, okr, okr1, okr2, ChkT, ChkN, BlkN, nf, grammarC, lrC]) (by simp [go_sem, List.take_of_length_le, ren, ren1, ren2, okr, okr1, okr2, ChkT, ChkN, BlkN, nf, grammarC, lrC])
        rintro ⟨⟩ _
        rw [← ht] at ct
        refine wkdsc0 _ ?_
        (refine Holds.any mixed ?_ ?_; (· kernel_rfl))
        refine wkdsc (And.intro @lrC.eq_1 (And.intro @grammarC.eq_1 (And.intro @hpl1 (And.intro @hpl2 (And.intro @hpl3 (And.intro @htop (@get_E _ _ _ _ htop))))))) _ ?_
        rcases todo_cases hfewt with htd | ⟨htd, t0, l0, _⟩ | ⟨htd, _⟩ | ⟨r, htd, hE, _⟩
        · have hv := hI.none hw1 htd
          subst hv
          rw [ht, htd] at ct
          rw [← ht] at ct
          first | refine GS.cc (ct) rfl rfl rfl rfl (by simp [go_sem, List.take_of_length_le, grammarC, lrC] <;> with_reducible rfl) rfl (by simp [go_sem, List.take_of_length_le, grammarC, lrC]) ?_ | refine Gd.cc (ct) rfl rfl rfl rfl (by simp [go_sem, List.take_of_length_le, grammarC, lrC] <;> with_reducible rfl) rfl (by simp [go_sem, List.take_of_length_le, grammarC, lrC]) ?_
          refine wkdc0 _ ?_
          refine Out.mk (xs := ?_) ?_ ?_ (by first | exact .inr rfl | exact .inl rfl)
          rotate_left
          · simp [go_sem, List.take_of_length_le] <;> with_reducible rfl
          exact Fz.tuL (.cons (Fz.nl _) (.cons (.v _) (.cons (.v _) .nil)))
        · obtain ⟨n, hn1, hI2⟩ := hI.shift hG hL hw1 (by
            by_cases hal : a < w.length
            · exact hal
            · have := r3 (by omega); omega) hw2 htd l0
          obtain ⟨row, i, c1, c2, c3, c4, c5⟩ := leadsX_cell hG hL hs (x := -1 - tokB w a) (by omega) (by omega)
          rw [hn1] at c3
          rw [ht, htd] at ct
          rw [← ht] at ct c5
          have hwi : wr64 (wr64 (g.2.1 - 1) - t) = (i : Int) := by rw [wr64_id (show -9223372036854775808 ≤ g.2.1 - 1 by omega) (by omega), wr64_id (by omega) (by omega)]; omega
          have hbb : (P.length + 1 + 1) * 8 ≤ 140737488355328 := by omega
          have stepa : wr64 ((a : Int) + 1) = ((a + 1 : Nat) : Int) := wr64_id (by omega) (by omega)
          first | refine GS.cc (ct) rfl rfl rfl rfl (by simp [go_sem, List.take_of_length_le, grammarC, lrC] <;> with_reducible rfl) rfl (by simp [go_sem, List.take_of_length_le, grammarC, lrC]) ?_ | refine Gd.cc (ct) rfl rfl rfl rfl (by simp [go_sem, List.take_of_length_le, grammarC, lrC] <;> with_reducible rfl) rfl (by simp [go_sem, List.take_of_length_le, grammarC, lrC]) ?_
          refine wkdsc0 _ ?_
          refine Holds.anx [18, 1019] [0, 1, 2, 3, 4, 5, 6, 7, 8, 9, 10, 11, 12, 13, 14, 15, 16, 17] (fun n => decide (4 ≤ n)) mixed ?_ ?_ ?_; (· kernel_rfl); (· kernel_rfl)
          repeat' first | (refine Holds.condT ?_ ?_; (· (simp [go_sem, List.take_of_length_le, lrC, grammarC, hpl1, hpl2, hpl3, htop, get_E htop, c1, c2, get_E c1, c3, c4, get_E c3, hwi, intsC, hbb] <;> with_reducible rfl))) | (refine Holds.condF ?_ ?_; (· (simp [go_sem, List.take_of_length_le, lrC, grammarC, hpl1, hpl2, hpl3, htop, get_E htop, c1, c2, get_E c1, c3, c4, get_E c3, hwi, intsC, hbb] <;> with_reducible rfl))) | refine Holds.seq ?_ | refine Holds.skip ?_ | refine Holds.exit ?_ | refine Holds.ret ?_ | refine thenA_normal ?_ | refine thenA_exit ?_ | refine thenA_ret ?_ | refine inB_normal ?_ | refine inB_ret ?_ | refine inB_here ?_ | (refine inB_past ?_ ?_; (· exact rfl)) | refine Holds.reg ?_ | refine Holds.block ?_ | refine GS.nil ?_ | refine Gd.nil ?_ | (refine GS.step (s' := ?_) ?_ ?_ ?_; rotate_left; (· exact rfl); (· (simp [go_sem, List.take_of_length_le, lrC, grammarC, hpl1, hpl2, hpl3, htop, get_E htop, c1, c2, get_E c1, c3, c4, get_E c3, hwi, intsC, hbb] <;> with_reducible rfl))) | (refine GS.skip ?_ ?_ ?_; (· exact rfl); (· exact rfl)) | (refine Gd.go (s' := ?_) ?_ ?_ ?_; rotate_left; (· exact rfl); (· (simp [go_sem, List.take_of_length_le, lrC, grammarC, hpl1, hpl2, hpl3, htop, get_E htop, c1, c2, get_E c1, c3, c4, get_E c3, hwi, intsC, hbb] <;> with_reducible rfl))) | (refine Gd.skip ?_ ?_ ?_; (· exact rfl); (· exact rfl)) | refine Gx.nil ?_ | (refine Gx.go (s' := ?_) rfl ?_ ?_ ?_; rotate_left; (· exact rfl); (· (simp [go_sem, List.take_of_length_le, lrC, grammarC, hpl1, hpl2, hpl3, htop, get_E htop, c1, c2, get_E c1, c3, c4, get_E c3, hwi, intsC, hbb] <;> with_reducible rfl))) | (refine Gx.skip rfl ?_ ?_ ?_; (· exact rfl); (· exact rfl)) | (refine Gx.skipO rfl ?_ ?_ ?_; (· exact rfl); (· exact rfl)) | (refine Gx.wo (s' := ?_) rfl ?_ ?_ ?_; rotate_left; (· exact rfl); (· (simp [go_sem, List.take_of_length_le, lrC, grammarC, hpl1, hpl2, hpl3, htop, get_E htop, c1, c2, get_E c1, c3, c4, get_E c3, hwi, intsC, hbb] <;> with_reducible rfl))) | (refine Gx.skipW rfl ?_ ?_ ?_; (· exact rfl); (· exact rfl)) | (refine Gx.skipH rfl ?_ ?_ ?_; (· exact rfl); (· exact rfl)) | (refine Gx.hid (r := ?_) rfl ?_ ?_ ?_ ?_; rotate_left; (· exact rfl); (· exact rfl); (· (simp [go_sem, List.take_of_length_le, lrC, grammarC, hpl1, hpl2, hpl3, htop, get_E htop, c1, c2, get_E c1, c3, c4, get_E c3, hwi, intsC, hbb] <;> with_reducible rfl))) | (refine Gx.wr (s' := ?_) rfl ?_ ?_ ?_ ?_; rotate_left; (· exact rfl); (· (simp [go_sem, List.take_of_length_le, lrC, grammarC, hpl1, hpl2, hpl3, htop, get_E htop, c1, c2, get_E c1, c3, c4, get_E c3, hwi, intsC, hbb] <;> with_reducible rfl)); (· (simp [go_sem, List.take_of_length_le, lrC, grammarC, hpl1, hpl2, hpl3, htop, get_E htop, c1, c2, get_E c1, c3, c4, get_E c3, hwi, intsC, hbb]))) | fail
          refine ⟨(n :: s :: P, a + 1, out), hI2, by dsimp only; omega, ?_⟩
          rw [stepa]
          exact Cov.ofn (nm [0, 1, 6, 3]) rfl (by simp [go_sem, List.take_of_length_le, ren, ren1, ren2, okr, okr1, okr2, ChkT, ChkN, BlkN, nf, grammarC, lrC, pI_cons n, ints_snoc]) (by simp [go_sem, List.take_of_length_le, ren, ren1, ren2, okr, okr1, okr2, ChkT, ChkN, BlkN, nf, grammarC, lrC, pI_cons n, ints_snoc])
        · have hv := hI.done hw1 htd
          subst hv
          rw [ht, htd] at ct
          rw [← ht] at ct
          first | refine GS.cc (ct) rfl rfl rfl rfl (by simp [go_sem, List.take_of_length_le, grammarC, lrC] <;> with_reducible rfl) rfl (by simp [go_sem, List.take_of_length_le, grammarC, lrC]) ?_ | refine Gd.cc (ct) rfl rfl rfl rfl (by simp [go_sem, List.take_of_length_le, grammarC, lrC] <;> with_reducible rfl) rfl (by simp [go_sem, List.take_of_length_le, grammarC, lrC]) ?_ | refine Gx.cc (ct) rfl rfl rfl rfl rfl (by simp [go_sem, List.take_of_length_le, grammarC, lrC] <;> with_reducible rfl) rfl (by simp [go_sem, List.take_of_length_le, grammarC, lrC]) ?_ | refine Gx.cch (ct) rfl rfl rfl rfl rfl (by simp [go_sem, List.take_of_length_le, grammarC, lrC] <;> with_reducible rfl) rfl (by simp [go_sem, List.take_of_length_le, grammarC, lrC]) ?_
          refine wkdac0 _ ?_
          refine Out.mk (xs := ?_) ?_ ?_ (by first | exact .inr rfl | exact .inl rfl)
          rotate_left
          · simp [go_sem, List.take_of_length_le] <;> with_reducible rfl
          exact Fz.tuL (.cons (Fz.all rfl rfl (by simp) rfl (ints_cl _)) (.cons (.v _) (.cons (.v _) .nil)))
        · have hm : r ∈ endsX g L s := by
            have : r ∈ endsAtX g L s (tokB w a) := by rw [hE]; exact .head _
            exact (List.mem_filter.1 this).1
          obtain ⟨rn, rfl⟩ : ∃ rn : Nat, r = (rn : Int) := by
            obtain ⟨n, e, _⟩ := endsX_rng hL hs hm
            exact ⟨n, e⟩
          have hi1 : ints [(rn : Int)] = [[.v (.int .i64 rn)]] := rfl
          have hrl := (hI.path.reduce hG hL hm).1
          have hrr := ruleN_at hrl
          rw [ht, htd] at ct
          rw [← ht] at ct
          have hr2 : ((rn : Int) == -2) = false := by rw [beq_eq_false_iff_ne]; omega
          have hr1 : ((rn : Int) == -1) = false := by rw [beq_eq_false_iff_ne]; omega
          first | refine GS.cc (ct) rfl rfl rfl rfl (by simp [go_sem, List.take_of_length_le, grammarC, lrC] <;> with_reducible rfl) rfl (by simp [go_sem, List.take_of_length_le, grammarC, lrC]) ?_ | refine Gd.cc (ct) rfl rfl rfl rfl (by simp [go_sem, List.take_of_length_le, grammarC, lrC] <;> with_reducible rfl) rfl (by simp [go_sem, List.take_of_length_le, grammarC, lrC]) ?_ | refine Gx.cc (ct) rfl rfl rfl rfl rfl (by simp [go_sem, List.take_of_length_le, grammarC, lrC] <;> with_reducible rfl) rfl (by simp [go_sem, List.take_of_length_le, grammarC, lrC]) ?_ | refine Gx.cch (ct) rfl rfl rfl rfl rfl (by simp [go_sem, List.take_of_length_le, grammarC, lrC] <;> with_reducible rfl) rfl (by simp [go_sem, List.take_of_length_le, grammarC, lrC]) ?_
          by_cases ho : out.length = 60
          · have hv := hI.full hw1 htd ho
            subst hv
            have hoi : ((out.length : Int) == 60) = true := by rw [ho]; rfl
            refine wkdac (And.intro @hi1 (And.intro @hr1 (And.intro @hr2 (And.intro @hoi (@ho))))) _ ?_
            refine Out.mk (xs := ?_) ?_ ?_ (by first | exact .inr rfl | exact .inl rfl)
            rotate_left
            · simp [go_sem, List.take_of_length_le] <;> with_reducible rfl
            exact Fz.tuL (.cons (Fz.nl _) (.cons (.v _) (.cons (.v _) .nil)))
          · obtain ⟨_, b, n, Q, hd, hq, hI3⟩ := hI.red hG hL hw1 htd hm ho
            have hoi : ((out.length : Int) == 60) = false := by rw [beq_eq_false_iff_ne]; omega
            have hbl := hI3.path.lt hL b (.tail _ (.head _))
            have hR4 := hG.r4 _ (List.mem_of_getElem? hrr)
            have hl0 := hG.l0 _ (List.mem_of_getElem? hrr)
            have hl1 := hG.l1 _ (List.mem_of_getElem? hrr)
            obtain ⟨row, i, c1, c2, c3, c4, c5⟩ := leadsX_cell hG hL hbl (x := (ruleN g rn).1) (by omega) hl1
            rw [hq] at c3
            have hdl : (s :: P).length - (ruleN g rn).2.length = Q.length + 1 := by
              have := congrArg List.length hd
              rwa [List.length_drop, List.length_cons (a := b)] at this
            rw [hpl] at hdl
            have hpd : (pI (s :: P)).take (Q.length + 1) = pI (b :: Q) := by
              rw [← hd, ← pI_drop _ _ (by rw [hpl]; omega), hpl, hdl]
            have htop2 := pI_top b Q
            generalize ruleN g rn = R at hrr hR4 hl0 hl1 c5 hdl
            obtain ⟨m, hm0⟩ : ∃ m, m = Q.length + 1 := ⟨_, rfl⟩
            have hsb : wr64 ((P.length : Int) + 1 - (R.2.length : Int)) = (m : Int) := by rw [wr64_id (by omega) (by omega)]; omega
            have hql : m ≤ P.length + 1 := by omega
            have hqp : wr64 ((m : Int) - 1) = (Q.length : Int) := by rw [wr64_id (by omega) (by omega)]; omega
            have hqi : Q.length < m := by omega
            have hb1 : (m + 1) * 8 ≤ 140737488355328 := by omega
            have hb2 : (out.length + 1) * 8 ≤ 140737488355328 := by omega
            have hwi : wr64 (g.2.1 + R.1) = (i : Int) := by rw [wr64_id (by omega) (by omega)]; omega
            rw [← hm0] at hpd
            have hm1 : Q.length + 1 = m := hm0.symm
            have hpt : List.take m (ints (pI (s :: P))) = ints (pI (b :: Q)) := by rw [← hpd, ints, ints, List.map_take]
            have cow := l1OwnF (pI (b :: Q)) (by rw [pI_len, List.length_cons]; omega)
            rw [show (pI (b :: Q)).length = m by rw [pI_len, List.length_cons]; exact hm1] at cow
            refine wkdasc (And.intro @hi1 (And.intro @hr1 (And.intro @hr2 (And.intro @hoi (@ho))))) _ ?_
            refine Holds.anx [7, 1008] [0, 1, 2, 3, 4, 5, 6] (fun n => decide (4 ≤ n)) mixed ?_ ?_ ?_; (· kernel_rfl); (· kernel_rfl)
            refine wkdasc (And.intro @lrC.eq_1 (And.intro @grammarC.eq_1 (And.intro @hrl (And.intro @hrr (And.intro (@get_E _ _ _ _ hrr) (And.intro @ruleC.eq_1 (And.intro @hi1 (And.intro @hsb (@hql))))))))) _ ?_
            refine Holds.short 2 m (s' := ?_) rfl ?_ ?_
            rotate_left
            · simp [st, hpt] <;> with_reducible rfl
            refine Holds.frz [2] [(13, .im 1 (ints (pI (b :: Q))))] (.cons rfl (Fz.all rfl rfl (by simp [hm1]) (by simp [ints]) (ints_cl _)) .nil) ?_
            simp only [frz, List.filter, List.contains, List.elem, List.cons_append, List.nil_append, Nat.reduceBEq, Bool.not_false, Bool.not_true]
            refine Holds.anx [1, 1020] [0, 2, 3, 4, 5, 6, 7, 8, 9, 10, 11, 12, 13, 14, 15, 16, 17, 18, 2019] (fun n => decide (5 ≤ n)) mixed ?_ ?_ ?_; (· kernel_rfl); (· kernel_rfl)
            refine wkdasc (@hm1) _ ?_
            first | refine GS.fnn [] (cow) rfl rfl rfl rfl (by simp [go_sem, List.take_of_length_le, ren, ren1, ren2, okr, okr1, okr2, ChkN, BlkN, List.range_succ, nf] <;> with_reducible rfl) (by simp [go_sem, List.take_of_length_le, ren, ren1, ren2, okr, okr1, okr2, ChkN, BlkN, List.range_succ, nf]) (by simp [go_sem, List.take_of_length_le, ren, ren1, ren2, okr, okr1, okr2, ChkN, BlkN, List.range_succ, nf]) (by simp [List.range_succ, lb]) (ChkN.toB (by simp [go_sem, List.take_of_length_le, ren, ren1, ren2, okr, okr1, okr2, ChkN, BlkN, List.range_succ, nf])) (by decide) (by simp) rfl (.nfr (by simp) .nil) (by simp [go_sem, List.take_of_length_le, ren, ren1, ren2, okr, okr1, okr2, ChkN, BlkN, List.range_succ, nf] <;> with_reducible rfl) ?_ | refine Gx.fnn [] (cow) rfl rfl rfl rfl rfl (by simp [go_sem, List.take_of_length_le, ren, ren1, ren2, okr, okr1, okr2, ChkN, BlkN, List.range_succ, nf] <;> with_reducible rfl) (by simp [go_sem, List.take_of_length_le, ren, ren1, ren2, okr, okr1, okr2, ChkN, BlkN, List.range_succ, nf]) (by simp [go_sem, List.take_of_length_le, ren, ren1, ren2, okr, okr1, okr2, ChkN, BlkN, List.range_succ, nf]) (by simp [List.range_succ, lb]) (ChkN.toB (by simp [go_sem, List.take_of_length_le, ren, ren1, ren2, okr, okr1, okr2, ChkN, BlkN, List.range_succ, nf])) (by decide) (by simp) rfl (.nfr (by simp) .nil) (by simp [go_sem, List.take_of_length_le, ren, ren1, ren2, okr, okr1, okr2, ChkN, BlkN, List.range_succ, nf]) (by simp [go_sem, List.take_of_length_le, ren, ren1, ren2, okr, okr1, okr2, ChkN, BlkN, List.range_succ, nf] <;> with_reducible rfl) ?_ | refine Gx.fnno [] (cow) rfl rfl rfl rfl rfl (by simp [go_sem, List.take_of_length_le, ren, ren1, ren2, okr, okr1, okr2, ChkN, BlkN, List.range_succ, nf] <;> with_reducible rfl) (by simp [go_sem, List.take_of_length_le, ren, ren1, ren2, okr, okr1, okr2, ChkN, BlkN, List.range_succ, nf]) (by simp [go_sem, List.take_of_length_le, ren, ren1, ren2, okr, okr1, okr2, ChkN, BlkN, List.range_succ, nf]) (by simp [List.range_succ, lb]) (ChkN.toB (by simp [go_sem, List.take_of_length_le, ren, ren1, ren2, okr, okr1, okr2, ChkN, BlkN, List.range_succ, nf])) (by decide) (by simp) rfl (.nfr (by simp) .nil) (by simp [go_sem, List.take_of_length_le, ren, ren1, ren2, okr, okr1, okr2, ChkN, BlkN, List.range_succ, nf] <;> with_reducible rfl) ?_
            repeat' first | (refine Holds.condT ?_ ?_; (· (simp [go_sem, List.take_of_length_le, lrC, grammarC, htop2, get_E htop2, hqp, hqi, c1, c2, get_E c1, c3, c4, get_E c3, hwi, intsC, hm1] <;> with_reducible rfl))) | (refine Holds.condF ?_ ?_; (· (simp [go_sem, List.take_of_length_le, lrC, grammarC, htop2, get_E htop2, hqp, hqi, c1, c2, get_E c1, c3, c4, get_E c3, hwi, intsC, hm1] <;> with_reducible rfl))) | refine Holds.seq ?_ | refine Holds.skip ?_ | refine Holds.exit ?_ | refine Holds.ret ?_ | refine thenA_normal ?_ | refine thenA_exit ?_ | refine thenA_ret ?_ | refine inB_normal ?_ | refine inB_ret ?_ | refine inB_here ?_ | (refine inB_past ?_ ?_; (· exact rfl)) | refine Holds.reg ?_ | refine Holds.block ?_ | refine GS.nil ?_ | refine Gd.nil ?_ | (refine GS.step (s' := ?_) ?_ ?_ ?_; rotate_left; (· exact rfl); (· (simp [go_sem, List.take_of_length_le, lrC, grammarC, htop2, get_E htop2, hqp, hqi, c1, c2, get_E c1, c3, c4, get_E c3, hwi, intsC, hm1] <;> with_reducible rfl))) | (refine GS.skip ?_ ?_ ?_; (· exact rfl); (· exact rfl)) | (refine Gd.go (s' := ?_) ?_ ?_ ?_; rotate_left; (· exact rfl); (· (simp [go_sem, List.take_of_length_le, lrC, grammarC, htop2, get_E htop2, hqp, hqi, c1, c2, get_E c1, c3, c4, get_E c3, hwi, intsC, hm1] <;> with_reducible rfl))) | (refine Gd.skip ?_ ?_ ?_; (· exact rfl); (· exact rfl)) | refine Gx.nil ?_ | (refine Gx.go (s' := ?_) rfl ?_ ?_ ?_; rotate_left; (· exact rfl); (· (simp [go_sem, List.take_of_length_le, lrC, grammarC, htop2, get_E htop2, hqp, hqi, c1, c2, get_E c1, c3, c4, get_E c3, hwi, intsC, hm1] <;> with_reducible rfl))) | (refine Gx.skip rfl ?_ ?_ ?_; (· exact rfl); (· exact rfl)) | (refine Gx.skipO rfl ?_ ?_ ?_; (· exact rfl); (· exact rfl)) | (refine Gx.wo (s' := ?_) rfl ?_ ?_ ?_; rotate_left; (· exact rfl); (· (simp [go_sem, List.take_of_length_le, lrC, grammarC, htop2, get_E htop2, hqp, hqi, c1, c2, get_E c1, c3, c4, get_E c3, hwi, intsC, hm1] <;> with_reducible rfl))) | (refine Gx.skipW rfl ?_ ?_ ?_; (· exact rfl); (· exact rfl)) | (refine Gx.skipH rfl ?_ ?_ ?_; (· exact rfl); (· exact rfl)) | (refine Gx.hid (r := ?_) rfl ?_ ?_ ?_ ?_; rotate_left; (· exact rfl); (· exact rfl); (· (simp [go_sem, List.take_of_length_le, lrC, grammarC, htop2, get_E htop2, hqp, hqi, c1, c2, get_E c1, c3, c4, get_E c3, hwi, intsC, hm1] <;> with_reducible rfl))) | (refine Gx.wr (s' := ?_) rfl ?_ ?_ ?_ ?_; rotate_left; (· exact rfl); (· (simp [go_sem, List.take_of_length_le, lrC, grammarC, htop2, get_E htop2, hqp, hqi, c1, c2, get_E c1, c3, c4, get_E c3, hwi, intsC, hm1] <;> with_reducible rfl)); (· (simp [go_sem, List.take_of_length_le, lrC, grammarC, htop2, get_E htop2, hqp, hqi, c1, c2, get_E c1, c3, c4, get_E c3, hwi, intsC, hm1]))) | fail
            refine Gx.bs (sz := 1) (e := 3) (rows := ints [(n : Int)]) [(144, .v (.int .i64 n))] rfl rfl rfl rfl rfl (by simp [go_sem, List.take_of_length_le, Op.operands, cl, cl1, ints]) (by simp [go_sem, List.take_of_length_le, Op.operands, cl, cl1, ints]) (by simp [go_sem, List.take_of_length_le, Op.operands, cl, cl1, ints]) ?_
            refine wkdasc (And.intro @hb1 (And.intro @ints_all (And.intro @hm1 (And.intro @hi1 (@hb2))))) _ ?_
            refine ⟨(n :: b :: Q, a, out ++ [(rn : Int)]), hI3, by dsimp only; simp only [List.length_append, List.length_singleton]; omega, ?_⟩
            exact Cov.ofn (nm [0, 1, 7, 10]) rfl (by simp [go_sem, List.take_of_length_le, ren, ren1, ren2, okr, okr1, okr2, ChkT, ChkN, BlkN, nf, grammarC, lrC, pI_cons n, ints_snoc, hm1, show ints [(n : Int)] = [[.v (.int .i64 n)]] from rfl]) (by simp [go_sem, List.take_of_length_le, ren, ren1, ren2, okr, okr1, okr2, ChkT, ChkN, BlkN, nf, grammarC, lrC, pI_cons n, ints_snoc, hm1, show ints [(n : Int)] = [[.v (.int .i64 n)]] from rfl])
theorem implPB (g : GrammarT) (w : List Int) (hx : g.2.2.length < 4611686018427387904) (hs : ∀ e ∈ g.2.2, e.2.length < 4611686018427387904) (hw : w.length < 4611686018427387904) : Fn Tryz.prog 12 0 [.ag (grammarC g), .im 1 (ints w)] [] (.tu [.own 0 1 0 (behindV g w).1.length, .v (.int .i64 (behindV g w).2.1), .v (.bool (behindV g w).2.2)]) 1 [(0, ⟨3, 1, ints (behindV g w).1⟩)] := by
  have cg := implGoodG g hx hs
  unfold behindV
  refine Fn.mk (rs := [.tmp 4, .tmp 5, .tmp 6]) (nt := 40) Tryz.func12 (by kernel_rfl) rfl rfl rfl (by simp) ?_
  simp only [sl, grammarC]
  refine wkc (@grammarC.eq_1) _ ?_
  cases hg : goodG g with
  | false =>
    rw [hg] at cg
    simp only [Bool.false_and, Bool.false_eq_true, if_false]
    refine GS.cc (cg) rfl rfl rfl rfl (by simp [go_sem, List.take_of_length_le, grammarC] <;> with_reducible rfl) rfl (by simp [go_sem, List.take_of_length_le, grammarC]) ?_
    refine wkc0 _ ?_
    refine OutF.cov (Cov.niw (t := 4) 3 1 rfl) ?_
    refine OutF.mkn (xs := ?_) (nm [1]) ?_ ?_ ?_ ?_ ?_ (by first | exact .inr rfl | exact .inl rfl)
    rotate_left
    · simp [go_sem, List.take_of_length_le, niw, ints] <;> with_reducible rfl
    · simp [go_sem, List.take_of_length_le, ren, ren1, ren2, okr, okr1, okr2, ChkN, BlkN, List.range_succ, nf, niw, ints]
    · simp [go_sem, List.take_of_length_le, ren, ren1, ren2, okr, okr1, okr2, ChkN, BlkN, List.range_succ, nf, niw, ints]
    · simp [go_sem, List.take_of_length_le, ren, ren1, ren2, okr, okr1, okr2, ChkN, BlkN, List.range_succ, nf, niw, ints]
    · rfl
  | true =>
    rw [hg] at cg
    have hG := goodG_ok hg
    have hT0 := hG.t0
    have hT1 := hG.t1
    have cw := isWord g.2.1 w (by omega) (by omega) hw
    have cs := statesG g hG
    rw [Bool.true_and]
    refine GS.cc (cg) rfl rfl rfl rfl (by simp [go_sem, List.take_of_length_le, grammarC] <;> with_reducible rfl) rfl (by simp [go_sem, List.take_of_length_le, grammarC]) ?_
    cases hwv : wordV g.2.1 w with
    | false =>
      rw [hwv] at cw
      simp only [Bool.and_false, Bool.false_eq_true, if_false]
      refine wkc (@grammarC.eq_1) _ ?_
      refine GS.cc (cw) rfl rfl rfl rfl (by simp [go_sem, List.take_of_length_le, grammarC] <;> with_reducible rfl) rfl (by simp [go_sem, List.take_of_length_le, grammarC]) ?_
      refine wkc0 _ ?_
      refine OutF.cov (Cov.niw (t := 4) 3 1 rfl) ?_
      refine OutF.mkn (xs := ?_) (nm [1]) ?_ ?_ ?_ ?_ ?_ (by first | exact .inr rfl | exact .inl rfl)
      rotate_left
      · simp [go_sem, List.take_of_length_le, niw, ints] <;> with_reducible rfl
      · simp [go_sem, List.take_of_length_le, ren, ren1, ren2, okr, okr1, okr2, ChkN, BlkN, List.range_succ, nf, niw, ints]
      · simp [go_sem, List.take_of_length_le, ren, ren1, ren2, okr, okr1, okr2, ChkN, BlkN, List.range_succ, nf, niw, ints]
      · simp [go_sem, List.take_of_length_le, ren, ren1, ren2, okr, okr1, okr2, ChkN, BlkN, List.range_succ, nf, niw, ints]
      · rfl
    | true =>
      rw [hwv] at cw
      obtain ⟨hw1, hw2⟩ := wordV_okB hwv
      refine wkc (@grammarC.eq_1) _ ?_
      refine GS.cc (cw) rfl rfl rfl rfl (by simp [go_sem, List.take_of_length_le, grammarC] <;> with_reducible rfl) rfl (by simp [go_sem, List.take_of_length_le, grammarC]) ?_
      rw [Bool.and_true]
      cases hv : (lrV g).2 with
      | false =>
        rw [hv] at cs
        simp only [Bool.false_and, Bool.false_eq_true, if_false]
        generalize (lrV g).1 = L at cs
        refine wkc (@grammarC.eq_1) _ ?_
        refine GS.fnn [] (cs) rfl rfl rfl rfl (by simp [go_sem, List.take_of_length_le, ren, ren1, ren2, okr, okr1, okr2, ChkN, BlkN, List.range_succ, nf, grammarC] <;> with_reducible rfl) (by simp [go_sem, List.take_of_length_le, ren, ren1, ren2, okr, okr1, okr2, ChkN, BlkN, List.range_succ, nf, grammarC]) (by simp [go_sem, List.take_of_length_le, ren, ren1, ren2, okr, okr1, okr2, ChkN, BlkN, List.range_succ, nf, grammarC]) (by simp [List.range_succ, lb]) (ChkN.toB (by simp [go_sem, List.take_of_length_le, ren, ren1, ren2, okr, okr1, okr2, ChkN, BlkN, List.range_succ, nf, grammarC])) (by decide) (by simp) rfl (.nfr (by simp) (.nfr (by simp) .nil)) (by simp [go_sem, List.take_of_length_le, ren, ren1, ren2, okr, okr1, okr2, ChkN, BlkN, List.range_succ, nf, grammarC] <;> with_reducible rfl) ?_
        refine wkc0 _ ?_
        refine OutF.cov (Cov.niw (t := 4) 3 1 rfl) ?_
        refine OutF.mkn (xs := ?_) (nm [4]) ?_ ?_ ?_ ?_ ?_ (by first | exact .inr rfl | exact .inl rfl)
        rotate_left
        · simp [go_sem, List.take_of_length_le, niw, ints] <;> with_reducible rfl
        · simp [go_sem, List.take_of_length_le, ren, ren1, ren2, okr, okr1, okr2, ChkN, BlkN, List.range_succ, nf, niw, ints]
        · simp [go_sem, List.take_of_length_le, ren, ren1, ren2, okr, okr1, okr2, ChkN, BlkN, List.range_succ, nf, niw, ints]
        · simp [go_sem, List.take_of_length_le, ren, ren1, ren2, okr, okr1, okr2, ChkN, BlkN, List.range_succ, nf, niw, ints]
        · rfl
      | true =>
        rw [hv] at cs
        obtain ⟨h1, h2, h3⟩ := lrV_ok hG hv
        have hL : LrG g (lrV g).1 := ⟨h1, h2, h3⟩
        rw [Bool.true_and]
        clear h1 h2 h3 hv
        generalize (lrV g).1 = L at cs hL ⊢
        have cl := lrClashesG g hG L hL
        refine wkc (@grammarC.eq_1) _ ?_
        refine GS.fnn [] (cs) rfl rfl rfl rfl (by simp [go_sem, List.take_of_length_le, ren, ren1, ren2, okr, okr1, okr2, ChkN, BlkN, List.range_succ, nf, grammarC] <;> with_reducible rfl) (by simp [go_sem, List.take_of_length_le, ren, ren1, ren2, okr, okr1, okr2, ChkN, BlkN, List.range_succ, nf, grammarC]) (by simp [go_sem, List.take_of_length_le, ren, ren1, ren2, okr, okr1, okr2, ChkN, BlkN, List.range_succ, nf, grammarC]) (by simp [List.range_succ, lb]) (ChkN.toB (by simp [go_sem, List.take_of_length_le, ren, ren1, ren2, okr, okr1, okr2, ChkN, BlkN, List.range_succ, nf, grammarC])) (by decide) (by simp) rfl (.nfr (by simp) (.nfr (by simp) .nil)) (by simp [go_sem, List.take_of_length_le, ren, ren1, ren2, okr, okr1, okr2, ChkN, BlkN, List.range_succ, nf, grammarC] <;> with_reducible rfl) ?_
        repeat' first | (refine Holds.condT ?_ ?_; (· (simp [go_sem, List.take_of_length_le, grammarC] <;> with_reducible rfl))) | (refine Holds.condF ?_ ?_; (· (simp [go_sem, List.take_of_length_le, grammarC] <;> with_reducible rfl))) | refine Holds.seq ?_ | refine Holds.skip ?_ | refine Holds.exit ?_ | refine Holds.ret ?_ | refine thenA_normal ?_ | refine thenA_exit ?_ | refine thenA_ret ?_ | refine inB_normal ?_ | refine inB_ret ?_ | refine inB_here ?_ | (refine inB_past ?_ ?_; (· exact rfl)) | refine Holds.reg ?_ | refine Holds.block ?_ | refine GS.nil ?_ | (refine GS.stepD 24 (s' := ?_) rfl ?_ ?_ ?_; rotate_left; (· exact rfl); (· (simp [go_sem, List.take_of_length_le, grammarC] <;> with_reducible rfl))) | (refine GS.skip ?_ ?_ ?_; (· exact rfl); (· exact rfl)) | fail
        refine GS.frz [1, 2, 3] [(7, .pi (lrC L))] (.cons rfl (Fz.pbM rfl rfl rfl (.cons (fz_itemssD _ rfl rfl) (.cons (fz_intssO _ rfl rfl) .nil))) .nil) ?_
        refine wkc (And.intro @frz.eq_1 (And.intro @grammarC.eq_1 (@lrC.eq_1))) _ ?_
        refine GS.fnn [] (cl) rfl rfl rfl rfl (by simp [go_sem, List.take_of_length_le, ren, ren1, ren2, okr, okr1, okr2, ChkN, BlkN, List.range_succ, nf, grammarC, lrC] <;> with_reducible rfl) (by simp [go_sem, List.take_of_length_le, ren, ren1, ren2, okr, okr1, okr2, ChkN, BlkN, List.range_succ, nf, grammarC, lrC]) (by simp [go_sem, List.take_of_length_le, ren, ren1, ren2, okr, okr1, okr2, ChkN, BlkN, List.range_succ, nf, grammarC, lrC]) (by simp [List.range_succ, lb]) (ChkN.toB (by simp [go_sem, List.take_of_length_le, ren, ren1, ren2, okr, okr1, okr2, ChkN, BlkN, List.range_succ, nf, grammarC, lrC])) (by decide) (by simp) rfl (.nfr (by simp) .nil) (by simp [go_sem, List.take_of_length_le, ren, ren1, ren2, okr, okr1, okr2, ChkN, BlkN, List.range_succ, nf, grammarC, lrC] <;> with_reducible rfl) ?_
        by_cases hC : (lrClash g L L.1.length).length = 0
        · have hCi : (0 : Int) < ((lrClash g L L.1.length).length : Int) ↔ False := by simp [hC]
          have hCl := List.length_eq_zero_iff.1 hC
          have cp := parseBehindG g hG L hL hCl w (by omega) hw2
          rw [hCl]
          simp only [List.length_nil, decide_true, if_true]
          refine wkc (And.intro @grammarC.eq_1 (@lrC.eq_1)) _ ?_
          refine GS.fnn [] (cp) rfl rfl rfl rfl (by simp [go_sem, List.take_of_length_le, ren, ren1, ren2, okr, okr1, okr2, ChkN, BlkN, List.range_succ, nf, grammarC, lrC] <;> with_reducible rfl) (by simp [go_sem, List.take_of_length_le, ren, ren1, ren2, okr, okr1, okr2, ChkN, BlkN, List.range_succ, nf, grammarC, lrC]) (by simp [go_sem, List.take_of_length_le, ren, ren1, ren2, okr, okr1, okr2, ChkN, BlkN, List.range_succ, nf, grammarC, lrC]) (by simp [List.range_succ, lb]) (ChkN.toB (by simp [go_sem, List.take_of_length_le, ren, ren1, ren2, okr, okr1, okr2, ChkN, BlkN, List.range_succ, nf, grammarC, lrC])) (by decide) (by simp) rfl (.nfr (by simp) .nil) (by simp [go_sem, List.take_of_length_le, ren, ren1, ren2, okr, okr1, okr2, ChkN, BlkN, List.range_succ, nf, grammarC, lrC] <;> with_reducible rfl) ?_
          refine wkc0 _ ?_
          refine OutF.mkn (xs := ?_) (nm [5]) ?_ ?_ ?_ ?_ ?_ (by first | exact .inr rfl | exact .inl rfl)
          rotate_left
          · simp [go_sem, List.take_of_length_le] <;> with_reducible rfl
          · simp [go_sem, List.take_of_length_le, ren, ren1, ren2, okr, okr1, okr2, ChkN, BlkN, List.range_succ, nf]
          · simp [go_sem, List.take_of_length_le, ren, ren1, ren2, okr, okr1, okr2, ChkN, BlkN, List.range_succ, nf]
          · simp [go_sem, List.take_of_length_le, ren, ren1, ren2, okr, okr1, okr2, ChkN, BlkN, List.range_succ, nf]
          · rfl
        · have hCi : (0 : Int) < ((lrClash g L L.1.length).length : Int) := by omega
          have hCn : 0 < (lrClash g L L.1.length).length := by omega
          rw [decide_eq_false hC]
          simp only [Bool.false_eq_true, if_false]
          refine wkc (And.intro @hCi (And.intro @hCn (@hC))) _ ?_
          refine OutF.cov (Cov.niw (t := 4) 3 1 rfl) ?_
          refine OutF.mkn (xs := ?_) (nm [5]) ?_ ?_ ?_ ?_ ?_ (by first | exact .inr rfl | exact .inl rfl)
          rotate_left
          · simp [go_sem, List.take_of_length_le, niw, ints] <;> with_reducible rfl
          · simp [go_sem, List.take_of_length_le, ren, ren1, ren2, okr, okr1, okr2, ChkN, BlkN, List.range_succ, nf, niw, ints]
          · simp [go_sem, List.take_of_length_le, ren, ren1, ren2, okr, okr1, okr2, ChkN, BlkN, List.range_succ, nf, niw, ints]
          · simp [go_sem, List.take_of_length_le, ren, ren1, ren2, okr, okr1, okr2, ChkN, BlkN, List.range_succ, nf, niw, ints]
          · rfl
theorem pbRun_len (g : GrammarT) (L : LrT) (w : List Int) : ∀ (n : Nat) (P : List Nat) (a : Nat) (out : List Int), out.length ≤ 60 → (pbRun g L w n P a out).1.length ≤ 60
  | 0, _, _, _, _ => by simp [pbRun]
  | n + 1, P, a, out, h => by
    rw [pbRun]
    split
    · simp
    · split
      · exact h
      · split
        · exact pbRun_len g L w n _ _ _ h
        · split
          · simp
          · exact pbRun_len g L w n _ _ _ (by rw [List.length_append, List.length_singleton]; omega)
theorem behindV_len (g : GrammarT) (w : List Int) : (behindV g w).1.length ≤ 60 := by
  unfold behindV
  split
  · exact pbRun_len g _ w 200 _ _ _ (by simp)
  · simp
end Go.Proofs.YtkolhcoeifghpaaGreat.En
end
section
namespace Go.Proofs.YtkolhcoeifghpaaGreat.En
open Go.RowKit
set_option linter.unusedSimpArgs false
set_option linter.unusedVariables false
set_option maxHeartbeats 4000000
end Go.Proofs.YtkolhcoeifghpaaGreat.En
end
section
namespace Go.Proofs.YtkolhcoeifghpaaGreat.En
open Go.RowKit
set_option linter.unusedSimpArgs false
set_option linter.unusedVariables false
set_option maxHeartbeats 8000000
end Go.Proofs.YtkolhcoeifghpaaGreat.En
end
section
namespace Go.Proofs.YtkolhcoeifghpaaGreat.En
open Go.RowKit
set_option linter.unusedSimpArgs false
set_option linter.unusedVariables false
set_option maxHeartbeats 8000000
theorem lawPB (g : GrammarT) (w : List Int) (hxg : g.2.2.length < 8796093022208) (hsg : ∀ e ∈ g.2.2, e.2.length < 35184372088832) (hcw : w.length < 35184372088832) : Pure Tryz.prog 3 [.ag (grammarC g), .im 1 (ints w)] (.v (.bool true)) := by
  refine Pure.mk (rs := [.tmp 4]) (nt := 138) Tryz.func3 (by kernel_rfl) rfl rfl rfl (by simp) ?_
  simp only [sl, grammarC]
  have hsg' : ∀ e ∈ g.2.2, e.2.length < 4611686018427387904 := fun e he => by have := hsg e he; omega
  have ctg := toGrammar g hxg hsg
  have ceg := eqGrammar g g hxg hsg
  have cog := toGrammarO g hxg hsg
  have ctw := toIntS w hcw
  have cew := eqIntS w w (by omega)
  have cow := toIntSO w hcw
  have hig := szGrammarF_in (n := 1048576) (x := g) (by omega)
  have czg := szGrammar g 1048576 (by omega) (by omega) hxg hsg
  have p1 := specPB g w (by omega) hsg' (by omega)
  have p2 := implPB g w (by omega) hsg' (by omega)
  try simp only [decide_true] at ceg cew
  have hv := behindV_len g w
  generalize behindV g w = v at p1 p2 hv
  have p3 := p2.pure (r' := .tu [.im 1 (ints v.1), .v (.int .i64 v.2.1), .v (.bool v.2.2)]) (Fz.tuL (.cons (Fz.all rfl rfl (by simp) rfl (ints_cl _)) (.cons (.v _) (.cons (.v _) .nil))))
  refine wkd0 _ ?_
  refine Holds.cond rfl (fun h => ?_) (fun h => ?_)
  · refine wkd0 _ ?_
    refine Out.mk (xs := ?_) ?_ ?_ (by first | exact .inr rfl | exact .inl rfl)
    rotate_left
    · simp [go_sem, List.take_of_length_le] <;> with_reducible rfl
    exact .v _
  have hqw : w.length ≤ 1048576 := by simp at h; omega
  refine wkd0 _ ?_
  first | refine GS.cc (czg) rfl rfl rfl rfl (by simp [go_sem, List.take_of_length_le, grammarC] <;> with_reducible rfl) rfl (by simp [go_sem, List.take_of_length_le, grammarC]) ?_ | refine Gd.cc (czg) rfl rfl rfl rfl (by simp [go_sem, List.take_of_length_le, grammarC] <;> with_reducible rfl) rfl (by simp [go_sem, List.take_of_length_le, grammarC]) ?_
  refine wkd0 _ ?_
  refine Holds.cond rfl (fun h => ?_) (fun h => ?_)
  · refine wkd0 _ ?_
    refine Out.mk (xs := ?_) ?_ ?_ (by first | exact .inr rfl | exact .inl rfl)
    rotate_left
    · simp [go_sem, List.take_of_length_le] <;> with_reducible rfl
    exact .v _
  have hqg := szGrammar_wt (show 0 ≤ szGrammarF (1048576) g by simp at h; omega)
  refine wkd (@grammarC.eq_1) _ ?_
  first | refine GS.cc (ctg) rfl rfl rfl rfl (by simp [go_sem, List.take_of_length_le, grammarC] <;> with_reducible rfl) rfl (by simp [go_sem, List.take_of_length_le, grammarC]) ?_ | refine Gd.cc (ctg) rfl rfl rfl rfl (by simp [go_sem, List.take_of_length_le, grammarC] <;> with_reducible rfl) rfl (by simp [go_sem, List.take_of_length_le, grammarC]) ?_
  refine wkd (@grammarC.eq_1) _ ?_
  first | refine GS.cc (ctw) rfl rfl rfl rfl (by simp [go_sem, List.take_of_length_le, grammarC] <;> with_reducible rfl) rfl (by simp [go_sem, List.take_of_length_le, grammarC]) ?_ | refine Gd.cc (ctw) rfl rfl rfl rfl (by simp [go_sem, List.take_of_length_le, grammarC] <;> with_reducible rfl) rfl (by simp [go_sem, List.take_of_length_le, grammarC]) ?_
  refine wkd (@grammarC.eq_1) _ ?_
  first | refine GS.cc (p1) rfl rfl rfl rfl (by simp [go_sem, List.take_of_length_le, grammarC] <;> with_reducible rfl) rfl (by simp [go_sem, List.take_of_length_le, grammarC]) ?_ | refine Gd.cc (p1) rfl rfl rfl rfl (by simp [go_sem, List.take_of_length_le, grammarC] <;> with_reducible rfl) rfl (by simp [go_sem, List.take_of_length_le, grammarC]) ?_
  refine wkd (@grammarC.eq_1) _ ?_
  refine GS.fnn [] (cog) rfl rfl rfl rfl (by simp [go_sem, List.take_of_length_le, ren, ren1, ren2, okr, okr1, okr2, ChkN, BlkN, List.range_succ, nf, grammarC] <;> with_reducible rfl) (by simp [go_sem, List.take_of_length_le, ren, ren1, ren2, okr, okr1, okr2, ChkN, BlkN, List.range_succ, nf, grammarC]) (by simp [go_sem, List.take_of_length_le, ren, ren1, ren2, okr, okr1, okr2, ChkN, BlkN, List.range_succ, nf, grammarC]) (by simp [List.range_succ, lb]) (ChkN.toB (by simp [go_sem, List.take_of_length_le, ren, ren1, ren2, okr, okr1, okr2, ChkN, BlkN, List.range_succ, nf, grammarC])) (by decide) (by simp) rfl (.nfr (by simp) .nil) (by simp [go_sem, List.take_of_length_le, ren, ren1, ren2, okr, okr1, okr2, ChkN, BlkN, List.range_succ, nf, grammarC] <;> with_reducible rfl) ?_
  refine wkd (@grammarC.eq_1) _ ?_
  refine GS.fnn [] (cow) rfl rfl rfl rfl (by simp [go_sem, List.take_of_length_le, ren, ren1, ren2, okr, okr1, okr2, ChkN, BlkN, List.range_succ, nf, grammarC] <;> with_reducible rfl) (by simp [go_sem, List.take_of_length_le, ren, ren1, ren2, okr, okr1, okr2, ChkN, BlkN, List.range_succ, nf, grammarC]) (by simp [go_sem, List.take_of_length_le, ren, ren1, ren2, okr, okr1, okr2, ChkN, BlkN, List.range_succ, nf, grammarC]) (by simp [List.range_succ, lb]) (ChkN.toB (by simp [go_sem, List.take_of_length_le, ren, ren1, ren2, okr, okr1, okr2, ChkN, BlkN, List.range_succ, nf, grammarC])) (by decide) (by simp) rfl (.nfr (by simp) .nil) (by simp [go_sem, List.take_of_length_le, ren, ren1, ren2, okr, okr1, okr2, ChkN, BlkN, List.range_succ, nf, grammarC] <;> with_reducible rfl) ?_
  refine wkd (@grammarC.eq_1) _ ?_
  refine GS.fnnd (p2) rfl rfl rfl rfl (by simp [go_sem, List.take_of_length_le, ren, ren1, ren2, okr, okr1, okr2, List.range_succ, nf, grammarC] <;> with_reducible rfl) (by exact (.cons (Fz.agL (.cons (.v _) (.cons (.v _) (.cons (fz_rulesO _ rfl rfl) .nil)))) (.cons (Fz.all rfl rfl (by simp) rfl (ints_cl _)) .nil))) (by simp) (by simp [go_sem, List.take_of_length_le, ren, ren1, ren2, okr, okr1, okr2, List.range_succ, nf, grammarC]) (by simp [go_sem, List.take_of_length_le, ren, ren1, ren2, okr, okr1, okr2, List.range_succ, nf, grammarC]) rfl (.nfr (by simp) (.nil)) (by simp [go_sem, List.take_of_length_le, ren, ren1, ren2, okr, okr1, okr2, List.range_succ, nf, grammarC] <;> with_reducible rfl) ?_
  have ceq := eqIntS v.1 v.1 (by omega)
  try simp only [decide_true] at ceq
  refine wkd0 _ ?_
  first | refine GS.cd (ceq) rfl rfl rfl rfl (by simp [go_sem, List.take_of_length_le] <;> with_reducible rfl) rfl (by exact (.cons (Fz.all rfl rfl (by simp) rfl (ints_cl _)) (.cons (.im _ _) .nil))) rfl ?_ | refine Gd.cd (ceq) rfl rfl rfl rfl (by simp [go_sem, List.take_of_length_le] <;> with_reducible rfl) rfl (by exact (.cons (Fz.all rfl rfl (by simp) rfl (ints_cl _)) (.cons (.im _ _) .nil))) rfl ?_
  clear ceq
  refine wkd0 _ ?_
  refine Holds.cond rfl (fun h => ?_) (fun h => ?_)
  · cases h
  refine wkd0 _ ?_
  first | refine GS.cc (ctg) rfl rfl rfl rfl (by simp [go_sem, List.take_of_length_le, grammarC] <;> with_reducible rfl) rfl (by simp [go_sem, List.take_of_length_le, grammarC]) ?_ | refine Gd.cc (ctg) rfl rfl rfl rfl (by simp [go_sem, List.take_of_length_le, grammarC] <;> with_reducible rfl) rfl (by simp [go_sem, List.take_of_length_le, grammarC]) ?_
  refine wkd (@grammarC.eq_1) _ ?_
  first | refine GS.cd (ceg) rfl rfl rfl rfl (by simp [go_sem, List.take_of_length_le, grammarC] <;> with_reducible rfl) rfl (by exact (.cons (Fz.agL (.cons (.v _) (.cons (.v _) (.cons (fz_rulesO _ rfl rfl) .nil)))) (.cons (Fz.cl rfl) .nil))) rfl ?_ | refine Gd.cd (ceg) rfl rfl rfl rfl (by simp [go_sem, List.take_of_length_le, grammarC] <;> with_reducible rfl) rfl (by exact (.cons (Fz.agL (.cons (.v _) (.cons (.v _) (.cons (fz_rulesO _ rfl rfl) .nil)))) (.cons (Fz.cl rfl) .nil))) rfl ?_
  refine wkd0 _ ?_
  refine Holds.cond rfl (fun h => ?_) (fun h => ?_)
  · cases h
  refine wkd0 _ ?_
  first | refine GS.cc (ctw) rfl rfl rfl rfl (by simp [go_sem, List.take_of_length_le, grammarC] <;> with_reducible rfl) rfl (by simp [go_sem, List.take_of_length_le, grammarC]) ?_ | refine Gd.cc (ctw) rfl rfl rfl rfl (by simp [go_sem, List.take_of_length_le, grammarC] <;> with_reducible rfl) rfl (by simp [go_sem, List.take_of_length_le, grammarC]) ?_
  refine wkd (@grammarC.eq_1) _ ?_
  first | refine GS.cd (cew) rfl rfl rfl rfl (by simp [go_sem, List.take_of_length_le, grammarC] <;> with_reducible rfl) rfl (by exact (.cons (Fz.all rfl rfl (by simp) rfl (ints_cl _)) (.cons (.im _ _) .nil))) rfl ?_ | refine Gd.cd (cew) rfl rfl rfl rfl (by simp [go_sem, List.take_of_length_le, grammarC] <;> with_reducible rfl) rfl (by exact (.cons (Fz.all rfl rfl (by simp) rfl (ints_cl _)) (.cons (.im _ _) .nil))) rfl ?_
  refine wkd0 _ ?_
  refine Holds.cond rfl (fun h => ?_) (fun h => ?_)
  · cases h
  have cmg := markGrammar g ((1 : Int)) (by omega) (by omega) (by omega)
  refine wkd0 _ ?_
  refine GS.fnn [1] (cmg) rfl rfl rfl rfl (by simp [go_sem, List.take_of_length_le, ren, ren1, ren2, okr, okr1, okr2, ChkN, BlkN, List.range_succ, nf] <;> with_reducible rfl) (by simp [go_sem, List.take_of_length_le, ren, ren1, ren2, okr, okr1, okr2, ChkN, BlkN, List.range_succ, nf]) (by simp [go_sem, List.take_of_length_le, ren, ren1, ren2, okr, okr1, okr2, ChkN, BlkN, List.range_succ, nf]) (by simp [List.range_succ, lb]) (ChkN.toB (by simp [go_sem, List.take_of_length_le, ren, ren1, ren2, okr, okr1, okr2, ChkN, BlkN, List.range_succ, nf])) (by decide) (by simp) rfl (.nfr (by simp) (.nil)) (by simp [go_sem, List.take_of_length_le, ren, ren1, ren2, okr, okr1, okr2, ChkN, BlkN, List.range_succ, nf] <;> with_reducible rfl) ?_
  have cmw := markIntS w ((1 : Int) + (wGrammar g : Nat)) (by omega) (by simp; omega)
  simp only [wtL_w1] at cmw
  refine wkd0 _ ?_
  refine GS.fnn [3] (cmw) rfl rfl rfl rfl (by simp [go_sem, List.take_of_length_le, ren, ren1, ren2, okr, okr1, okr2, ChkN, BlkN, List.range_succ, nf] <;> with_reducible rfl) (by simp [go_sem, List.take_of_length_le, ren, ren1, ren2, okr, okr1, okr2, ChkN, BlkN, List.range_succ, nf]) (by simp [go_sem, List.take_of_length_le, ren, ren1, ren2, okr, okr1, okr2, ChkN, BlkN, List.range_succ, nf]) (by simp [List.range_succ, lb]) (ChkN.toB (by simp [go_sem, List.take_of_length_le, ren, ren1, ren2, okr, okr1, okr2, ChkN, BlkN, List.range_succ, nf])) (by decide) (by simp) rfl (.nfr (by simp) (.nil)) (by simp [go_sem, List.take_of_length_le, ren, ren1, ren2, okr, okr1, okr2, ChkN, BlkN, List.range_succ, nf] <;> with_reducible rfl) ?_
  have hk0 : ¬ ((1 : Int) + (wGrammar g : Nat) + (w.length : Nat) < 0) := by omega
  have ceq := eqIntS v.1 v.1 (by omega)
  try simp only [decide_true] at ceq
  refine wkd (@hk0) _ ?_
  first | refine GS.cd (ceq) rfl rfl rfl rfl (by simp [go_sem, List.take_of_length_le, hk0] <;> with_reducible rfl) rfl (by exact (.cons (Fz.all rfl rfl (by simp) rfl (ints_cl _)) (.cons (.im _ _) .nil))) rfl ?_ | refine Gd.cd (ceq) rfl rfl rfl rfl (by simp [go_sem, List.take_of_length_le, hk0] <;> with_reducible rfl) rfl (by exact (.cons (Fz.all rfl rfl (by simp) rfl (ints_cl _)) (.cons (.im _ _) .nil))) rfl ?_
  clear ceq
  refine wkd (@hk0) _ ?_
  refine Holds.cond rfl (fun h => ?_) (fun h => ?_)
  · cases h
  have cm := markIntS v.1 ((1 : Int)) (by omega) (by simp; omega)
  have ch4 := heldIntS v.1 ((1 : Int)) (by omega) (by simp; omega)
  try simp only [wtL_w1] at cm ch4
  refine wkd0 _ ?_
  refine GS.fnn [4] (cm) rfl rfl rfl rfl (by simp [go_sem, List.take_of_length_le, ren, ren1, ren2, okr, okr1, okr2, ChkN, BlkN, List.range_succ, nf] <;> with_reducible rfl) (by simp [go_sem, List.take_of_length_le, ren, ren1, ren2, okr, okr1, okr2, ChkN, BlkN, List.range_succ, nf]) (by simp [go_sem, List.take_of_length_le, ren, ren1, ren2, okr, okr1, okr2, ChkN, BlkN, List.range_succ, nf]) (by simp [List.range_succ, lb]) (ChkN.toB (by simp [go_sem, List.take_of_length_le, ren, ren1, ren2, okr, okr1, okr2, ChkN, BlkN, List.range_succ, nf])) (by decide) (by simp) rfl (.nfr (by simp) .nil) (by simp [go_sem, List.take_of_length_le, ren, ren1, ren2, okr, okr1, okr2, ChkN, BlkN, List.range_succ, nf] <;> with_reducible rfl) ?_
  clear cm
  refine wkd0 _ ?_
  first | refine GS.cd (ch4) rfl rfl rfl rfl (by simp [go_sem, List.take_of_length_le] <;> with_reducible rfl) rfl (by exact (.cons (Fz.all rfl rfl (by simp) rfl (ints_cl _)) (.cons (.v _) .nil))) rfl ?_ | refine Gd.cd (ch4) rfl rfl rfl rfl (by simp [go_sem, List.take_of_length_le] <;> with_reducible rfl) rfl (by exact (.cons (Fz.all rfl rfl (by simp) rfl (ints_cl _)) (.cons (.v _) .nil))) rfl ?_
  have hk4 : ¬ ((1 : Int) + (v.1.length : Nat) < 0) := by omega
  refine wkd (@hk4) _ ?_
  refine Holds.cond rfl (fun h => ?_) (fun h => ?_)
  · cases h
  refine wkd0 _ ?_
  refine Holds.cond rfl (fun h => ?_) (fun h => ?_)
  · cases h
  refine wkd (@grammarC.eq_1) _ ?_
  first | refine GS.cc (ctg) rfl rfl rfl rfl (by simp [go_sem, List.take_of_length_le, grammarC] <;> with_reducible rfl) rfl (by simp [go_sem, List.take_of_length_le, grammarC]) ?_ | refine Gd.cc (ctg) rfl rfl rfl rfl (by simp [go_sem, List.take_of_length_le, grammarC] <;> with_reducible rfl) rfl (by simp [go_sem, List.take_of_length_le, grammarC]) ?_
  refine wkd (@grammarC.eq_1) _ ?_
  first | refine GS.cc (ctw) rfl rfl rfl rfl (by simp [go_sem, List.take_of_length_le, grammarC] <;> with_reducible rfl) rfl (by simp [go_sem, List.take_of_length_le, grammarC]) ?_ | refine Gd.cc (ctw) rfl rfl rfl rfl (by simp [go_sem, List.take_of_length_le, grammarC] <;> with_reducible rfl) rfl (by simp [go_sem, List.take_of_length_le, grammarC]) ?_
  refine wkd (@grammarC.eq_1) _ ?_
  first | refine GS.cc (p3) rfl rfl rfl rfl (by simp [go_sem, List.take_of_length_le, grammarC] <;> with_reducible rfl) rfl (by simp [go_sem, List.take_of_length_le, grammarC]) ?_ | refine Gd.cc (p3) rfl rfl rfl rfl (by simp [go_sem, List.take_of_length_le, grammarC] <;> with_reducible rfl) rfl (by simp [go_sem, List.take_of_length_le, grammarC]) ?_
  have ceq := eqIntS v.1 v.1 (by omega)
  try simp only [decide_true] at ceq
  refine wkd0 _ ?_
  first | refine GS.cc (ceq) rfl rfl rfl rfl (by simp [go_sem, List.take_of_length_le] <;> with_reducible rfl) rfl (by simp [go_sem, List.take_of_length_le]) ?_ | refine Gd.cc (ceq) rfl rfl rfl rfl (by simp [go_sem, List.take_of_length_le] <;> with_reducible rfl) rfl (by simp [go_sem, List.take_of_length_le]) ?_
  clear ceq
  refine wkd0 _ ?_
  refine Holds.cond rfl (fun h => ?_) (fun h => ?_)
  · cases h
  refine wkd0 _ ?_
  first | refine GS.cd (ch4) rfl rfl rfl rfl (by simp [go_sem, List.take_of_length_le] <;> with_reducible rfl) rfl (by exact (.cons (Fz.all rfl rfl (by simp) rfl (ints_cl _)) (.cons (.v _) .nil))) rfl ?_ | refine Gd.cd (ch4) rfl rfl rfl rfl (by simp [go_sem, List.take_of_length_le] <;> with_reducible rfl) rfl (by exact (.cons (Fz.all rfl rfl (by simp) rfl (ints_cl _)) (.cons (.v _) .nil))) rfl ?_
  have hk4 : ¬ ((1 : Int) + (v.1.length : Nat) < 0) := by omega
  refine wkd (@hk4) _ ?_
  refine Holds.cond rfl (fun h => ?_) (fun h => ?_)
  · cases h
  refine wkd0 _ ?_
  refine Holds.cond rfl (fun h => ?_) (fun h => ?_)
  · cases h
  refine wkd0 _ ?_
  refine Out.mk (xs := ?_) ?_ ?_ (by first | exact .inr rfl | exact .inl rfl)
  rotate_left
  · simp [go_sem, List.take_of_length_le] <;> with_reducible rfl
  exact .v _
end Go.Proofs.YtkolhcoeifghpaaGreat.En
end
