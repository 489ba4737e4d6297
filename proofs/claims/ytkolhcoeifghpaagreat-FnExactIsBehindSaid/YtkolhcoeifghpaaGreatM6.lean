/- Own words and walks of this claim, part 6: what the program's functions compute, for all the arguments that are named; no further conditions. -/
import Derived.Test.YtkolhcoeifghpaaGreatM2
import Derived.Test.YtkolhcoeifghpaaGreatM5
import Derived.Test.YtkolhcoeifghpaaGreatM4
import Derived.Test.YtkolhcoeifghpaaGreatM3
section
namespace Go.Proofs.YtkolhcoeifghpaaGreat.En
open Go.RowKit
set_option linter.unusedSimpArgs false
set_option linter.unusedVariables false
set_option maxHeartbeats 4000000
theorem ints_takeD (l : List Int) (n : Nat) : (ints l).take n = ints (l.take n) := by simp [ints, List.map_take]
theorem ints_setD (l : List Int) (n : Nat) (r : Int) : (ints l).set n [.v (.int .i64 r)] = ints (l.set n r) := by simp [ints, List.map_set]
theorem deleteInts (f : FuncId) (cap : List AV) (p : Int → Bool) (xs : List Int) (hx : xs.length < 1000000) (hcap : cap.all cl1 = true) (hg : ∀ x ∈ xs, Pure Tryz.prog f (.v (.int .i64 x) :: cap) (.v (.bool (p x)))) : Fn Tryz.prog 119 1 [.own 0 1 0 xs.length, .fn f cap] [(0, ⟨3, 1, ints xs⟩)] (.own 0 1 0 (xs.filter fun x => !p x).length) 1 [(0, ⟨3, 1, ints (xs.filter fun x => !p x)⟩)] := by
  have ci := indexFuncInt f cap p xs (by omega) hcap hg
  refine Fn.mk (rs := [.tmp 4]) (nt := 42) Tryz.func119 (by kernel_rfl) rfl rfl rfl (by simp) ?_
  simp only [sl]
  refine wkc0 _ ?_
  refine GS.cd (ci) rfl rfl rfl rfl (by simp [go_sem, List.take_of_length_le, hcap, all_cl1 hcap] <;> with_reducible rfl) rfl (by exact .cons (Fz.all rfl rfl (by simp) rfl (ints_cl _)) (.cons (Fz.cl (by simpa [cl] using hcap)) .nil)) rfl ?_
  refine wkc0 _ ?_
  rcases fstP_cases p xs with ⟨h1, h2⟩ | ⟨k, h1, hD⟩
  · rw [h1, h2]
    refine wkc0 _ ?_
    refine OutF.mkn (xs := ?_) (nm [0]) ?_ ?_ ?_ ?_ ?_ (by first | exact .inr rfl | exact .inl rfl)
    rotate_left
    · simp [go_sem, List.take_of_length_le] <;> with_reducible rfl
    · simp [go_sem, List.take_of_length_le, ren, ren1, ren2, okr, okr1, okr2, ChkN, BlkN, List.range_succ, nf]
    · simp [go_sem, List.take_of_length_le, ren, ren1, ren2, okr, okr1, okr2, ChkN, BlkN, List.range_succ, nf]
    · simp [go_sem, List.take_of_length_le, ren, ren1, ren2, okr, okr1, okr2, ChkN, BlkN, List.range_succ, nf]
    · rfl
  · rw [h1]
    have hk1 : ((k : Int) == -1) = false := by rw [beq_eq_false_iff_ne]; omega
    have hk2 : ¬ (k : Int) = -1 := by omega
    have stepk : wr64 ((k : Int) + 1) = ((k + 1 : Nat) : Int) := wr64_id (by have := hD.jl; omega) (by have := hD.jl; omega)
    refine wkc (And.intro @hk1 (And.intro @hk2 (@stepk))) _ ?_
    refine Holds.loop (ι := Nat × Nat × List Int) (fun i => ⟨[(0, .own 0 1 0 xs.length), (1, .fn f cap), (5, .v (.int .i64 i.1)), (6, .v (.int .i64 i.2.1))], [(0, ⟨3, 1, ints i.2.2⟩)], 1⟩)
      (fun i => DelI p xs i.2.2 i.1 i.2.1) (fun i => xs.length - i.2.1) (k, k + 1, xs) hD ?_ ?_
    · exact Cov.ofn (id) rfl (by simp [go_sem, List.take_of_length_le, ren, ren1, ren2, okr, okr1, okr2, ChkT, ChkN, BlkN, nf, okr1_cap hcap, ren1_cap hcap]) (by simp [go_sem, List.take_of_length_le, ren, ren1, ren2, okr, okr1, okr2, ChkT, ChkN, BlkN, nf, okr1_cap hcap, ren1_cap hcap])
    clear hD h1 hk1 hk2 stepk
    rintro ⟨i, j, L⟩ hD
    dsimp only at hD ⊢
    have hij := hD.ij
    have hjl := hD.jl
    have hln := hD.ln
    have stepi : wr64 ((i : Int) + 1) = ((i + 1 : Nat) : Int) := wr64_id (by omega) (by omega)
    have stepj : wr64 ((j : Int) + 1) = ((j + 1 : Nat) : Int) := wr64_id (by omega) (by omega)
    refine wkc0 _ ?_
    refine Holds.cond rfl (fun h => ?_) (fun h => ?_)
    · have hlt : j < xs.length := by simpa using h
      have hxj : xs[j]? = some xs[j] := List.getElem?_eq_getElem hlt
      have hgj := hg _ (List.getElem_mem hlt)
      generalize xs[j] = x at hxj hgj
      have hLj : L[j]? = some x := hD.at_.trans hxj
      have hlL : j < L.length := by omega
      have hiL : i < L.length := by omega
      have hix : i < xs.length := by omega
      refine wkc (And.intro (@get_E _ _ _ _ hLj) (And.intro @hLj (And.intro @hlt (@hlL)))) _ ?_
      refine GS.cc (hgj) rfl rfl rfl rfl (by simp [go_sem, List.take_of_length_le, hcap, all_cl1 hcap] <;> with_reducible rfl) rfl (by simp [go_sem, List.take_of_length_le, hcap, all_cl1 hcap]) ?_
      refine wkc0 _ ?_
      cases hp : p x with
      | false =>
        refine wkc (And.intro @hiL (And.intro @hix (And.intro @ints_setD (@stepi)))) _ ?_
        refine ⟨(i + 1, j + 1, L.set i x), hD.keep hxj hp, by dsimp only; omega, ?_⟩
        rw [stepj]
        exact Cov.ofn (id) rfl (by simp [go_sem, List.take_of_length_le, ren, ren1, ren2, okr, okr1, okr2, ChkT, ChkN, BlkN, nf, ints_setD, okr1_cap hcap, ren1_cap hcap]) (by simp [go_sem, List.take_of_length_le, ren, ren1, ren2, okr, okr1, okr2, ChkT, ChkN, BlkN, nf, ints_setD, okr1_cap hcap, ren1_cap hcap])
      | true =>
        refine wkc0 _ ?_
        refine ⟨(i, j + 1, L), hD.skip hxj hp, by dsimp only; omega, ?_⟩
        rw [stepj]
        exact Cov.ofn (id) rfl (by simp [go_sem, List.take_of_length_le, ren, ren1, ren2, okr, okr1, okr2, ChkT, ChkN, BlkN, nf, okr1_cap hcap, ren1_cap hcap]) (by simp [go_sem, List.take_of_length_le, ren, ren1, ren2, okr, okr1, okr2, ChkT, ChkN, BlkN, nf, okr1_cap hcap, ren1_cap hcap])
    · have hje : j = xs.length := by simp at h; omega
      subst hje
      have hfin := hD.fin
      have hi2 : i ≤ xs.length := by omega
      have hiL : i ≤ L.length := by omega
      have hfl : (xs.filter fun x => !p x).length = i := by rw [← hfin, List.length_take]; omega
      rw [hfl, ← hfin]
      refine wkc (And.intro @hi2 (@hiL)) _ ?_
      refine GS.clr (e := 3) (s1 := ?_) rfl rfl rfl rfl (by simp [go_sem]) zc3 ti3 rfl rfl rfl (by simp; omega) ?_ ?_
      rotate_left
      · simp [go_sem, ints_takeD] <;> with_reducible rfl
      refine wkc (@hi2) _ ?_
      refine OutF.mkn (xs := ?_) (nm [0]) ?_ ?_ ?_ ?_ ?_ (by first | exact .inr rfl | exact .inl rfl)
      rotate_left
      · simp [go_sem, List.take_of_length_le] <;> with_reducible rfl
      · simp [go_sem, List.take_of_length_le, ren, ren1, ren2, okr, okr1, okr2, ChkN, BlkN, List.range_succ, nf]
      · simp [go_sem, List.take_of_length_le, ren, ren1, ren2, okr, okr1, okr2, ChkN, BlkN, List.range_succ, nf]
      · simp [go_sem, List.take_of_length_le, ren, ren1, ren2, okr, okr1, okr2, ChkN, BlkN, List.range_succ, nf]
      · rfl
theorem endsInG (g : GrammarT) (hG : OkG g) (L : LrT) (hL : LrG g L) (s : Nat) (hs : s < L.1.length) : Fn Tryz.prog 59 0 [.ag (grammarC g), .ag (lrC L), .v (.int .i64 s)] [] (.own 0 1 0 (endsX g L s).length) 1 [(0, ⟨3, 1, ints (endsX g L s)⟩)] := by
  have hS := hL.st hs
  obtain ⟨hso, _, hun, hsl⟩ := hL.ok hs
  rw [show endsX g L s = endsF g (stAt L s) from rfl]
  generalize stAt L s = S at hS hso hun hsl ⊢
  refine Fn.mk (rs := [.tmp 6]) (nt := 47) Tryz.func59 (by kernel_rfl) rfl rfl rfl (by simp) ?_
  simp only [sl, grammarC, lrC]
  refine wkdc (And.intro @hs (And.intro @hS (And.intro (@get_E _ _ _ _ hS) (@itemssC.eq_1)))) _ ?_
  refine Holds.loop (ι := Nat) (fun i => ⟨[(3, .pb 0 3 0 0), (7, .own 1 1 0 (endsF g (S.take i)).length), (15, .im 3 (nodes S)), (16, .v (.int .i64 S.length)), (17, .v (.int .i64 i))], [(1, ⟨3, 1, ints (endsF g (S.take i))⟩), (0, ⟨31, 3, [grammarC g]⟩)], 2⟩)
    (fun i => i ≤ S.length) (fun i => S.length - i) 0 (Nat.zero_le _) ?_ ?_
  · exact Cov.ofn (nm [0, 2]) rfl (by simp [go_sem, List.take_of_length_le, ren, ren1, ren2, okr, okr1, okr2, ChkT, ChkN, BlkN, nf, grammarC, show endsF g [] = [] from rfl, show ints [] = [] from rfl]) (by simp [go_sem, List.take_of_length_le, ren, ren1, ren2, okr, okr1, okr2, ChkT, ChkN, BlkN, nf, grammarC, show endsF g [] = [] from rfl, show ints [] = [] from rfl])
  intro i hi
  have stepi : wr64 ((i : Int) + 1) = ((i + 1 : Nat) : Int) := wr64_id (by omega) (by omega)
  refine wkdc0 _ ?_
  refine Holds.cond rfl (fun h => ?_) (fun h => ?_)
  · have hlt : i < S.length := by simp at h; omega
    have hzi : S[i]? = some S[i] := List.getElem?_eq_getElem hlt
    have hnx := endsF_snoc (g := g) hzi
    obtain ⟨r, d, hr, hd, hz⟩ := mem_univX.1 (hun _ (List.getElem_mem hlt))
    have hel := endsF_len g (S.take i)
    rw [List.length_take] at hel
    rw [hz] at hzi hnx
    clear hz
    rw [gX_len] at hr
    rw [isEnd_N] at hnx
    generalize endsF g (S.take i) = E at hnx hel ⊢
    have hbb : (E.length + 1) * 8 ≤ 140737488355328 := by omega
    by_cases hrlt : r < g.2.2.length
    · have hri : (r : Int) < (g.2.2.length : Int) := by omega
      rw [ruleX_lt hrlt] at hd
      have hrr := ruleN_at hrlt
      rw [decide_eq_true hrlt, Bool.true_and] at hnx
      generalize ruleN g r = R at hd hrr hnx
      by_cases hdl : d = R.2.length
      · have hdi : ((d : Int) == (R.2.length : Int)) = true := by simp [hdl]
        rw [if_pos (decide_eq_true hdl)] at hnx
        refine wkdsc (And.intro @hlt (And.intro @hzi (And.intro (@get_E _ _ _ _ hzi) (And.intro @nodeC.eq_1 (And.intro @itemN.eq_1 (@grammarC.eq_1)))))) _ ?_
        (refine Holds.any mixed ?_ ?_; (· kernel_rfl))
        refine wkdsc (And.intro @hrlt (And.intro @hri (And.intro @hrr (And.intro (@get_E _ _ _ _ hrr) (And.intro @ruleC.eq_1 (And.intro @hdi (And.intro @hlt (And.intro @hzi (And.intro (@get_E _ _ _ _ hzi) (And.intro @nodeC.eq_1 (And.intro @itemN.eq_1 (And.intro @grammarC.eq_1 (@hbb))))))))))))) _ ?_
        refine ⟨i + 1, by omega, by omega, ?_⟩
        rw [stepi, hnx]
        exact Cov.ofn (nm [0, 5]) rfl (by simp [go_sem, List.take_of_length_le, ren, ren1, ren2, okr, okr1, okr2, ChkT, ChkN, BlkN, nf, grammarC, itemN, ints_snoc]) (by simp [go_sem, List.take_of_length_le, ren, ren1, ren2, okr, okr1, okr2, ChkT, ChkN, BlkN, nf, grammarC, itemN, ints_snoc])
      · have hdi : ((d : Int) == (R.2.length : Int)) = false := by rw [beq_eq_false_iff_ne]; omega
        have hdn : ¬ (d : Int) = (R.2.length : Int) := by omega
        rw [if_neg (by simp [hdl]), List.append_nil] at hnx
        refine wkdsc (And.intro @hlt (And.intro @hzi (And.intro (@get_E _ _ _ _ hzi) (And.intro @nodeC.eq_1 (And.intro @itemN.eq_1 (@grammarC.eq_1)))))) _ ?_
        (refine Holds.any mixed ?_ ?_; (· kernel_rfl))
        refine wkdsc (And.intro @hrlt (And.intro @hri (And.intro @hrr (And.intro (@get_E _ _ _ _ hrr) (And.intro @ruleC.eq_1 (And.intro @hdi (And.intro @hdn (And.intro @hdl (And.intro @hlt (And.intro @hzi (And.intro (@get_E _ _ _ _ hzi) (And.intro @nodeC.eq_1 (And.intro @itemN.eq_1 (@grammarC.eq_1)))))))))))))) _ ?_
        refine ⟨i + 1, by omega, by omega, ?_⟩
        rw [stepi, hnx]
        exact Cov.ofn (id) rfl (by simp [go_sem, List.take_of_length_le, ren, ren1, ren2, okr, okr1, okr2, ChkT, ChkN, BlkN, nf, grammarC]) (by simp [go_sem, List.take_of_length_le, ren, ren1, ren2, okr, okr1, okr2, ChkT, ChkN, BlkN, nf, grammarC])
    · have hri : ¬ (r : Int) < (g.2.2.length : Int) := by omega
      rw [decide_eq_false hrlt, Bool.false_and, if_neg (by simp), List.append_nil] at hnx
      refine wkdsc (And.intro @hlt (And.intro @hzi (And.intro (@get_E _ _ _ _ hzi) (And.intro @nodeC.eq_1 (And.intro @itemN.eq_1 (@grammarC.eq_1)))))) _ ?_
      (refine Holds.any mixed ?_ ?_; (· kernel_rfl))
      refine wkdsc (And.intro @hrlt (And.intro @hri (And.intro @hlt (And.intro @hzi (And.intro (@get_E _ _ _ _ hzi) (And.intro @nodeC.eq_1 (And.intro @itemN.eq_1 (@grammarC.eq_1)))))))) _ ?_
      refine ⟨i + 1, by omega, by omega, ?_⟩
      rw [stepi, hnx]
      exact Cov.ofn (id) rfl (by simp [go_sem, List.take_of_length_le, ren, ren1, ren2, okr, okr1, okr2, ChkT, ChkN, BlkN, nf, grammarC]) (by simp [go_sem, List.take_of_length_le, ren, ren1, ren2, okr, okr1, okr2, ChkT, ChkN, BlkN, nf, grammarC])
  · have hie : i = S.length := by simp at h; omega
    subst hie
    rw [List.take_length]
    refine wkdc0 _ ?_
    refine OutF.mkn (xs := ?_) (nm [1]) ?_ ?_ ?_ ?_ ?_ (by first | exact .inr rfl | exact .inl rfl)
    rotate_left
    · simp [go_sem, List.take_of_length_le] <;> with_reducible rfl
    · simp [go_sem, List.take_of_length_le, ren, ren1, ren2, okr, okr1, okr2, ChkN, BlkN, List.range_succ, nf]
    · simp [go_sem, List.take_of_length_le, ren, ren1, ren2, okr, okr1, okr2, ChkN, BlkN, List.range_succ, nf]
    · simp [go_sem, List.take_of_length_le, ren, ren1, ren2, okr, okr1, okr2, ChkN, BlkN, List.range_succ, nf]
    · rfl
theorem isOverG (g : GrammarT) (L : LrT) (hL : LrG g L) (s : Nat) (hs : s < L.1.length) : Pure Tryz.prog 87 [.ag (grammarC g), .ag (lrC L), .v (.int .i64 s)] (.v (.bool (overX g L s))) := by
  have hS := hL.st hs
  obtain ⟨hso, _, hun, hsl⟩ := hL.ok hs
  unfold overX
  generalize stAt L s = S at hS hso hun hsl ⊢
  have cc := containsItem S ((g.2.2.length : Int), 1, 0) (by omega)
  generalize decide (((g.2.2.length : Int), (1 : Int), (0 : Int)) ∈ S) = b at cc ⊢
  simp only [nodeC] at cc
  refine Pure.mk (rs := [.tmp 6]) (nt := 17) Tryz.func87 (by kernel_rfl) rfl rfl rfl (by simp) ?_
  simp only [sl, grammarC, lrC]
  refine wkdsc0 _ ?_
  refine Holds.anx [8] [0, 1, 2, 3, 4, 5, 6, 7] (fun n => decide (2 ≤ n)) mixed ?_ ?_ ?_; (· kernel_rfl); (· kernel_rfl)
  refine wkdasc (And.intro @hs (And.intro @hS (And.intro (@get_E _ _ _ _ hS) (And.intro @itemssC.eq_1 (@grammarC.eq_1))))) _ ?_
  first | refine GS.cc (cc) rfl rfl rfl rfl (by simp [go_sem, List.take_of_length_le] <;> with_reducible rfl) rfl (by simp [go_sem, List.take_of_length_le]) ?_ | refine Gd.cc (cc) rfl rfl rfl rfl (by simp [go_sem, List.take_of_length_le] <;> with_reducible rfl) rfl (by simp [go_sem, List.take_of_length_le]) ?_ | refine Gx.cc (cc) rfl rfl rfl rfl rfl (by simp [go_sem, List.take_of_length_le] <;> with_reducible rfl) rfl (by simp [go_sem, List.take_of_length_le]) ?_ | refine Gx.cch (cc) rfl rfl rfl rfl rfl (by simp [go_sem, List.take_of_length_le] <;> with_reducible rfl) rfl (by simp [go_sem, List.take_of_length_le]) ?_
  refine wkdac0 _ ?_
  refine Out.mk (xs := ?_) ?_ ?_ (by first | exact .inr rfl | exact .inl rfl)
  rotate_left
  · simp [go_sem, List.take_of_length_le] <;> with_reducible rfl
  exact .v _
theorem leadsG (g : GrammarT) (hG : OkG g) (L : LrT) (hL : LrG g L) (s : Nat) (hs : s < L.1.length) (x : Int) (hx0 : -g.2.1 ≤ x) (hx1 : x < g.1) : Pure Tryz.prog 52 [.ag (grammarC g), .ag (lrC L), .v (.int .i64 s), .v (.int .i64 x)] (.v (.int .i64 (leadsX g L s x))) := by
  have hN1 := hG.n1
  have hT1 := hG.t1
  obtain ⟨hrow, hrl⟩ := hL.row hG hs
  have hld : leadsX g L s x = (L.2.getD s []).getD (x + g.2.1).toNat (-1) := rfl
  generalize leadsX g L s x = e at hld ⊢
  generalize L.2.getD s [] = row at hrow hrl hld
  have hs2 : s < L.2.length := (List.getElem?_eq_some_iff.1 hrow).1
  obtain ⟨i, hi1, hil, hi2⟩ : ∃ i : Nat, x + g.2.1 = (i : Int) ∧ i < row.length ∧ (x + g.2.1).toNat = i := ⟨(x + g.2.1).toNat, by omega, by omega, by omega⟩
  have hei : row[i]? = some row[i] := List.getElem?_eq_getElem hil
  rw [hi2, List.getD_eq_getElem?_getD, hei] at hld
  change e = row[i] at hld
  rw [← hld] at hei
  have hw : wr64 (x + g.2.1) = (i : Int) := by rw [hi1]; exact wr64_id (by omega) (by omega)
  refine Pure.mk (rs := [.tmp 8]) (nt := 20) Tryz.func52 (by kernel_rfl) rfl rfl rfl (by simp) ?_
  simp only [sl, grammarC, lrC]
  refine wkdsc0 _ ?_
  (refine Holds.any mixed ?_ ?_; (· kernel_rfl))
  refine wkdsc (And.intro @hs2 (And.intro @hrow (And.intro (@get_E _ _ _ _ hrow) (And.intro @intsC.eq_1 (And.intro @hw (And.intro @hil (And.intro @hei (@get_E _ _ _ _ hei)))))))) _ ?_
  refine Out.mk (xs := ?_) ?_ ?_ (by first | exact .inr rfl | exact .inl rfl)
  rotate_left
  · simp [go_sem, List.take_of_length_le] <;> with_reducible rfl
  exact .v _
end Go.Proofs.YtkolhcoeifghpaaGreat.En
end
section
namespace Go.Proofs.YtkolhcoeifghpaaGreat.En
open Go.RowKit
set_option linter.unusedSimpArgs false
set_option linter.unusedVariables false
set_option maxHeartbeats 4000000
noncomputable def headF (g : GrammarT) : Nat → Bool := headH (madeS g true) (madeS g false) (firstS g) (followS g)
theorem endsAt1 (g : GrammarT) (hG : OkG g) (q : Nat) (hq : q < g.2.2.length) (t : Int) (ht0 : -1 ≤ t) (ht1 : t < g.2.1) : Pure Tryz.prog 120 [.v (.int .i64 q), .pi (grammarC g), .pi [.v (.int .i64 t)], .pi [.pi (boxH (headF g))]] (.v (.bool (!followS g ((ruleN g q).1, t)))) := by
  have hN1 := hG.n1
  have hT1 := hG.t1
  have hrr := ruleN_at hq
  have hl0 := hG.l0 _ (List.mem_of_getElem? hrr)
  have hl1 := hG.l1 _ (List.mem_of_getElem? hrr)
  generalize ruleN g q = R at hrr hl0 hl1 ⊢
  obtain ⟨lf, rt⟩ := R
  dsimp only at hl0 hl1 ⊢
  obtain ⟨x, rfl⟩ : ∃ x : Nat, lf = (x : Int) := ⟨lf.toNat, by omega⟩
  have hx6 : x < 6 := by omega
  have hatl : (boxH (headF g))[60 + x]? = some (.v (.bool (followS g ((x : Int), -1)))) := by
    rw [boxH_at _ (by omega), headF, headH_L _ _ _ _ hx6]
  have hat4 : ∀ i : Nat, i < 4 → (boxH (headF g))[36 + x * 4 + i]? = some (.v (.bool (followS g ((x : Int), (i : Int))))) := fun i hi => by
    rw [boxH_at _ (by omega), headF, headH_W _ _ _ _ hx6 hi]
  have hbl := boxH_len (headF g)
  generalize boxH (headF g) = B at hatl hat4 hbl ⊢
  refine Pure.mk (rs := [.tmp 5]) (nt := 31) Tryz.func120 (by kernel_rfl) rfl rfl rfl (by simp) ?_
  simp only [sl, grammarC]
  by_cases ht : t < 0
  · have hte : t = -1 := by omega
    subst hte
    refine wkdc (And.intro @hq (And.intro @hrr (And.intro (@get_E _ _ _ _ hrr) (And.intro @ruleC.eq_1 (@hx6))))) _ ?_
    refine wkdc (And.intro @hatl (And.intro (@get_E _ _ _ _ hatl) (And.intro @hbl (show 60 + x < 66 by omega)))) _ ?_
    refine Out.mk (xs := ?_) ?_ ?_ (by first | exact .inr rfl | exact .inl rfl)
    rotate_left
    · simp [go_sem, List.take_of_length_le] <;> with_reducible rfl
    exact .v _
  · obtain ⟨i, rfl⟩ : ∃ i : Nat, t = (i : Int) := ⟨t.toNat, by omega⟩
    have hi4 : i < 4 := by omega
    have hat := hat4 i hi4
    refine wkdsc (And.intro @ht (And.intro @hq (And.intro @hrr (And.intro (@get_E _ _ _ _ hrr) (And.intro @ruleC.eq_1 (And.intro @hx6 (@hi4))))))) _ ?_
    (refine Holds.any mixed ?_ ?_; (· kernel_rfl))
    refine wkdsc (And.intro @ht (And.intro @hq (And.intro @hrr (And.intro (@get_E _ _ _ _ hrr) (And.intro @ruleC.eq_1 (And.intro @hx6 (And.intro @hi4 (And.intro @hat (And.intro (@get_E _ _ _ _ hat) (And.intro @hbl (show 36 + x * 4 + i < 66 by omega))))))))))) _ ?_
    refine Out.mk (xs := ?_) ?_ ?_ (by first | exact .inr rfl | exact .inl rfl)
    rotate_left
    · simp [go_sem, List.take_of_length_le] <;> with_reducible rfl
    exact .v _
theorem endsAtG (g : GrammarT) (hG : OkG g) (L : LrT) (hL : LrG g L) (s : Nat) (hs : s < L.1.length) (t : Int) (ht0 : -1 ≤ t) (ht1 : t < g.2.1) : Fn Tryz.prog 86 0 [.ag (grammarC g), .pi (boxH (headF g)), .ag (lrC L), .v (.int .i64 s), .v (.int .i64 t)] [] (.own 0 1 0 (endsAtX g L s t).length) 1 [(0, ⟨3, 1, ints (endsAtX g L s t)⟩)] := by
  have ce := endsInG g hG L hL s hs
  have hel := endsX_len hL hs
  have hes := fun (r : Int) (hr : r ∈ endsX g L s) => endsX_rng hL hs hr
  have cd := deleteInts 120 [.pi (grammarC g), .pi [.v (.int .i64 t)], .pi [.pi (boxH (headF g))]] (fun r => !followS g ((ruleN g r.toNat).1, t)) (endsX g L s) (by omega) rfl fun r hr => by
    obtain ⟨q, rfl, hq⟩ := hes r hr
    exact endsAt1 g hG q hq t ht0 ht1
  have hE : endsAtX g L s t = (endsX g L s).filter fun r => !(!followS g ((ruleN g r.toNat).1, t)) := by
    simp only [endsAtX, Bool.not_not]
  rw [hE]
  generalize (endsX g L s).filter (fun r => !(!followS g ((ruleN g r.toNat).1, t))) = D at cd ⊢
  generalize endsX g L s = es at ce cd hel
  have hbl := boxH_clA (headF g)
  generalize boxH (headF g) = B at cd hbl ⊢
  refine Fn.mk (rs := [.tmp 10]) (nt := 17) Tryz.func86 (by kernel_rfl) rfl rfl rfl (by simp) ?_
  simp only [sl, grammarC, lrC]
  refine wkc (And.intro @grammarC.eq_1 (@lrC.eq_1)) _ ?_
  refine GS.fnn [] (ce) rfl rfl rfl rfl (by simp [go_sem, List.take_of_length_le, ren, ren1, ren2, okr, okr1, okr2, ChkN, BlkN, List.range_succ, nf, grammarC, lrC] <;> with_reducible rfl) (by simp [go_sem, List.take_of_length_le, ren, ren1, ren2, okr, okr1, okr2, ChkN, BlkN, List.range_succ, nf, grammarC, lrC]) (by simp [go_sem, List.take_of_length_le, ren, ren1, ren2, okr, okr1, okr2, ChkN, BlkN, List.range_succ, nf, grammarC, lrC]) (by simp [List.range_succ, lb]) (ChkN.toB (by simp [go_sem, List.take_of_length_le, ren, ren1, ren2, okr, okr1, okr2, ChkN, BlkN, List.range_succ, nf, grammarC, lrC])) (by decide) (by simp) rfl (.nfr (by simp) .nil) (by simp [go_sem, List.take_of_length_le, ren, ren1, ren2, okr, okr1, okr2, ChkN, BlkN, List.range_succ, nf, grammarC, lrC] <;> with_reducible rfl) ?_
  repeat' first | (refine Holds.condT ?_ ?_; (· (simp [go_sem, List.take_of_length_le, grammarC] <;> with_reducible rfl))) | (refine Holds.condF ?_ ?_; (· (simp [go_sem, List.take_of_length_le, grammarC] <;> with_reducible rfl))) | refine Holds.seq ?_ | refine Holds.skip ?_ | refine Holds.exit ?_ | refine Holds.ret ?_ | refine thenA_normal ?_ | refine thenA_exit ?_ | refine thenA_ret ?_ | refine inB_normal ?_ | refine inB_ret ?_ | refine inB_here ?_ | (refine inB_past ?_ ?_; (· exact rfl)) | refine Holds.reg ?_ | refine Holds.block ?_ | refine GS.nil ?_ | (refine GS.stepD 15 (s' := ?_) rfl ?_ ?_ ?_; rotate_left; (· exact rfl); (· (simp [go_sem, List.take_of_length_le, grammarC] <;> with_reducible rfl))) | (refine GS.skip ?_ ?_ ?_; (· exact rfl); (· exact rfl)) | fail
  refine GS.frz [0, 1, 3] [(5, .pi (grammarC g)), (9, .pi [.v (.int .i64 t)]), (6, .pi [.pi B])] (.cons rfl (Fz.pbM rfl rfl rfl (.cons (.v _) (.cons (.v _) (.cons (.im _ _) .nil)))) (.cons rfl (Fz.pbM rfl rfl rfl (.cons (.v _) .nil)) (.cons rfl (Fz.pbM rfl rfl rfl (.cons (.pi _) .nil)) .nil))) ?_
  refine wkc (And.intro @frz.eq_1 (@grammarC.eq_1)) _ ?_
  refine GS.fnn [4] (cd) rfl rfl rfl rfl (by simp [go_sem, List.take_of_length_le, ren, ren1, ren2, okr, okr1, okr2, ChkN, BlkN, List.range_succ, nf, grammarC] <;> with_reducible rfl) (by simp [go_sem, List.take_of_length_le, ren, ren1, ren2, okr, okr1, okr2, ChkN, BlkN, List.range_succ, nf, grammarC]) (by simp [go_sem, List.take_of_length_le, ren, ren1, ren2, okr, okr1, okr2, ChkN, BlkN, List.range_succ, nf, grammarC]) (by simp [List.range_succ, lb]) (ChkN.toB (by simp [go_sem, List.take_of_length_le, ren, ren1, ren2, okr, okr1, okr2, ChkN, BlkN, List.range_succ, nf, grammarC])) (by decide) (by simp) rfl (.nfr (by simp) .nil) (by simp [go_sem, List.take_of_length_le, ren, ren1, ren2, okr, okr1, okr2, ChkN, BlkN, List.range_succ, nf, grammarC] <;> with_reducible rfl) ?_
  refine wkc0 _ ?_
  refine OutF.mkn (xs := ?_) (nm [4]) ?_ ?_ ?_ ?_ ?_ (by first | exact .inr rfl | exact .inl rfl)
  rotate_left
  · simp [go_sem, List.take_of_length_le] <;> with_reducible rfl
  · simp [go_sem, List.take_of_length_le, ren, ren1, ren2, okr, okr1, okr2, ChkN, BlkN, List.range_succ, nf]
  · simp [go_sem, List.take_of_length_le, ren, ren1, ren2, okr, okr1, okr2, ChkN, BlkN, List.range_succ, nf]
  · simp [go_sem, List.take_of_length_le, ren, ren1, ren2, okr, okr1, okr2, ChkN, BlkN, List.range_succ, nf]
  · rfl
end Go.Proofs.YtkolhcoeifghpaaGreat.En
end
section
namespace Go.Proofs.YtkolhcoeifghpaaGreat.En
open Go.RowKit
set_option linter.unusedSimpArgs false
set_option linter.unusedVariables false
set_option maxHeartbeats 4000000
theorem lrClashesG (g : GrammarT) (hG : OkG g) (L : LrT) (hL : LrG g L) : Fn Tryz.prog 40 0 [.ag (grammarC g), .ag (lrC L)] [] (.own 0 1 0 (lrClash g L L.1.length).length) 1 [(0, ⟨3, 1, ints (lrClash g L L.1.length)⟩)] := by
  have hlen := hG.len
  have hn0 := hG.n0
  have hN1 := hG.n1
  have hT0 := hG.t0
  have hT1 := hG.t1
  have hfew := hL.few
  have ch := headsG g hG
  change Fn _ _ 0 _ [] (.pb 0 66 0 0) 1 [(0, ⟨_, 66, [boxH (headF g)]⟩)] at ch
  refine Fn.mk (rs := [.tmp 4]) (nt := 68) Tryz.func40 (by kernel_rfl) rfl rfl rfl (by simp) ?_
  simp only [sl, grammarC, lrC]
  refine wkdc (@grammarC.eq_1) _ ?_
  refine GS.fnn [] (ch) rfl rfl rfl rfl (by simp [go_sem, List.take_of_length_le, ren, ren1, ren2, okr, okr1, okr2, ChkN, BlkN, List.range_succ, nf, grammarC] <;> with_reducible rfl) (by simp [go_sem, List.take_of_length_le, ren, ren1, ren2, okr, okr1, okr2, ChkN, BlkN, List.range_succ, nf, grammarC]) (by simp [go_sem, List.take_of_length_le, ren, ren1, ren2, okr, okr1, okr2, ChkN, BlkN, List.range_succ, nf, grammarC]) (by simp [List.range_succ, lb]) (ChkN.toB (by simp [go_sem, List.take_of_length_le, ren, ren1, ren2, okr, okr1, okr2, ChkN, BlkN, List.range_succ, nf, grammarC])) (by decide) (by simp) rfl (.nfr (by simp) .nil) (by simp [go_sem, List.take_of_length_le, ren, ren1, ren2, okr, okr1, okr2, ChkN, BlkN, List.range_succ, nf, grammarC] <;> with_reducible rfl) ?_
  repeat' first | (refine Holds.condT ?_ ?_; (· (simp [go_sem, List.take_of_length_le] <;> with_reducible rfl))) | (refine Holds.condF ?_ ?_; (· (simp [go_sem, List.take_of_length_le] <;> with_reducible rfl))) | refine Holds.seq ?_ | refine Holds.skip ?_ | refine Holds.exit ?_ | refine Holds.ret ?_ | refine thenA_normal ?_ | refine thenA_exit ?_ | refine thenA_ret ?_ | refine inB_normal ?_ | refine inB_ret ?_ | refine inB_here ?_ | (refine inB_past ?_ ?_; (· exact rfl)) | refine Holds.reg ?_ | refine Holds.block ?_ | refine GS.nil ?_ | refine Gd.nil ?_ | (refine Holds.any mixed ?_ ?_; (· kernel_rfl)) | (refine GS.stepD 13 (s' := ?_) rfl ?_ ?_ ?_; rotate_left; (· exact rfl); (· (simp [go_sem, List.take_of_length_le] <;> with_reducible rfl))) | (refine GS.skip ?_ ?_ ?_; (· exact rfl); (· exact rfl)) | (refine Gd.go (s' := ?_) ?_ ?_ ?_; rotate_left; (· exact rfl); (· (simp [go_sem, List.take_of_length_le] <;> with_reducible rfl))) | (refine Gd.skip ?_ ?_ ?_; (· exact rfl); (· exact rfl)) | fail
  refine GS.frz [2] [(5, .pi (boxH (headF g)))] (.cons rfl (Fz.box rfl rfl rfl (boxH_clA _)) .nil) ?_
  refine wkdc (And.intro @frz.eq_1 (@lrC.eq_1)) _ ?_
  refine Holds.loop (ι := Nat) (fun k => ⟨[(2, .pb 0 3 0 0), (3, .pb 1 2 0 0), (5, .pi (boxH (headF g))), (6, .own 2 1 0 (lrClash g L k).length), (16, .v (.int .i64 L.1.length)), (17, .v (.int .i64 k))], [(2, ⟨3, 1, ints (lrClash g L k)⟩), (1, ⟨48, 2, [lrC L]⟩), (0, ⟨31, 3, [grammarC g]⟩)], 3⟩)
    (fun k => k ≤ L.1.length) (fun k => L.1.length - k) 0 (Nat.zero_le _) ?_ ?_
  · exact Cov.ofn (nm [0, 1, 3]) rfl (by simp [go_sem, List.take_of_length_le, ren, ren1, ren2, okr, okr1, okr2, ChkT, ChkN, BlkN, nf, grammarC, lrC, show lrClash g L 0 = [] from rfl, show ints [] = [] from rfl]) (by simp [go_sem, List.take_of_length_le, ren, ren1, ren2, okr, okr1, okr2, ChkT, ChkN, BlkN, nf, grammarC, lrC, show lrClash g L 0 = [] from rfl, show ints [] = [] from rfl])
  intro k hk
  have stepk : wr64 ((k : Int) + 1) = ((k + 1 : Nat) : Int) := wr64_id (by omega) (by omega)
  refine wkdc0 _ ?_
  refine Holds.cond rfl (fun h => ?_) (fun h => ?_)
  · have hkl : k < L.1.length := by simp at h; omega
    have hnx := lrClash_next g L k
    have hll := lrClash_len g L k
    generalize lrClash g L k = C at hnx hll ⊢
    have hbb : (C.length + 1) * 8 ≤ 140737488355328 := by omega
    refine wkdc0 _ ?_
    refine Holds.loop (ι := Nat) (fun i => ⟨[(2, .pb 0 3 0 0), (3, .pb 1 2 0 0), (5, .pi (boxH (headF g))), (6, .own 2 1 0 C.length), (7, .v (.int .i64 k)), (8, .v (.bool (clashAt g L k i))), (9, .v (.int .i64 ((i : Int) - 1))), (16, .v (.int .i64 L.1.length)), (17, .v (.int .i64 k))], [(2, ⟨3, 1, ints C⟩), (1, ⟨48, 2, [lrC L]⟩), (0, ⟨31, 3, [grammarC g]⟩)], 3⟩)
      (fun i => i ≤ (g.2.1 + 1).toNat) (fun i => (g.2.1 + 1).toNat - i) 0 (Nat.zero_le _) ?_ ?_
    · exact Cov.ofn (id) rfl (by simp [go_sem, List.take_of_length_le, ren, ren1, ren2, okr, okr1, okr2, ChkT, ChkN, BlkN, nf, grammarC, lrC, show clashAt g L k 0 = false from rfl]) (by simp [go_sem, List.take_of_length_le, ren, ren1, ren2, okr, okr1, okr2, ChkT, ChkN, BlkN, nf, grammarC, lrC, show clashAt g L k 0 = false from rfl])
    intro i hi
    have stepi : wr64 (i : Int) = ((i + 1 : Nat) : Int) - 1 := by rw [wr64_id (by omega) (by omega)]; omega
    have hci := clashAt_next g L k i
    refine wkdc (And.intro @grammarC.eq_1 (@lrC.eq_1)) _ ?_
    refine Holds.cond rfl (fun h => ?_) (fun h => ?_)
    · have hit : (i : Int) - 1 < g.2.1 := by simpa using h
      have ct := endsAtG g hG L hL k hkl ((i : Int) - 1) (by omega) hit
      have hmv : manyX g L k ((i : Int) - 1) = (endsAtX g L k ((i : Int) - 1)).length + if (decide ((i : Int) - 1 < 0) && overX g L k) || (decide (0 ≤ (i : Int) - 1) && decide (0 ≤ leadsX g L k (-1 - ((i : Int) - 1)))) then 1 else 0 := rfl
      have hdl : (endsAtX g L k ((i : Int) - 1)).length ≤ 85 := Nat.le_trans (List.length_filter_le _ _) (endsX_len hL hkl)
      generalize endsAtX g L k ((i : Int) - 1) = D at ct hmv hdl
      generalize D.length = dl at ct hmv hdl
      obtain ⟨m1, hm1⟩ : ∃ m1, m1 = dl + 1 := ⟨_, rfl⟩
      have hw1 : wr64 ((dl : Int) + 1) = (m1 : Int) := by rw [wr64_id (by omega) (by omega)]; omega
      generalize manyX g L k ((i : Int) - 1) = mv at hmv hci
      refine wkdc (And.intro @grammarC.eq_1 (@lrC.eq_1)) _ ?_
      refine GS.fnn [] (ct) rfl rfl rfl rfl (by simp [go_sem, List.take_of_length_le, ren, ren1, ren2, okr, okr1, okr2, ChkN, BlkN, List.range_succ, nf, grammarC, lrC] <;> with_reducible rfl) (by simp [go_sem, List.take_of_length_le, ren, ren1, ren2, okr, okr1, okr2, ChkN, BlkN, List.range_succ, nf, grammarC, lrC]) (by simp [go_sem, List.take_of_length_le, ren, ren1, ren2, okr, okr1, okr2, ChkN, BlkN, List.range_succ, nf, grammarC, lrC]) (by simp [List.range_succ, lb]) (ChkN.toB (by simp [go_sem, List.take_of_length_le, ren, ren1, ren2, okr, okr1, okr2, ChkN, BlkN, List.range_succ, nf, grammarC, lrC])) (by decide) (by simp) rfl (.nfr (by simp) .nil) (by simp [go_sem, List.take_of_length_le, ren, ren1, ren2, okr, okr1, okr2, ChkN, BlkN, List.range_succ, nf, grammarC, lrC] <;> with_reducible rfl) ?_
      by_cases hi0 : i = 0
      · subst hi0
        have stepz : wr64 (0 : Int) = ((0 + 1 : Nat) : Int) - 1 := by rw [wr64_id (by omega) (by omega)]; rfl
        have co := isOverG g L hL k hkl
        have cond1 : ((decide (((0 : Nat) : Int) - 1 < 0) && overX g L k) || (decide (0 ≤ ((0 : Nat) : Int) - 1) && decide (0 ≤ leadsX g L k (-1 - (((0 : Nat) : Int) - 1))))) = overX g L k := by simp
        rw [cond1] at hmv
        generalize overX g L k = ov at co hmv
        refine wkdsc (And.intro @grammarC.eq_1 (@lrC.eq_1)) _ ?_
        (refine Holds.any mixed ?_ ?_; (· kernel_rfl))
        refine wkdsc (And.intro @grammarC.eq_1 (@lrC.eq_1)) _ ?_
        first | refine GS.cc (co) rfl rfl rfl rfl (by simp [go_sem, List.take_of_length_le, grammarC, lrC] <;> with_reducible rfl) rfl (by simp [go_sem, List.take_of_length_le, grammarC, lrC]) ?_ | refine Gd.cc (co) rfl rfl rfl rfl (by simp [go_sem, List.take_of_length_le, grammarC, lrC] <;> with_reducible rfl) rfl (by simp [go_sem, List.take_of_length_le, grammarC, lrC]) ?_
        cases ov with
        | true =>
          simp only [if_true] at hmv
          cases hc : clashAt g L k 0 with
          | true =>
            rw [hc, Bool.true_or] at hci
            refine wkdc (@hw1) _ ?_
            refine ⟨0 + 1, by omega, by omega, ?_⟩
            rw [stepz, hci]
            exact Cov.ofn (id) rfl (by simp [go_sem, List.take_of_length_le, ren, ren1, ren2, okr, okr1, okr2, ChkT, ChkN, BlkN, nf, grammarC, lrC]) (by simp [go_sem, List.take_of_length_le, ren, ren1, ren2, okr, okr1, okr2, ChkT, ChkN, BlkN, nf, grammarC, lrC])
          | false =>
            rw [hc, Bool.false_or] at hci
            by_cases hm : 1 < m1
            · have hmi : (1 : Int) < (m1 : Int) := by omega
              rw [decide_eq_true (show 1 < mv by omega)] at hci
              refine wkdc (And.intro @hw1 (And.intro @hm (@hmi))) _ ?_
              refine ⟨0 + 1, by omega, by omega, ?_⟩
              rw [stepz, hci]
              exact Cov.ofn (id) rfl (by simp [go_sem, List.take_of_length_le, ren, ren1, ren2, okr, okr1, okr2, ChkT, ChkN, BlkN, nf, grammarC, lrC]) (by simp [go_sem, List.take_of_length_le, ren, ren1, ren2, okr, okr1, okr2, ChkT, ChkN, BlkN, nf, grammarC, lrC])
            · have hmi : ¬ (1 : Int) < (m1 : Int) := by omega
              rw [decide_eq_false (show ¬ 1 < mv by omega)] at hci
              refine wkdc (And.intro @hw1 (And.intro @hm (@hmi))) _ ?_
              refine ⟨0 + 1, by omega, by omega, ?_⟩
              rw [stepz, hci]
              exact Cov.ofn (id) rfl (by simp [go_sem, List.take_of_length_le, ren, ren1, ren2, okr, okr1, okr2, ChkT, ChkN, BlkN, nf, grammarC, lrC]) (by simp [go_sem, List.take_of_length_le, ren, ren1, ren2, okr, okr1, okr2, ChkT, ChkN, BlkN, nf, grammarC, lrC])
        | false =>
          simp only [Bool.false_eq_true, if_false, Nat.add_zero] at hmv
          cases hc : clashAt g L k 0 with
          | true =>
            rw [hc, Bool.true_or] at hci
            refine wkdc (@hw1) _ ?_
            refine ⟨0 + 1, by omega, by omega, ?_⟩
            rw [stepz, hci]
            exact Cov.ofn (id) rfl (by simp [go_sem, List.take_of_length_le, ren, ren1, ren2, okr, okr1, okr2, ChkT, ChkN, BlkN, nf, grammarC, lrC]) (by simp [go_sem, List.take_of_length_le, ren, ren1, ren2, okr, okr1, okr2, ChkT, ChkN, BlkN, nf, grammarC, lrC])
          | false =>
            rw [hc, Bool.false_or] at hci
            by_cases hm : 1 < dl
            · have hmi : (1 : Int) < (dl : Int) := by omega
              rw [decide_eq_true (show 1 < mv by omega)] at hci
              refine wkdc (And.intro @hw1 (And.intro @hm (@hmi))) _ ?_
              refine ⟨0 + 1, by omega, by omega, ?_⟩
              rw [stepz, hci]
              exact Cov.ofn (id) rfl (by simp [go_sem, List.take_of_length_le, ren, ren1, ren2, okr, okr1, okr2, ChkT, ChkN, BlkN, nf, grammarC, lrC]) (by simp [go_sem, List.take_of_length_le, ren, ren1, ren2, okr, okr1, okr2, ChkT, ChkN, BlkN, nf, grammarC, lrC])
            · have hmi : ¬ (1 : Int) < (dl : Int) := by omega
              rw [decide_eq_false (show ¬ 1 < mv by omega)] at hci
              refine wkdc (And.intro @hw1 (And.intro @hm (@hmi))) _ ?_
              refine ⟨0 + 1, by omega, by omega, ?_⟩
              rw [stepz, hci]
              exact Cov.ofn (id) rfl (by simp [go_sem, List.take_of_length_le, ren, ren1, ren2, okr, okr1, okr2, ChkT, ChkN, BlkN, nf, grammarC, lrC]) (by simp [go_sem, List.take_of_length_le, ren, ren1, ren2, okr, okr1, okr2, ChkT, ChkN, BlkN, nf, grammarC, lrC])
      · have h0 : (0 : Int) ≤ (i : Int) - 1 := by omega
        have hn : ¬ (i : Int) - 1 < 0 := by omega
        have h0' : (1 : Int) ≤ (i : Int) := by omega
        have h0n : 1 ≤ i := by omega
        have hn' : ¬ (i : Int) < 1 := by omega
        have cs := symbolOfA ((i : Int) - 1) (by omega) (by omega)
        have cl := leadsG g hG L hL k hkl (-1 - ((i : Int) - 1)) (by omega) (by omega)
        rw [decide_eq_false hn, decide_eq_true h0, Bool.false_and, Bool.false_or, Bool.true_and] at hmv
        generalize leadsX g L k (-1 - ((i : Int) - 1)) = e at cl hmv
        generalize hsy : -1 - ((i : Int) - 1) = sy at cs cl
        refine wkdsc (And.intro @hn (And.intro @h0 (And.intro @h0' (And.intro @h0n (And.intro @hn' (And.intro @hi0 (And.intro @grammarC.eq_1 (@lrC.eq_1)))))))) _ ?_
        (refine Holds.any mixed ?_ ?_; (· kernel_rfl))
        refine wkdsc (And.intro @hn (And.intro @h0 (And.intro @h0' (And.intro @h0n (And.intro @hn' (And.intro @hi0 (And.intro @grammarC.eq_1 (@lrC.eq_1)))))))) _ ?_
        first | refine GS.cc (cs) rfl rfl rfl rfl (by simp [go_sem, List.take_of_length_le, grammarC, lrC] <;> with_reducible rfl) rfl (by simp [go_sem, List.take_of_length_le, grammarC, lrC]) ?_ | refine Gd.cc (cs) rfl rfl rfl rfl (by simp [go_sem, List.take_of_length_le, grammarC, lrC] <;> with_reducible rfl) rfl (by simp [go_sem, List.take_of_length_le, grammarC, lrC]) ?_
        refine wkdsc (And.intro @grammarC.eq_1 (@lrC.eq_1)) _ ?_
        first | refine GS.cc (cl) rfl rfl rfl rfl (by simp [go_sem, List.take_of_length_le, grammarC, lrC] <;> with_reducible rfl) rfl (by simp [go_sem, List.take_of_length_le, grammarC, lrC]) ?_ | refine Gd.cc (cl) rfl rfl rfl rfl (by simp [go_sem, List.take_of_length_le, grammarC, lrC] <;> with_reducible rfl) rfl (by simp [go_sem, List.take_of_length_le, grammarC, lrC]) ?_
        by_cases he : 0 ≤ e
        · have hen : ¬ e < 0 := by omega
          rw [decide_eq_true he] at hmv
          simp only [if_true] at hmv
          cases hc : clashAt g L k i with
          | true =>
            rw [hc, Bool.true_or] at hci
            refine wkdc (And.intro @he (And.intro @hen (And.intro @hn (And.intro @h0 (And.intro @h0' (And.intro @h0n (And.intro @hn' (And.intro @hi0 (@hw1))))))))) _ ?_
            refine ⟨i + 1, by omega, by omega, ?_⟩
            rw [stepi, hci]
            exact Cov.ofn (id) rfl (by simp [go_sem, List.take_of_length_le, ren, ren1, ren2, okr, okr1, okr2, ChkT, ChkN, BlkN, nf, grammarC, lrC]) (by simp [go_sem, List.take_of_length_le, ren, ren1, ren2, okr, okr1, okr2, ChkT, ChkN, BlkN, nf, grammarC, lrC])
          | false =>
            rw [hc, Bool.false_or] at hci
            by_cases hm : 1 < m1
            · have hmi : (1 : Int) < (m1 : Int) := by omega
              rw [decide_eq_true (show 1 < mv by omega)] at hci
              refine wkdc (And.intro @he (And.intro @hen (And.intro @hn (And.intro @h0 (And.intro @h0' (And.intro @h0n (And.intro @hn' (And.intro @hi0 (And.intro @hw1 (And.intro @hm (@hmi))))))))))) _ ?_
              refine ⟨i + 1, by omega, by omega, ?_⟩
              rw [stepi, hci]
              exact Cov.ofn (id) rfl (by simp [go_sem, List.take_of_length_le, ren, ren1, ren2, okr, okr1, okr2, ChkT, ChkN, BlkN, nf, grammarC, lrC]) (by simp [go_sem, List.take_of_length_le, ren, ren1, ren2, okr, okr1, okr2, ChkT, ChkN, BlkN, nf, grammarC, lrC])
            · have hmi : ¬ (1 : Int) < (m1 : Int) := by omega
              rw [decide_eq_false (show ¬ 1 < mv by omega)] at hci
              refine wkdc (And.intro @he (And.intro @hen (And.intro @hn (And.intro @h0 (And.intro @h0' (And.intro @h0n (And.intro @hn' (And.intro @hi0 (And.intro @hw1 (And.intro @hm (@hmi))))))))))) _ ?_
              refine ⟨i + 1, by omega, by omega, ?_⟩
              rw [stepi, hci]
              exact Cov.ofn (id) rfl (by simp [go_sem, List.take_of_length_le, ren, ren1, ren2, okr, okr1, okr2, ChkT, ChkN, BlkN, nf, grammarC, lrC]) (by simp [go_sem, List.take_of_length_le, ren, ren1, ren2, okr, okr1, okr2, ChkT, ChkN, BlkN, nf, grammarC, lrC])
        · have hen : e < 0 := by omega
          rw [decide_eq_false he] at hmv
          simp only [Bool.false_eq_true, if_false, Nat.add_zero] at hmv
          cases hc : clashAt g L k i with
          | true =>
            rw [hc, Bool.true_or] at hci
            refine wkdc (And.intro @he (And.intro @hen (And.intro @hn (And.intro @h0 (And.intro @h0' (And.intro @h0n (And.intro @hn' (And.intro @hi0 (@hw1))))))))) _ ?_
            refine ⟨i + 1, by omega, by omega, ?_⟩
            rw [stepi, hci]
            exact Cov.ofn (id) rfl (by simp [go_sem, List.take_of_length_le, ren, ren1, ren2, okr, okr1, okr2, ChkT, ChkN, BlkN, nf, grammarC, lrC]) (by simp [go_sem, List.take_of_length_le, ren, ren1, ren2, okr, okr1, okr2, ChkT, ChkN, BlkN, nf, grammarC, lrC])
          | false =>
            rw [hc, Bool.false_or] at hci
            by_cases hm : 1 < dl
            · have hmi : (1 : Int) < (dl : Int) := by omega
              rw [decide_eq_true (show 1 < mv by omega)] at hci
              refine wkdc (And.intro @he (And.intro @hen (And.intro @hn (And.intro @h0 (And.intro @h0' (And.intro @h0n (And.intro @hn' (And.intro @hi0 (And.intro @hw1 (And.intro @hm (@hmi))))))))))) _ ?_
              refine ⟨i + 1, by omega, by omega, ?_⟩
              rw [stepi, hci]
              exact Cov.ofn (id) rfl (by simp [go_sem, List.take_of_length_le, ren, ren1, ren2, okr, okr1, okr2, ChkT, ChkN, BlkN, nf, grammarC, lrC]) (by simp [go_sem, List.take_of_length_le, ren, ren1, ren2, okr, okr1, okr2, ChkT, ChkN, BlkN, nf, grammarC, lrC])
            · have hmi : ¬ (1 : Int) < (dl : Int) := by omega
              rw [decide_eq_false (show ¬ 1 < mv by omega)] at hci
              refine wkdc (And.intro @he (And.intro @hen (And.intro @hn (And.intro @h0 (And.intro @h0' (And.intro @h0n (And.intro @hn' (And.intro @hi0 (And.intro @hw1 (And.intro @hm (@hmi))))))))))) _ ?_
              refine ⟨i + 1, by omega, by omega, ?_⟩
              rw [stepi, hci]
              exact Cov.ofn (id) rfl (by simp [go_sem, List.take_of_length_le, ren, ren1, ren2, okr, okr1, okr2, ChkT, ChkN, BlkN, nf, grammarC, lrC]) (by simp [go_sem, List.take_of_length_le, ren, ren1, ren2, okr, okr1, okr2, ChkT, ChkN, BlkN, nf, grammarC, lrC])
    · have hie : i = (g.2.1 + 1).toNat := by simp at h; omega
      subst hie
      cases hc : clashAt g L k (g.2.1 + 1).toNat with
      | true =>
        rw [if_pos hc] at hnx
        refine wkdc (@hbb) _ ?_
        refine ⟨k + 1, by omega, by omega, ?_⟩
        rw [stepk, hnx]
        exact Cov.ofn (nm [0, 1, 5]) rfl (by simp [go_sem, List.take_of_length_le, ren, ren1, ren2, okr, okr1, okr2, ChkT, ChkN, BlkN, nf, grammarC, lrC, ints_snoc]) (by simp [go_sem, List.take_of_length_le, ren, ren1, ren2, okr, okr1, okr2, ChkT, ChkN, BlkN, nf, grammarC, lrC, ints_snoc])
      | false =>
        rw [if_neg (by rw [hc]; simp), List.append_nil] at hnx
        refine wkdc0 _ ?_
        refine ⟨k + 1, by omega, by omega, ?_⟩
        rw [stepk, hnx]
        exact Cov.ofn (id) rfl (by simp [go_sem, List.take_of_length_le, ren, ren1, ren2, okr, okr1, okr2, ChkT, ChkN, BlkN, nf, grammarC, lrC]) (by simp [go_sem, List.take_of_length_le, ren, ren1, ren2, okr, okr1, okr2, ChkT, ChkN, BlkN, nf, grammarC, lrC])
  · have hke : k = L.1.length := by simp at h; omega
    subst hke
    refine wkdc0 _ ?_
    refine OutF.mkn (xs := ?_) (nm [2]) ?_ ?_ ?_ ?_ ?_ (by first | exact .inr rfl | exact .inl rfl)
    rotate_left
    · simp [go_sem, List.take_of_length_le] <;> with_reducible rfl
    · simp [go_sem, List.take_of_length_le, ren, ren1, ren2, okr, okr1, okr2, ChkN, BlkN, List.range_succ, nf]
    · simp [go_sem, List.take_of_length_le, ren, ren1, ren2, okr, okr1, okr2, ChkN, BlkN, List.range_succ, nf]
    · simp [go_sem, List.take_of_length_le, ren, ren1, ren2, okr, okr1, okr2, ChkN, BlkN, List.range_succ, nf]
    · rfl
end Go.Proofs.YtkolhcoeifghpaaGreat.En
end
section
namespace Go.Proofs.YtkolhcoeifghpaaGreat.En
open Go.RowKit
set_option linter.unusedSimpArgs false
set_option linter.unusedVariables false
set_option maxHeartbeats 4000000
end Go.Proofs.YtkolhcoeifghpaaGreat.En
end
section
namespace Go.Proofs.YtkolhcoeifghpaaGreat.En
open Go.RowKit
set_option linter.unusedSimpArgs false
set_option linter.unusedVariables false
set_option maxHeartbeats 4000000
theorem itemss_snocD (xs : Sets3) (r : List Item3) : itemss xs ++ [[.im 3 (nodes r)]] = itemss (xs ++ [r]) := by simp [itemss, itemssC]
theorem intss_snocD (xs : List (List Int)) (r : List Int) : intss xs ++ [[.im 1 (ints r)]] = intss (xs ++ [r]) := by simp [intss, intsC]
theorem l15States (g : GrammarT) (hG : OkG g) : Pure Tryz.prog 32 [.ag (grammarC g)] (.tu [.ag [.im 1 (itemss (lrV g).1.1), .im 1 (intss (lrV g).1.2)], .v (.bool (lrV g).2)]) := by
  have hlen := hG.len
  have hlX : (gX g).2.2.length ≤ 17 := by rw [gX_len]; omega
  have cm := l15More g hG
  have c0 : Pure Tryz.prog 65 [.ag (grammarC (gX g)), .im 3 (nodes [itemN g.2.2.length 0 0])] (.im 3 (nodes (start0 g))) := l15Closed (gX g) hlX (ruleX_4 hG) [itemN g.2.2.length 0 0] (List.pairwise_singleton _ _) fun z hz => by
    rw [List.mem_singleton] at hz
    subst hz
    exact univX_item hG
  have hI0 := LrI.start hG
  generalize lrV g = V at hI0 ⊢
  refine Pure.mk (rs := [.cell 2 48, .tmp 3]) (nt := 98) Tryz.func32 (by kernel_rfl) rfl rfl rfl (by simp) ?_
  simp only [sl, grammarC]
  refine wkdc (@grammarC.eq_1) _ ?_
  first | refine GS.cc (cm) rfl rfl rfl rfl (by simp [go_sem, List.take_of_length_le, grammarC] <;> with_reducible rfl) rfl (by simp [go_sem, List.take_of_length_le, grammarC]) ?_ | refine Gd.cc (cm) rfl rfl rfl rfl (by simp [go_sem, List.take_of_length_le, grammarC] <;> with_reducible rfl) rfl (by simp [go_sem, List.take_of_length_le, grammarC]) ?_
  repeat' first | (refine Holds.condT ?_ ?_; (· (simp [go_sem, List.take_of_length_le, grammarC] <;> with_reducible rfl))) | (refine Holds.condF ?_ ?_; (· (simp [go_sem, List.take_of_length_le, grammarC] <;> with_reducible rfl))) | refine Holds.seq ?_ | refine Holds.skip ?_ | refine Holds.exit ?_ | refine Holds.ret ?_ | refine thenA_normal ?_ | refine thenA_exit ?_ | refine thenA_ret ?_ | refine inB_normal ?_ | refine inB_ret ?_ | refine inB_here ?_ | (refine inB_past ?_ ?_; (· exact rfl)) | refine Holds.reg ?_ | refine Holds.block ?_ | refine GS.nil ?_ | refine Gd.nil ?_ | (refine Holds.any mixed ?_ ?_; (· kernel_rfl)) | (refine GS.stepD 21 (s' := ?_) rfl ?_ ?_ ?_; rotate_left; (· exact rfl); (· (simp [go_sem, List.take_of_length_le, grammarC] <;> with_reducible rfl))) | (refine GS.skip ?_ ?_ ?_; (· exact rfl); (· exact rfl)) | (refine Gd.go (s' := ?_) ?_ ?_ ?_; rotate_left; (· exact rfl); (· (simp [go_sem, List.take_of_length_le, grammarC] <;> with_reducible rfl))) | (refine Gd.skip ?_ ?_ ?_; (· exact rfl); (· exact rfl)) | fail
  refine GS.frz [3] [(20, .im 3 (nodes [itemN g.2.2.length 0 0]))] (.cons rfl (Fz.all rfl rfl rfl rfl (nodes_ok _)) .nil) ?_
  first | refine GS.cc (c0) rfl rfl rfl rfl (by simp [go_sem, List.take_of_length_le, grammarC, frz] <;> with_reducible rfl) rfl (by simp [go_sem, List.take_of_length_le, grammarC, frz]) ?_ | refine Gd.cc (c0) rfl rfl rfl rfl (by simp [go_sem, List.take_of_length_le, grammarC, frz] <;> with_reducible rfl) rfl (by simp [go_sem, List.take_of_length_le, grammarC, frz]) ?_
  refine wkdc (And.intro @grammarC.eq_1 (@frz.eq_1)) _ ?_
  refine Holds.nir 5 0 1 25 1 rfl rfl rfl (by simp [go_sem]; rfl) ?_
  refine Holds.loop (ι := LrT) (fun L => ⟨[(1, .pb 0 3 0 0), (2, .pb 1 2 0 0), (4, .pb 2 3 0 0), (5, .pb 4 2 0 0), (6, .v (.int .i64 L.2.length))],
    [(5, ⟨25, 1, intss L.2⟩), (4, ⟨48, 2, [[.own 3 1 0 L.1.length, .own 5 1 0 L.2.length]]⟩), (3, ⟨94, 1, itemss L.1⟩), (2, ⟨31, 3, [grammarC (gX g)]⟩), (1, ⟨48, 2, [[.v (.slice none 0 0), .v (.slice none 0 0)]]⟩), (0, ⟨31, 3, [grammarC g]⟩)], 6⟩)
    (fun L => LrI g V L) (fun L => 61 - L.2.length) ([start0 g], []) hI0 ?_ ?_
  · exact Cov.ofn (nm [0, 1, 2, 4, 5, 6]) rfl (by simp [go_sem, List.take_of_length_le, ren, ren1, ren2, okr, okr1, okr2, ChkT, ChkN, BlkN, nf, grammarC, show intss [] = [] from rfl, itemss, itemssC]) (by simp [go_sem, List.take_of_length_le, ren, ren1, ren2, okr, okr1, okr2, ChkT, ChkN, BlkN, nf, grammarC, show intss [] = [] from rfl, itemss, itemssC])
  clear hI0 c0 cm
  rintro ⟨sts, gs⟩ hI
  have hle := hI.p.le
  have hfew := hI.few
  dsimp only at hle hfew ⊢
  have stepk : wr64 ((gs.length : Int) + 1) = ((gs.length + 1 : Nat) : Int) := wr64_id (by omega) (by omega)
  refine wkdc0 _ ?_
  refine Holds.cond rfl (fun h => ?_) (fun h => ?_)
  · have hlt : gs.length < sts.length := by simp at h; omega
    have hS : sts[gs.length]? = some sts[gs.length] := List.getElem?_eq_getElem hlt
    have hok := hI.p.ok.st _ (List.getElem_mem hlt)
    generalize sts[gs.length] = S at hS hok
    have hmany := fun h => hI.many hS h
    have hnext := fun h => hI.next hG hS h
    have hstok := hI.p.ok
    dsimp only at hmany hnext hstok
    have hn0 := hG.n0
    have hn1 := hG.n1
    have ht0 := hG.t0
    have ht1 := hG.t1
    have hwneg : wr64 (-g.2.1) = -g.2.1 := wr64_id (by omega) (by omega)
    have hsl := symsX_len hG
    refine wkdc (And.intro @hwneg (@grammarC.eq_1)) _ ?_
    refine Holds.niw 7 3 1 rfl ?_
    refine Holds.loop (ι := Nat × RowS) (fun i => ⟨[(1, .pb 0 3 0 0), (2, .pb 1 2 0 0), (4, .pb 2 3 0 0), (5, .pb 4 2 0 0), (6, .v (.int .i64 gs.length)), (7, .own 6 1 0 i.2.2.length), (8, .v (.int .i64 ((i.1 : Int) - g.2.1)))],
      [(6, ⟨3, 1, ints i.2.2⟩), (5, ⟨25, 1, intss gs⟩), (4, ⟨48, 2, [[.own 3 1 0 i.2.1.length, .own 5 1 0 gs.length]]⟩), (3, ⟨94, 1, itemss i.2.1⟩), (2, ⟨31, 3, [grammarC (gX g)]⟩), (1, ⟨48, 2, [[.v (.slice none 0 0), .v (.slice none 0 0)]]⟩), (0, ⟨31, 3, [grammarC g]⟩)], 7⟩)
      (fun i => i.1 ≤ (symsX g).length ∧ StsOk g i.2.1 ∧ i.2.1[gs.length]? = some S ∧ i.2.1.length ≤ 60 + i.1 ∧ i.2.2.length = i.1 ∧ rowR g S ((symsX g).drop i.1) i.2 = rowR g S (symsX g) (sts, [])) (fun i => (symsX g).length - i.1) (0, (sts, [])) ⟨Nat.zero_le _, hstok, hS, by dsimp only; omega, rfl, rfl⟩ ?_ ?_
    · exact Cov.ofn (id) rfl (by simp [go_sem, List.take_of_length_le, ren, ren1, ren2, okr, okr1, okr2, ChkT, ChkN, BlkN, nf, niw, grammarC, show ints [] = [] from rfl]) (by simp [go_sem, List.take_of_length_le, ren, ren1, ren2, okr, okr1, okr2, ChkT, ChkN, BlkN, nf, niw, grammarC, show ints [] = [] from rfl])
    generalize hR : rowR g S (symsX g) (sts, []) = R at hmany hnext
    clear hI hS hstok hfew hle hlt h hR
    rintro ⟨i, sts, row⟩ ⟨hi, hstok, hS, hfew, hrl, hrun⟩
    dsimp only at hi hstok hS hfew hrl hrun ⊢
    have hlt := (List.getElem?_eq_some_iff.1 hS).1
    have stepx : wr64 ((i : Int) - g.2.1 + 1) = ((i + 1 : Nat) : Int) - g.2.1 := by rw [wr64_id (by omega) (by omega)]; omega
    refine wkdc (@grammarC.eq_1) _ ?_
    refine Holds.cond rfl (fun h => ?_) (fun h => ?_)
    · have hil : i < (symsX g).length := by simp at h; omega
      have hx := symsX_at hil
      have hdr : (symsX g).drop i = ((i : Int) - g.2.1) :: (symsX g).drop (i + 1) := by
        rw [List.drop_eq_getElem_cons hil]
        congr 1
        have := List.getElem?_eq_getElem hil
        rw [hx] at this
        exact (Option.some.inj this).symm
      rw [hdr] at hrun
      change rowR g S ((symsX g).drop (i + 1)) (stepR g S (sts, row) ((i : Int) - g.2.1)) = R at hrun
      have cg := l15Goto (gX g) hlX (ruleX_4 hG) S hok.1 hok.2.2.1 hok.2.2.2 ((i : Int) - g.2.1)
      have hok2 := hstok.step hG (s := (sts, row)) S ((i : Int) - g.2.1)
      have hsd : stepR g S (sts, row) ((i : Int) - g.2.1) = if gotoX (gX g) S ((i : Int) - g.2.1) = [] then (sts, row ++ [-1]) else if plX sts (gotoX (gX g) S ((i : Int) - g.2.1)) = -1 then (sts ++ [gotoX (gX g) S ((i : Int) - g.2.1)], row ++ [(sts.length : Int)]) else (sts, row ++ [plX sts (gotoX (gX g) S ((i : Int) - g.2.1))]) := rfl
      have hpl := plX_cases hstok.nd (gotoX (gX g) S ((i : Int) - g.2.1))
      generalize stepR g S (sts, row) ((i : Int) - g.2.1) = s2 at hrun hok2 hsd
      generalize gotoX (gX g) S ((i : Int) - g.2.1) = to at cg hsd hpl
      have hbr : (row.length + 1) * 8 ≤ 140737488355328 := by omega
      have hbs : (sts.length + 1) * 24 ≤ 140737488355328 := by omega
      refine wkdsc (And.intro @hlt (And.intro @hS (And.intro (@get_E _ _ _ _ hS) (And.intro @itemssC.eq_1 (@grammarC.eq_1))))) _ ?_
      (refine Holds.any mixed ?_ ?_; (· kernel_rfl))
      refine wkdsc (And.intro @hlt (And.intro @hS (And.intro (@get_E _ _ _ _ hS) (And.intro @itemssC.eq_1 (@grammarC.eq_1))))) _ ?_
      first | refine GS.cc (cg) rfl rfl rfl rfl (by simp [go_sem, List.take_of_length_le, grammarC] <;> with_reducible rfl) rfl (by simp [go_sem, List.take_of_length_le, grammarC]) ?_ | refine Gd.cc (cg) rfl rfl rfl rfl (by simp [go_sem, List.take_of_length_le, grammarC] <;> with_reducible rfl) rfl (by simp [go_sem, List.take_of_length_le, grammarC]) ?_
      refine wkdc (@grammarC.eq_1) _ ?_
      refine Holds.loop (ι := Nat) (fun j => ⟨[(1, .pb 0 3 0 0), (2, .pb 1 2 0 0), (4, .pb 2 3 0 0), (5, .pb 4 2 0 0), (6, .v (.int .i64 gs.length)), (7, .own 6 1 0 row.length), (8, .v (.int .i64 ((i : Int) - g.2.1))), (9, .im 3 (nodes to)), (10, .v (.int .i64 (if to ∈ sts.take j then plX sts to else -1))), (49, .own 3 1 0 sts.length), (50, .v (.int .i64 sts.length)), (51, .v (.int .i64 j))],
        [(6, ⟨3, 1, ints row⟩), (5, ⟨25, 1, intss gs⟩), (4, ⟨48, 2, [[.own 3 1 0 sts.length, .own 5 1 0 gs.length]]⟩), (3, ⟨94, 1, itemss sts⟩), (2, ⟨31, 3, [grammarC (gX g)]⟩), (1, ⟨48, 2, [[.v (.slice none 0 0), .v (.slice none 0 0)]]⟩), (0, ⟨31, 3, [grammarC g]⟩)], 7⟩)
        (fun j => j ≤ sts.length) (fun j => sts.length - j) 0 (Nat.zero_le _) ?_ ?_
      · exact Cov.ofn (id) rfl (by simp [go_sem, List.take_of_length_le, ren, ren1, ren2, okr, okr1, okr2, ChkT, ChkN, BlkN, nf, grammarC]) (by simp [go_sem, List.take_of_length_le, ren, ren1, ren2, okr, okr1, okr2, ChkT, ChkN, BlkN, nf, grammarC])
      · intro j hj
        have stepj : wr64 ((j : Int) + 1) = ((j + 1 : Nat) : Int) := wr64_id (by omega) (by omega)
        refine wkdc0 _ ?_
        refine Holds.cond rfl (fun h => ?_) (fun h => ?_)
        · have hjl : j < sts.length := by simp at h; omega
          have hl : sts[j]? = some sts[j] := List.getElem?_eq_getElem hjl
          have hlo := hstok.st _ (List.getElem_mem hjl)
          generalize sts[j] = l at hl hlo
          have htk : sts.take (j + 1) = sts.take j ++ [l] := by rw [List.take_add_one, hl]; rfl
          have cs := l15SameItems l to (by have := hlo.2.2.2; omega)
          by_cases he : l = to
          · have hat : (if to ∈ sts.take (j + 1) then plX sts to else -1) = (j : Int) := by
              rw [if_pos (by rw [htk, he]; simp)]
              rcases hpl with ⟨h1, _⟩ | ⟨i2, h1, h2, h3⟩
              · exact absurd (by rw [← he]; exact List.mem_of_getElem? hl) h1
              · rw [h3]
                have : i2 = j := by
                  obtain ⟨_, e1⟩ := List.getElem?_eq_some_iff.1 h2
                  obtain ⟨_, e2⟩ := List.getElem?_eq_some_iff.1 hl
                  exact (List.getElem_inj hstok.nd).1 (by rw [e1, e2, he])
                rw [this]
            have hne : to ≠ [] := by rw [← he]; exact hlo.2.1
            rw [decide_eq_true he] at cs
            have hpos : (0 : Int) < (to.length : Int) := by have := List.length_pos_iff.2 hne; omega
            have hpos2 : 0 < to.length := by omega
            refine wkdc (And.intro @hl (And.intro (@get_E _ _ _ _ hl) (And.intro @hjl (And.intro @hpos (And.intro @hpos2 (And.intro @hne (@itemssC.eq_1))))))) _ ?_
            first | refine GS.cc (cs) rfl rfl rfl rfl (by simp [go_sem, List.take_of_length_le] <;> with_reducible rfl) rfl (by simp [go_sem, List.take_of_length_le]) ?_ | refine Gd.cc (cs) rfl rfl rfl rfl (by simp [go_sem, List.take_of_length_le] <;> with_reducible rfl) rfl (by simp [go_sem, List.take_of_length_le]) ?_
            refine wkdc0 _ ?_
            refine ⟨j + 1, by omega, by omega, ?_⟩
            rw [stepj, hat]
            exact Cov.ofn (id) rfl (by simp [go_sem, List.take_of_length_le, ren, ren1, ren2, okr, okr1, okr2, ChkT, ChkN, BlkN, nf, grammarC]) (by simp [go_sem, List.take_of_length_le, ren, ren1, ren2, okr, okr1, okr2, ChkT, ChkN, BlkN, nf, grammarC])
          · have hat : (if to ∈ sts.take (j + 1) then plX sts to else -1) = (if to ∈ sts.take j then plX sts to else -1) := by
              have : to ∈ sts.take (j + 1) ↔ to ∈ sts.take j := by
                rw [htk, List.mem_append, List.mem_singleton]
                exact ⟨fun h => h.elim id fun e => absurd e.symm he, .inl⟩
              simp only [this]
            generalize (if to ∈ sts.take j then plX sts to else -1) = at_ at hat ⊢
            rw [decide_eq_false he] at cs
            by_cases hne : to = []
            · have hpos : ¬ (0 : Int) < (to.length : Int) := by rw [hne]; simp
              have hpos2 : to.length = 0 := by rw [hne]; rfl
              refine wkdc (And.intro @hl (And.intro (@get_E _ _ _ _ hl) (And.intro @hjl (And.intro @hpos (And.intro @hpos2 (@itemssC.eq_1)))))) _ ?_
              refine ⟨j + 1, by omega, by omega, ?_⟩
              rw [stepj, hat]
              exact Cov.ofn (id) rfl (by simp [go_sem, List.take_of_length_le, ren, ren1, ren2, okr, okr1, okr2, ChkT, ChkN, BlkN, nf, grammarC]) (by simp [go_sem, List.take_of_length_le, ren, ren1, ren2, okr, okr1, okr2, ChkT, ChkN, BlkN, nf, grammarC])
            · have hpos : (0 : Int) < (to.length : Int) := by have := List.length_pos_iff.2 hne; omega
              have hpos2 : 0 < to.length := by omega
              refine wkdc (And.intro @hl (And.intro (@get_E _ _ _ _ hl) (And.intro @hjl (And.intro @hpos (And.intro @hpos2 (And.intro @hne (@itemssC.eq_1))))))) _ ?_
              first | refine GS.cc (cs) rfl rfl rfl rfl (by simp [go_sem, List.take_of_length_le] <;> with_reducible rfl) rfl (by simp [go_sem, List.take_of_length_le]) ?_ | refine Gd.cc (cs) rfl rfl rfl rfl (by simp [go_sem, List.take_of_length_le] <;> with_reducible rfl) rfl (by simp [go_sem, List.take_of_length_le]) ?_
              refine wkdc0 _ ?_
              refine ⟨j + 1, by omega, by omega, ?_⟩
              rw [stepj, hat]
              exact Cov.ofn (id) rfl (by simp [go_sem, List.take_of_length_le, ren, ren1, ren2, okr, okr1, okr2, ChkT, ChkN, BlkN, nf, grammarC]) (by simp [go_sem, List.take_of_length_le, ren, ren1, ren2, okr, okr1, okr2, ChkT, ChkN, BlkN, nf, grammarC])
        · have hje : j = sts.length := by simp at h; omega
          subst hje
          have hat : (if to ∈ sts.take sts.length then plX sts to else -1) = plX sts to := by
            rw [List.take_length]
            split
            · rfl
            · rename_i hn
              rcases hpl with ⟨_, h1⟩ | ⟨i2, _, h2, _⟩
              · exact h1.symm
              · exact absurd (List.mem_of_getElem? h2) hn
          rw [hat]
          by_cases hne : to = []
          · have hpos : ¬ (0 : Int) < (to.length : Int) := by rw [hne]; simp
            have hpos2 : to.length = 0 := by rw [hne]; rfl
            have hm1 : plX sts to = -1 := by
              rcases hpl with ⟨_, h1⟩ | ⟨i2, _, h2, _⟩
              · exact h1
              · exact absurd hne (hstok.st _ (List.mem_of_getElem? h2)).2.1
            rw [if_pos hne] at hsd
            subst hsd
            rw [hm1]
            refine wkdc (And.intro @hpos (And.intro @hpos2 (@hbr))) _ ?_
            refine ⟨(i + 1, (sts, row ++ [-1])), ⟨by dsimp only; omega, hok2, hS, by dsimp only; omega, by simp [hrl], hrun⟩, by dsimp only; omega, ?_⟩
            rw [stepx]
            exact Cov.ofn (nm [0, 1, 2, 3, 4, 5, 9]) rfl (by simp [go_sem, List.take_of_length_le, ren, ren1, ren2, okr, okr1, okr2, ChkT, ChkN, BlkN, nf, grammarC, ints_snoc]) (by simp [go_sem, List.take_of_length_le, ren, ren1, ren2, okr, okr1, okr2, ChkT, ChkN, BlkN, nf, grammarC, ints_snoc])
          · have hpos : (0 : Int) < (to.length : Int) := by have := List.length_pos_iff.2 hne; omega
            have hpos2 : 0 < to.length := by omega
            rw [if_neg hne] at hsd
            rcases hpl with ⟨_, hm1⟩ | ⟨i2, h1, h2, h3⟩
            · rw [if_pos hm1] at hsd
              subst hsd
              rw [hm1]
              refine wkdc (And.intro @hpos (And.intro @hpos2 (And.intro @hne (And.intro @hbr (@hbs))))) _ ?_
              refine ⟨(i + 1, (sts ++ [to], row ++ [(sts.length : Int)])), ⟨by dsimp only; omega, hok2, by dsimp only; rw [List.getElem?_append_left hlt]; exact hS, by simp; omega, by simp [hrl], hrun⟩, by dsimp only; omega, ?_⟩
              rw [stepx]
              exact Cov.ofn (nm [0, 1, 2, 9, 4, 5, 12]) rfl (by simp [go_sem, List.take_of_length_le, ren, ren1, ren2, okr, okr1, okr2, ChkT, ChkN, BlkN, nf, grammarC, ints_snoc, itemss_snocD]) (by simp [go_sem, List.take_of_length_le, ren, ren1, ren2, okr, okr1, okr2, ChkT, ChkN, BlkN, nf, grammarC, ints_snoc, itemss_snocD])
            · have hm2 : ¬ plX sts to = -1 := by omega
              have hm3 : ¬ (i2 : Int) < 0 := by omega
              rw [if_neg hm2, h3] at hsd
              subst hsd
              rw [h3]
              refine wkdc (And.intro @hpos (And.intro @hpos2 (And.intro @hne (And.intro @hbr (@hm3))))) _ ?_
              refine ⟨(i + 1, (sts, row ++ [(i2 : Int)])), ⟨by dsimp only; omega, hok2, hS, by dsimp only; omega, by simp [hrl], hrun⟩, by dsimp only; omega, ?_⟩
              rw [stepx]
              exact Cov.ofn (nm [0, 1, 2, 3, 4, 5, 9]) rfl (by simp [go_sem, List.take_of_length_le, ren, ren1, ren2, okr, okr1, okr2, ChkT, ChkN, BlkN, nf, grammarC, ints_snoc]) (by simp [go_sem, List.take_of_length_le, ren, ren1, ren2, okr, okr1, okr2, ChkT, ChkN, BlkN, nf, grammarC, ints_snoc])
    · have hie : i = (symsX g).length := by simp at h; omega
      subst hie
      rw [List.drop_length] at hrun
      change (sts, row) = R at hrun
      subst hrun
      dsimp only at hmany hnext
      have hbg : (gs.length + 1) * 24 ≤ 140737488355328 := by omega
      refine Holds.frz [6] [(7, .im 1 (ints row))] (.cons rfl (Fz.all rfl rfl (by simp) rfl (ints_cl _)) .nil) ?_
      by_cases h60 : 60 < sts.length
      · rw [hmany h60]
        have h60i : (60 : Int) < (sts.length : Int) := by omega
        refine wkdc (And.intro @frz.eq_1 (And.intro @hbg (And.intro @h60 (@h60i)))) _ ?_
        refine Out.mk (xs := ?_) ?_ ?_ (by first | exact .inr rfl | exact .inl rfl)
        rotate_left
        · simp [go_sem, List.take_of_length_le] <;> with_reducible rfl
        exact Fz.tuL (.cons (Fz.agL (.cons (Fz.nl _) (.cons (Fz.nl _) .nil))) (.cons (.v _) .nil))
      · have h60i : ¬ (60 : Int) < (sts.length : Int) := by omega
        refine wkdc (And.intro @frz.eq_1 (And.intro @hbg (And.intro @h60 (@h60i)))) _ ?_
        refine ⟨(sts, gs ++ [row]), hnext h60, by dsimp only; rw [List.length_append, List.length_singleton]; omega, ?_⟩
        rw [stepk]
        exact Cov.ofn (nm [0, 1, 2, 3, 4, 9]) rfl (by simp [go_sem, List.take_of_length_le, ren, ren1, ren2, okr, okr1, okr2, ChkT, ChkN, BlkN, nf, grammarC, intss_snocD]) (by simp [go_sem, List.take_of_length_le, ren, ren1, ren2, okr, okr1, okr2, ChkT, ChkN, BlkN, nf, grammarC, intss_snocD])
  · rw [hI.end_ (by dsimp only; simp at h; omega)]
    refine wkdc0 _ ?_
    refine Out.mk (xs := ?_) ?_ ?_ (by first | exact .inr rfl | exact .inl rfl)
    rotate_left
    · simp [go_sem, List.take_of_length_le] <;> with_reducible rfl
    exact Fz.tuL (.cons (Fz.agL (.cons (Fz.all rfl rfl (by simp) rfl (itemss_ok _)) (.cons (Fz.all rfl rfl (by simp) rfl (intss_ok _)) .nil))) (.cons (.v _) .nil))
end Go.Proofs.YtkolhcoeifghpaaGreat.En
end
section
namespace Go.Proofs.YtkolhcoeifghpaaGreat.En
open Go.RowKit
set_option linter.unusedSimpArgs false
set_option linter.unusedVariables false
set_option maxHeartbeats 4000000
noncomputable def statesX (g : GrammarT) : LrT × Bool := if goodG g = true then lrV g else (([], []), false)
theorem specStates (g : GrammarT) (hx : g.2.2.length < 4611686018427387904) (hs : ∀ e ∈ g.2.2, e.2.length < 4611686018427387904) : Pure Tryz.prog 60 [.ag (grammarC g)] (.tu [.ag (lrC (statesX g).1), .v (.bool (statesX g).2)]) := by
  have cg := specGoodG g hx hs
  unfold statesX
  refine Pure.mk (rs := [.cell 2 48, .tmp 3]) (nt := 12) Tryz.func60 (by kernel_rfl) rfl rfl rfl (by simp) ?_
  simp only [sl, grammarC]
  refine wkc0 _ ?_
  cases hg : goodG g with
  | false =>
    rw [hg] at cg
    simp only [Bool.false_eq_true, if_false]
    refine GS.cc (cg) rfl rfl rfl rfl (by simp [go_sem, List.take_of_length_le, grammarC] <;> with_reducible rfl) rfl (by simp [go_sem, List.take_of_length_le, grammarC]) ?_
    refine wkc0 _ ?_
    refine Out.mk (xs := ?_) ?_ ?_ (by first | exact .inr rfl | exact .inl rfl)
    rotate_left
    · simp [go_sem, List.take_of_length_le] <;> with_reducible rfl
    exact Fz.tuL (.cons (Fz.agL (.cons (Fz.nl _) (.cons (Fz.nl _) .nil))) (.cons (.v _) .nil))
  | true =>
    rw [hg] at cg
    simp only [if_true]
    have cl := l15States g (goodG_ok hg)
    refine GS.cc (cg) rfl rfl rfl rfl (by simp [go_sem, List.take_of_length_le, grammarC] <;> with_reducible rfl) rfl (by simp [go_sem, List.take_of_length_le, grammarC]) ?_
    refine wkc (@grammarC.eq_1) _ ?_
    generalize lrV g = V at cl ⊢
    refine GS.cc (cl) rfl rfl rfl rfl (by simp [go_sem, List.take_of_length_le, grammarC] <;> with_reducible rfl) rfl (by simp [go_sem, List.take_of_length_le, grammarC]) ?_
    refine wkc0 _ ?_
    refine Out.mk (xs := ?_) ?_ ?_ (by first | exact .inr rfl | exact .inl rfl)
    rotate_left
    · simp [go_sem, List.take_of_length_le] <;> with_reducible rfl
    exact Fz.tuL (.cons (Fz.agL (.cons (.im _ _) (.cons (.im _ _) .nil))) (.cons (.v _) .nil))
end Go.Proofs.YtkolhcoeifghpaaGreat.En
end
section
namespace Go.Proofs.YtkolhcoeifghpaaGreat.En
open Go.RowKit
set_option linter.unusedSimpArgs false
set_option linter.unusedVariables false
set_option maxHeartbeats 4000000
noncomputable def behV (g : GrammarT) : Bool × Bool := if (goodG g && (lrV g).2) = true then (decide ((lrClash g (lrV g).1 (lrV g).1.1.length).length = 0), true) else (false, false)
theorem specBeh (g : GrammarT) (hx : g.2.2.length < 4611686018427387904) (hs : ∀ e ∈ g.2.2, e.2.length < 4611686018427387904) : Pure Tryz.prog 26 [.ag (grammarC g)] (.tu [.v (.bool (behV g).1), .v (.bool (behV g).2)]) := by
  have cs := specStates g hx hs
  unfold behV
  refine Pure.mk (rs := [.tmp 2, .tmp 3]) (nt := 18) Tryz.func26 (by kernel_rfl) rfl rfl rfl (by simp) ?_
  simp only [sl, grammarC]
  refine wkc (@grammarC.eq_1) _ ?_
  cases hg : goodG g with
  | false =>
    rw [show statesX g = (([], []), false) by rw [statesX, if_neg (by rw [hg]; simp)]] at cs
    simp only [Bool.false_and, Bool.false_eq_true, if_false]
    refine GS.cc (cs) rfl rfl rfl rfl (by simp [go_sem, List.take_of_length_le, grammarC] <;> with_reducible rfl) rfl (by simp [go_sem, List.take_of_length_le, grammarC]) ?_
    refine wkc (@lrC.eq_1) _ ?_
    refine Out.mk (xs := ?_) ?_ ?_ (by first | exact .inr rfl | exact .inl rfl)
    rotate_left
    · simp [go_sem, List.take_of_length_le] <;> with_reducible rfl
    exact Fz.cl rfl
  | true =>
    have hG := goodG_ok hg
    rw [show statesX g = lrV g by rw [statesX, if_pos hg]] at cs
    rw [Bool.true_and]
    cases hv : (lrV g).2 with
    | false =>
      rw [hv] at cs
      simp only [Bool.false_eq_true, if_false]
      generalize (lrV g).1 = L at cs
      refine GS.cc (cs) rfl rfl rfl rfl (by simp [go_sem, List.take_of_length_le, grammarC] <;> with_reducible rfl) rfl (by simp [go_sem, List.take_of_length_le, grammarC]) ?_
      refine wkc (@lrC.eq_1) _ ?_
      refine Out.mk (xs := ?_) ?_ ?_ (by first | exact .inr rfl | exact .inl rfl)
      rotate_left
      · simp [go_sem, List.take_of_length_le] <;> with_reducible rfl
      exact Fz.cl rfl
    | true =>
      rw [hv] at cs
      obtain ⟨h1, h2, h3⟩ := lrV_ok hG hv
      have hL : LrG g (lrV g).1 := ⟨h1, h2, h3⟩
      simp only [if_true]
      clear h1 h2 h3 hv
      generalize (lrV g).1 = L at cs hL ⊢
      have cl := l15Clashes g hG L hL
      generalize lrClash g L L.1.length = C at cl ⊢
      refine GS.cc (cs) rfl rfl rfl rfl (by simp [go_sem, List.take_of_length_le, grammarC] <;> with_reducible rfl) rfl (by simp [go_sem, List.take_of_length_le, grammarC]) ?_
      refine wkc (And.intro @grammarC.eq_1 (@lrC.eq_1)) _ ?_
      refine GS.cc (cl) rfl rfl rfl rfl (by simp [go_sem, List.take_of_length_le, grammarC, lrC] <;> with_reducible rfl) rfl (by simp [go_sem, List.take_of_length_le, grammarC, lrC]) ?_
      by_cases hC : C.length = 0
      · have hCi : ((C.length : Int) == 0) = true := by simp [hC]
        rw [decide_eq_true hC]
        refine wkc (And.intro @hCi (@hC)) _ ?_
        refine Out.mk (xs := ?_) ?_ ?_ (by first | exact .inr rfl | exact .inl rfl)
        rotate_left
        · simp [go_sem, List.take_of_length_le] <;> with_reducible rfl
        exact Fz.cl rfl
      · have hCi : ((C.length : Int) == 0) = false := by rw [beq_eq_false_iff_ne]; omega
        have hCn : ¬ C = [] := by rintro rfl; exact hC rfl
        rw [decide_eq_false hC]
        refine wkc (And.intro @hCi (And.intro @hC (@hCn))) _ ?_
        refine Out.mk (xs := ?_) ?_ ?_ (by first | exact .inr rfl | exact .inl rfl)
        rotate_left
        · simp [go_sem, List.take_of_length_le] <;> with_reducible rfl
        exact Fz.cl rfl
theorem implBeh (g : GrammarT) (hx : g.2.2.length < 4611686018427387904) (hs : ∀ e ∈ g.2.2, e.2.length < 4611686018427387904) : Pure Tryz.prog 27 [.ag (grammarC g)] (.tu [.v (.bool (behV g).1), .v (.bool (behV g).2)]) := by
  have cg := implGoodG g hx hs
  unfold behV
  refine Pure.mk (rs := [.tmp 2, .tmp 3]) (nt := 21) Tryz.func27 (by kernel_rfl) rfl rfl rfl (by simp) ?_
  simp only [sl, grammarC]
  refine wkc (@grammarC.eq_1) _ ?_
  cases hg : goodG g with
  | false =>
    rw [hg] at cg
    simp only [Bool.false_and, Bool.false_eq_true, if_false]
    refine GS.cc (cg) rfl rfl rfl rfl (by simp [go_sem, List.take_of_length_le, grammarC] <;> with_reducible rfl) rfl (by simp [go_sem, List.take_of_length_le, grammarC]) ?_
    refine wkc0 _ ?_
    refine Out.mk (xs := ?_) ?_ ?_ (by first | exact .inr rfl | exact .inl rfl)
    rotate_left
    · simp [go_sem, List.take_of_length_le] <;> with_reducible rfl
    exact Fz.cl rfl
  | true =>
    rw [hg] at cg
    have hG := goodG_ok hg
    have cs := statesG g hG
    rw [Bool.true_and]
    refine GS.cc (cg) rfl rfl rfl rfl (by simp [go_sem, List.take_of_length_le, grammarC] <;> with_reducible rfl) rfl (by simp [go_sem, List.take_of_length_le, grammarC]) ?_
    cases hv : (lrV g).2 with
    | false =>
      rw [hv] at cs
      simp only [Bool.false_eq_true, if_false]
      generalize (lrV g).1 = L at cs
      refine wkc (@grammarC.eq_1) _ ?_
      refine GS.fnn [] (cs) rfl rfl rfl rfl (by simp [go_sem, List.take_of_length_le, ren, ren1, ren2, okr, okr1, okr2, ChkN, BlkN, List.range_succ, nf, grammarC] <;> with_reducible rfl) (by simp [go_sem, List.take_of_length_le, ren, ren1, ren2, okr, okr1, okr2, ChkN, BlkN, List.range_succ, nf, grammarC]) (by simp [go_sem, List.take_of_length_le, ren, ren1, ren2, okr, okr1, okr2, ChkN, BlkN, List.range_succ, nf, grammarC]) (by simp [List.range_succ, lb]) (ChkN.toB (by simp [go_sem, List.take_of_length_le, ren, ren1, ren2, okr, okr1, okr2, ChkN, BlkN, List.range_succ, nf, grammarC])) (by decide) (by simp) rfl (.nfr (by simp) (.nfr (by simp) .nil)) (by simp [go_sem, List.take_of_length_le, ren, ren1, ren2, okr, okr1, okr2, ChkN, BlkN, List.range_succ, nf, grammarC] <;> with_reducible rfl) ?_
      refine wkc0 _ ?_
      refine Out.mk (xs := ?_) ?_ ?_ (by first | exact .inr rfl | exact .inl rfl)
      rotate_left
      · simp [go_sem, List.take_of_length_le] <;> with_reducible rfl
      exact Fz.cl rfl
    | true =>
      rw [hv] at cs
      obtain ⟨h1, h2, h3⟩ := lrV_ok hG hv
      have hL : LrG g (lrV g).1 := ⟨h1, h2, h3⟩
      simp only [if_true]
      clear h1 h2 h3 hv
      generalize (lrV g).1 = L at cs hL ⊢
      have cl := lrClashesG g hG L hL
      generalize lrClash g L L.1.length = C at cl ⊢
      refine wkc (@grammarC.eq_1) _ ?_
      refine GS.fnn [] (cs) rfl rfl rfl rfl (by simp [go_sem, List.take_of_length_le, ren, ren1, ren2, okr, okr1, okr2, ChkN, BlkN, List.range_succ, nf, grammarC] <;> with_reducible rfl) (by simp [go_sem, List.take_of_length_le, ren, ren1, ren2, okr, okr1, okr2, ChkN, BlkN, List.range_succ, nf, grammarC]) (by simp [go_sem, List.take_of_length_le, ren, ren1, ren2, okr, okr1, okr2, ChkN, BlkN, List.range_succ, nf, grammarC]) (by simp [List.range_succ, lb]) (ChkN.toB (by simp [go_sem, List.take_of_length_le, ren, ren1, ren2, okr, okr1, okr2, ChkN, BlkN, List.range_succ, nf, grammarC])) (by decide) (by simp) rfl (.nfr (by simp) (.nfr (by simp) .nil)) (by simp [go_sem, List.take_of_length_le, ren, ren1, ren2, okr, okr1, okr2, ChkN, BlkN, List.range_succ, nf, grammarC] <;> with_reducible rfl) ?_
      repeat' first | (refine Holds.condT ?_ ?_; (· (simp [go_sem, List.take_of_length_le, grammarC] <;> with_reducible rfl))) | (refine Holds.condF ?_ ?_; (· (simp [go_sem, List.take_of_length_le, grammarC] <;> with_reducible rfl))) | refine Holds.seq ?_ | refine Holds.skip ?_ | refine Holds.exit ?_ | refine Holds.ret ?_ | refine thenA_normal ?_ | refine thenA_exit ?_ | refine thenA_ret ?_ | refine inB_normal ?_ | refine inB_ret ?_ | refine inB_here ?_ | (refine inB_past ?_ ?_; (· exact rfl)) | refine Holds.reg ?_ | refine Holds.block ?_ | refine GS.nil ?_ | (refine GS.stepD 16 (s' := ?_) rfl ?_ ?_ ?_; rotate_left; (· exact rfl); (· (simp [go_sem, List.take_of_length_le, grammarC] <;> with_reducible rfl))) | (refine GS.skip ?_ ?_ ?_; (· exact rfl); (· exact rfl)) | fail
      refine GS.frz [1, 2, 3] [(4, .pi (lrC L))] (.cons rfl (Fz.pbM rfl rfl rfl (.cons (fz_itemssD _ rfl rfl) (.cons (fz_intssO _ rfl rfl) .nil))) .nil) ?_
      refine wkc (And.intro @frz.eq_1 (And.intro @grammarC.eq_1 (@lrC.eq_1))) _ ?_
      refine GS.fnn [] (cl) rfl rfl rfl rfl (by simp [go_sem, List.take_of_length_le, ren, ren1, ren2, okr, okr1, okr2, ChkN, BlkN, List.range_succ, nf, grammarC, lrC] <;> with_reducible rfl) (by simp [go_sem, List.take_of_length_le, ren, ren1, ren2, okr, okr1, okr2, ChkN, BlkN, List.range_succ, nf, grammarC, lrC]) (by simp [go_sem, List.take_of_length_le, ren, ren1, ren2, okr, okr1, okr2, ChkN, BlkN, List.range_succ, nf, grammarC, lrC]) (by simp [List.range_succ, lb]) (ChkN.toB (by simp [go_sem, List.take_of_length_le, ren, ren1, ren2, okr, okr1, okr2, ChkN, BlkN, List.range_succ, nf, grammarC, lrC])) (by decide) (by simp) rfl (.nfr (by simp) .nil) (by simp [go_sem, List.take_of_length_le, ren, ren1, ren2, okr, okr1, okr2, ChkN, BlkN, List.range_succ, nf, grammarC, lrC] <;> with_reducible rfl) ?_
      by_cases hC : C.length = 0
      · have hCi : ((C.length : Int) == 0) = true := by simp [hC]
        rw [decide_eq_true hC]
        refine wkc (And.intro @hCi (@hC)) _ ?_
        refine Out.mk (xs := ?_) ?_ ?_ (by first | exact .inr rfl | exact .inl rfl)
        rotate_left
        · simp [go_sem, List.take_of_length_le] <;> with_reducible rfl
        exact Fz.cl rfl
      · have hCi : ((C.length : Int) == 0) = false := by rw [beq_eq_false_iff_ne]; omega
        have hCn : ¬ C = [] := by rintro rfl; exact hC rfl
        rw [decide_eq_false hC]
        refine wkc (And.intro @hCi (And.intro @hC (@hCn))) _ ?_
        refine Out.mk (xs := ?_) ?_ ?_ (by first | exact .inr rfl | exact .inl rfl)
        rotate_left
        · simp [go_sem, List.take_of_length_le] <;> with_reducible rfl
        exact Fz.cl rfl
end Go.Proofs.YtkolhcoeifghpaaGreat.En
end
section
namespace Go.Proofs.YtkolhcoeifghpaaGreat.En
open Go.RowKit
set_option linter.unusedSimpArgs false
set_option linter.unusedVariables false
set_option maxHeartbeats 4000000
theorem lawBeh (g : GrammarT) (hxg : g.2.2.length < 8796093022208) (hsg : ∀ e ∈ g.2.2, e.2.length < 35184372088832) : Pure Tryz.prog 6 [.ag (grammarC g)] (.v (.bool true)) := by
  refine Pure.mk (rs := [.tmp 2]) (nt := 40) Tryz.func6 (by kernel_rfl) rfl rfl rfl (by simp) ?_
  simp only [sl, grammarC]
  have hsg' : ∀ e ∈ g.2.2, e.2.length < 4611686018427387904 := fun e he => by have := hsg e he; omega
  have czg := szGrammar g 1048576 (by omega) (by omega) hxg hsg
  have ctg := toGrammar g hxg hsg
  have ceg := eqGrammar g g hxg hsg
  have p1 := specBeh g (by omega) hsg'
  have p2 := implBeh g (by omega) hsg'
  try simp only [decide_true] at ceg
  generalize behV g = v at p1 p2
  refine wkd0 _ ?_
  first | refine GS.cc (czg) rfl rfl rfl rfl (by simp [go_sem, List.take_of_length_le, grammarC] <;> with_reducible rfl) rfl (by simp [go_sem, List.take_of_length_le, grammarC]) ?_ | refine Gd.cc (czg) rfl rfl rfl rfl (by simp [go_sem, List.take_of_length_le, grammarC] <;> with_reducible rfl) rfl (by simp [go_sem, List.take_of_length_le, grammarC]) ?_
  refine wkd0 _ ?_
  refine Holds.cond rfl (fun h => ?_) (fun h => ?_)
  · refine wkd0 _ ?_
    refine Out.mk (xs := ?_) ?_ ?_ (by first | exact .inr rfl | exact .inl rfl)
    rotate_left
    · simp [go_sem, List.take_of_length_le] <;> with_reducible rfl
    exact .v _
  refine wkd (@grammarC.eq_1) _ ?_
  first | refine GS.cc (ctg) rfl rfl rfl rfl (by simp [go_sem, List.take_of_length_le, grammarC] <;> with_reducible rfl) rfl (by simp [go_sem, List.take_of_length_le, grammarC]) ?_ | refine Gd.cc (ctg) rfl rfl rfl rfl (by simp [go_sem, List.take_of_length_le, grammarC] <;> with_reducible rfl) rfl (by simp [go_sem, List.take_of_length_le, grammarC]) ?_
  refine wkd (@grammarC.eq_1) _ ?_
  first | refine GS.cc (p1) rfl rfl rfl rfl (by simp [go_sem, List.take_of_length_le, grammarC] <;> with_reducible rfl) rfl (by simp [go_sem, List.take_of_length_le, grammarC]) ?_ | refine Gd.cc (p1) rfl rfl rfl rfl (by simp [go_sem, List.take_of_length_le, grammarC] <;> with_reducible rfl) rfl (by simp [go_sem, List.take_of_length_le, grammarC]) ?_
  refine wkd (@grammarC.eq_1) _ ?_
  first | refine GS.cc (ctg) rfl rfl rfl rfl (by simp [go_sem, List.take_of_length_le, grammarC] <;> with_reducible rfl) rfl (by simp [go_sem, List.take_of_length_le, grammarC]) ?_ | refine Gd.cc (ctg) rfl rfl rfl rfl (by simp [go_sem, List.take_of_length_le, grammarC] <;> with_reducible rfl) rfl (by simp [go_sem, List.take_of_length_le, grammarC]) ?_
  refine wkd (@grammarC.eq_1) _ ?_
  first | refine GS.cc (p2) rfl rfl rfl rfl (by simp [go_sem, List.take_of_length_le, grammarC] <;> with_reducible rfl) rfl (by simp [go_sem, List.take_of_length_le, grammarC]) ?_ | refine Gd.cc (p2) rfl rfl rfl rfl (by simp [go_sem, List.take_of_length_le, grammarC] <;> with_reducible rfl) rfl (by simp [go_sem, List.take_of_length_le, grammarC]) ?_
  refine wkd0 _ ?_
  refine Holds.cond rfl (fun h => ?_) (fun h => ?_)
  · cases h
  refine wkd0 _ ?_
  first | refine GS.cc (ctg) rfl rfl rfl rfl (by simp [go_sem, List.take_of_length_le, grammarC] <;> with_reducible rfl) rfl (by simp [go_sem, List.take_of_length_le, grammarC]) ?_ | refine Gd.cc (ctg) rfl rfl rfl rfl (by simp [go_sem, List.take_of_length_le, grammarC] <;> with_reducible rfl) rfl (by simp [go_sem, List.take_of_length_le, grammarC]) ?_
  refine wkd (@grammarC.eq_1) _ ?_
  first | refine GS.cc (ceg) rfl rfl rfl rfl (by simp [go_sem, List.take_of_length_le, grammarC] <;> with_reducible rfl) rfl (by simp [go_sem, List.take_of_length_le, grammarC]) ?_ | refine Gd.cc (ceg) rfl rfl rfl rfl (by simp [go_sem, List.take_of_length_le, grammarC] <;> with_reducible rfl) rfl (by simp [go_sem, List.take_of_length_le, grammarC]) ?_
  refine wkd0 _ ?_
  refine Holds.cond rfl (fun h => ?_) (fun h => ?_)
  · cases h
  refine wkd0 _ ?_
  refine Out.mk (xs := ?_) ?_ ?_ (by first | exact .inr rfl | exact .inl rfl)
  rotate_left
  · simp [go_sem, List.take_of_length_le] <;> with_reducible rfl
  exact .v _
end Go.Proofs.YtkolhcoeifghpaaGreat.En
end
