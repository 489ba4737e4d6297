/- Own words and walks of this claim, part 5: what the program's functions compute, for all the arguments that are named; no further conditions. -/
import Derived.Test.YtkolhcoeifghpaaGreatM3
import Derived.Test.YtkolhcoeifghpaaGreatM4
import Derived.Shelf.SlSortCmp.NoneTotal
import Derived.Test.YtkolhcoeifghpaaGreatProg
import Derived.Test.YtkolhcoeifghpaaGreatM1
import Derived.Test.YtkolhcoeifghpaaGreatM2
import Derived.DeepKeys
section
namespace Go.Proofs.YtkolhcoeifghpaaGreat.En
open Go.RowKit
set_option linter.unusedSimpArgs false
set_option linter.unusedVariables false
set_option maxHeartbeats 4000000
theorem rightOfG (g : GrammarT) (hG : OkG g) (r : Nat) (hr : r ≤ g.2.2.length) : Pure Tryz.prog 81 [.ag (grammarC g), .v (.int .i64 r)] (.im 1 (ints (ruleN (gX g) r).2)) := by
  have hlen := hG.len
  refine Pure.mk (rs := [.tmp 4]) (nt := 17) Tryz.func81 (by kernel_rfl) rfl rfl rfl (by simp) ?_
  simp only [sl, grammarC]
  by_cases h : r = g.2.2.length
  · subst h
    rw [ruleX_eq]
    have he : ((g.2.2.length : Int) == (g.2.2.length : Int)) = true := by simp
    have hi0 : ints [0] = [[.v (.int .i64 0)]] := rfl
    refine wkc (And.intro @grammarC.eq_1 (And.intro @he (@hi0))) _ ?_
    refine Out.mk (xs := ?_) ?_ ?_ (by first | exact .inr rfl | exact .inl rfl)
    rotate_left
    · simp [go_sem, List.take_of_length_le] <;> with_reducible rfl
    exact Fz.all rfl rfl rfl rfl (ints_cl [0])
  · have hlt : r < g.2.2.length := by omega
    rw [ruleX_lt hlt]
    have hrr := ruleN_at hlt
    generalize ruleN g r = R at hrr ⊢
    have he : ((r : Int) == (g.2.2.length : Int)) = false := by rw [beq_eq_false_iff_ne]; omega
    have he2 : ¬ (r : Int) = (g.2.2.length : Int) := by omega
    refine wkc (And.intro @grammarC.eq_1 (And.intro @he (And.intro @he2 (And.intro @h (And.intro @hlt (And.intro @hrr (And.intro (@get_E _ _ _ _ hrr) (@ruleC.eq_1)))))))) _ ?_
    refine Out.mk (xs := ?_) ?_ ?_ (by first | exact .inr rfl | exact .inl rfl)
    rotate_left
    · simp [go_sem, List.take_of_length_le] <;> with_reducible rfl
    exact .im _ _
structure ClosI (G : GrammarT) (K out : List Item3) (k : Nat) : Prop where
  nd : out.Nodup
  un : ∀ z ∈ out, z ∈ univX G
  kk : ∀ z ∈ K, z ∈ out
  low : LowI (impsX G K) (fun z => decide (z ∈ out))
  cl : ∀ (j : Nat) (z : Item3), j < k → out[j]? = some z → ∀ p ∈ impsZ G z, p.2 ∈ out
theorem ClosI.start {G : GrammarT} {K : List Item3} (hn : K.Nodup) (hK : ∀ z ∈ K, z ∈ univX G) : ClosI G K K 0 := ⟨hn, hK, fun _ h => h, fun T hT z hz => hT (impK z) (List.mem_append.2 (.inl (List.mem_map.2 ⟨z, of_decide_eq_true hz, rfl⟩))) rfl, fun j z hj => absurd hj (Nat.not_lt_zero j)⟩
theorem ClosI.len {G : GrammarT} {K out : List Item3} {k : Nat} (h : ClosI G K out k) (hl : G.2.2.length ≤ 17) (h4 : ∀ r, (ruleN G r).2.length ≤ 4) : out.length ≤ 85 := Nat.le_trans (nodupLe3 out (univX G) h.nd h.un) (univX_len hl h4)
theorem ClosI.add {G : GrammarT} {K out : List Item3} {k : Nat} (h : ClosI G K out k) (hk : k ≤ out.length) {z : Item3} (hz : z ∈ out) {p : Imp Item3} (hp : p ∈ impsZ G z) (hpz : p.1 (fun z => decide (z ∈ out)) = true) (hu : p.2 ∈ univX G) (hn : p.2 ∉ out) : ClosI G K (out ++ [p.2]) k := by
  have hm : p ∈ impsX G K := List.mem_append.2 (.inr (List.mem_flatMap.2 ⟨z, h.un z hz, hp⟩))
  refine ⟨List.nodup_append.2 ⟨h.nd, List.pairwise_singleton _ _, fun a ha b hb e => ?_⟩, fun y hy => ?_, fun y hy => List.mem_append.2 (.inl (h.kk y hy)), fun T hT y hy => ?_, fun j y hj hy q hq => ?_⟩
  · rw [List.mem_singleton] at hb
    subst hb; subst e; exact hn ha
  · rcases List.mem_append.1 hy with hy | hy
    · exact h.un y hy
    · rw [List.mem_singleton] at hy; subst hy; exact hu
  · have hy := of_decide_eq_true hy
    rcases List.mem_append.1 hy with hy | hy
    · exact h.low T hT y (decide_eq_true hy)
    · rw [List.mem_singleton] at hy
      subst hy
      exact hT p hm (impsX_mono hm _ _ (fun x hx => h.low T hT x hx) hpz)
  · rw [List.getElem?_append_left (by omega)] at hy
    exact List.mem_append.2 (.inl (h.cl j y hj hy q hq))
theorem ClosI.next {G : GrammarT} {K out : List Item3} {k : Nat} (h : ClosI G K out k) {z : Item3} (hz : out[k]? = some z) (hc : ∀ p ∈ impsZ G z, p.2 ∈ out) : ClosI G K out (k + 1) :=
  ⟨h.nd, h.un, h.kk, h.low, fun j y hj hy => by
    by_cases e : j = k
    · subst e; rw [hz] at hy; cases hy; exact hc
    · exact h.cl j y (by omega) hy⟩
theorem ClosI.done {G : GrammarT} {K out : List Item3} (hK : ∀ z ∈ K, z ∈ univX G) (h : ClosI G K out out.length) : sortIt out = clX G K := by
  have hs := sortedI h.nd
  have hm : (fun z => decide (z ∈ sortIt out)) = fun z => decide (z ∈ out) := by
    funext z
    exact decide_eq_decide.2 (hs.2 z)
  refine clX_eq hK hs.1 (by rw [hm]; exact h.low) ?_
  rw [hm]
  intro p hp h1
  refine decide_eq_true ?_
  rcases List.mem_append.1 hp with hp | hp
  · obtain ⟨z, hz, rfl⟩ := List.mem_map.1 hp
    exact h.kk z hz
  · obtain ⟨z, _, hz⟩ := List.mem_flatMap.1 hp
    have hzo : z ∈ out := by
      have hz2 := hz
      simp only [impsZ] at hz2
      split at hz2
      · split at hz2
        · obtain ⟨r, _, rfl⟩ := List.mem_map.1 hz2
          exact of_decide_eq_true h1
        · cases hz2
      · cases hz2
    obtain ⟨j, hj⟩ := List.mem_iff_getElem?.1 hzo
    exact h.cl j z (List.getElem?_eq_some_iff.1 hj).1 hj p hz
theorem impsZ_none {G : GrammarT} {z : Item3} (h : symAt G z = none) : impsZ G z = [] := by rw [impsZ, h]
theorem impsZ_mem {g : GrammarT} (hG : OkG g) {z : Item3} {y : Int} (h : symAt (gX g) z = some y) (hy : y < g.1) {out : List Item3} (hc : ∀ (i : Nat) (r : RuleT), g.2.2[i]? = some r → r.1 = y → itemN i 0 0 ∈ out) : ∀ p ∈ impsZ (gX g) z, p.2 ∈ out := fun p hp => by
  simp only [impsZ, h] at hp
  split at hp
  · obtain ⟨r, hr, rfl⟩ := List.mem_map.1 hp
    obtain ⟨n, rfl, hn, hl⟩ := rulesOf_iffX.1 hr
    rw [gX_len] at hn
    by_cases e : n = g.2.2.length
    · rw [e, ruleX_eq] at hl
      dsimp only at hl
      omega
    · have hlt : n < g.2.2.length := by omega
      rw [ruleX_lt hlt] at hl
      exact hc n _ (ruleN_at hlt) hl
  · cases hp
theorem impsZ_at {g : GrammarT} {z : Item3} {y : Int} (h : symAt (gX g) z = some y) (hy : 0 ≤ y) {i : Nat} {r : RuleT} (hr : g.2.2[i]? = some r) (hl : r.1 = y) : impX z (i : Int) ∈ impsZ (gX g) z := by
  have hlt := (List.getElem?_eq_some_iff.1 hr).1
  simp only [impsZ, h, if_pos hy]
  refine List.mem_map.2 ⟨(i : Int), rulesOf_iffX.2 ⟨i, rfl, by rw [gX_len]; omega, ?_⟩, rfl⟩
  rw [ruleX_lt hlt]
  have := ruleN_at hlt
  rw [hr] at this
  cases this
  exact hl
theorem nodes_snocD (l : List Node3) (a b c : Int) : nodes l ++ [[.v (.int .i64 a), .v (.int .i64 b), .v (.int .i64 c)]] = nodes (l ++ [(a, b, c)]) := by simp [nodes, nodeC]
theorem closureG (g : GrammarT) (hG : OkG g) (K : List Item3) (hn : K.Nodup) (hK : ∀ z ∈ K, z ∈ univX (gX g)) : Fn Tryz.prog 80 0 [.ag (grammarC g), .im 3 (nodes K)] [] (.own 0 3 0 (clX (gX g) K).length) 1 [(0, ⟨97, 3, nodes (clX (gX g) K)⟩)] := by
  have hlen := hG.len
  have hn1 := hG.n1
  have hI0 := ClosI.start hn hK
  have hlX : (gX g).2.2.length ≤ 17 := by rw [gX_len]; omega
  have hK85 := hI0.len hlX (ruleX_4 hG)
  have hKb : K.length * 24 ≤ 140737488355328 := by omega
  refine Fn.mk (rs := [.tmp 4]) (nt := 70) Tryz.func80 (by kernel_rfl) rfl rfl rfl (by simp) ?_
  simp only [sl, grammarC]
  have hall : ((nodes K).all fun x => x.all c1) = true := List.all_eq_true.2 fun x hx => by
    obtain ⟨z, _, rfl⟩ := List.mem_map.1 hx
    rfl
  refine wkdc0 _ ?_
  refine wkdc (And.intro @hKb (@hall)) _ ?_
  refine Holds.loop (ι := Nat × List Item3) (fun i => ⟨[(2, .pb 0 3 0 0), (5, .own 1 3 0 i.2.length), (6, .v (.int .i64 i.1))], [(1, ⟨97, 3, nodes i.2⟩), (0, ⟨31, 3, [grammarC g]⟩)], 2⟩)
    (fun i => i.1 ≤ i.2.length ∧ ClosI (gX g) K i.2 i.1) (fun i => 100 - i.1) (0, K) ⟨Nat.zero_le _, hI0⟩ ?_ ?_
  · exact Cov.ofn (nm [0, 3]) rfl (by simp [go_sem, List.take_of_length_le, ren, ren1, ren2, okr, okr1, okr2, ChkT, ChkN, BlkN, nf, grammarC]) (by simp [go_sem, List.take_of_length_le, ren, ren1, ren2, okr, okr1, okr2, ChkT, ChkN, BlkN, nf, grammarC])
  clear hI0
  rintro ⟨k, out⟩ ⟨hk, hI⟩
  dsimp only at hk hI ⊢
  have ho85 := hI.len hlX (ruleX_4 hG)
  have stepk : wr64 ((k : Int) + 1) = ((k + 1 : Nat) : Int) := wr64_id (by omega) (by omega)
  by_cases hlt : k < out.length
  · have hlti : (k : Int) < (out.length : Int) := by omega
    have hzk : out[k]? = some out[k] := List.getElem?_eq_getElem hlt
    obtain ⟨r, d, hr, hd, hz⟩ := mem_univX.1 (hI.un _ (List.getElem_mem hlt))
    rw [hz] at hzk
    clear hz
    rw [gX_len] at hr
    have cr := rightOfG g hG r (by omega)
    have hsy := symAt_N (gX g) r d 0
    have hs := ruleX_s hG r
    have h4 := ruleX_4 hG r
    generalize (ruleN (gX g) r).2 = R at cr hsy hd hs h4
    refine wkdc (And.intro @hlti (And.intro @hlt (And.intro @hzk (And.intro (@get_E _ _ _ _ hzk) (And.intro @nodeC.eq_1 (And.intro @itemN.eq_1 (@grammarC.eq_1))))))) _ ?_
    first | refine GS.cc (cr) rfl rfl rfl rfl (by simp [go_sem, List.take_of_length_le, grammarC] <;> with_reducible rfl) rfl (by simp [go_sem, List.take_of_length_le, grammarC]) ?_ | refine Gd.cc (cr) rfl rfl rfl rfl (by simp [go_sem, List.take_of_length_le, grammarC] <;> with_reducible rfl) rfl (by simp [go_sem, List.take_of_length_le, grammarC]) ?_
    by_cases hdl : d = R.length
    · have he : ((d : Int) == (R.length : Int)) = true := by simp [hdl]
      have hnone : symAt (gX g) (itemN r d 0) = none := by rw [hsy]; exact List.getElem?_eq_none (by omega)
      refine wkdc (And.intro @hlti (And.intro @hlt (And.intro @hzk (And.intro (@get_E _ _ _ _ hzk) (And.intro @nodeC.eq_1 (And.intro @itemN.eq_1 (And.intro @he (@hdl)))))))) _ ?_
      refine ⟨(k + 1, out), ⟨by dsimp only; omega, hI.next hzk (by rw [impsZ_none hnone]; intro p hp; cases hp)⟩, by dsimp only; omega, ?_⟩
      rw [stepk]
      exact Cov.ofn (id) rfl (by simp [go_sem, List.take_of_length_le, ren, ren1, ren2, okr, okr1, okr2, ChkT, ChkN, BlkN, nf, grammarC]) (by simp [go_sem, List.take_of_length_le, ren, ren1, ren2, okr, okr1, okr2, ChkT, ChkN, BlkN, nf, grammarC])
    · have he : ((d : Int) == (R.length : Int)) = false := by rw [beq_eq_false_iff_ne]; omega
      have he2 : ¬ (d : Int) = (R.length : Int) := by omega
      have hdR : d < R.length := by omega
      have hyd : R[d]? = some R[d] := List.getElem?_eq_getElem hdR
      have hym := hs _ (List.getElem_mem hdR)
      generalize R[d] = y at hyd hym
      rw [hyd] at hsy
      refine wkdc (And.intro @hlti (And.intro @hlt (And.intro @hzk (And.intro (@get_E _ _ _ _ hzk) (And.intro @nodeC.eq_1 (And.intro @itemN.eq_1 (And.intro @he (And.intro @he2 (And.intro @hdl (@grammarC.eq_1)))))))))) _ ?_
      refine Holds.loop (ι := Nat × List Item3) (fun i => ⟨[(2, .pb 0 3 0 0), (5, .own 1 3 0 i.2.length), (6, .v (.int .i64 k)), (7, .im 1 (ints R)), (36, .im 2 (rules g.2.2)), (37, .v (.int .i64 g.2.2.length)), (38, .v (.int .i64 i.1))], [(1, ⟨97, 3, nodes i.2⟩), (0, ⟨31, 3, [grammarC g]⟩)], 2⟩)
        (fun i => i.1 ≤ g.2.2.length ∧ ClosI (gX g) K i.2 k ∧ i.2[k]? = some (itemN r d 0) ∧ ∀ (j : Nat) (q : RuleT), j < i.1 → g.2.2[j]? = some q → q.1 = y → itemN j 0 0 ∈ i.2) (fun i => g.2.2.length - i.1) (0, out) ⟨Nat.zero_le _, hI, hzk, fun j q hj => absurd hj (Nat.not_lt_zero j)⟩ ?_ ?_
      · exact Cov.ofn (id) rfl (by simp [go_sem, List.take_of_length_le, ren, ren1, ren2, okr, okr1, okr2, ChkT, ChkN, BlkN, nf, grammarC]) (by simp [go_sem, List.take_of_length_le, ren, ren1, ren2, okr, okr1, okr2, ChkT, ChkN, BlkN, nf, grammarC])
      clear hI hzk ho85 hlti hlt hk
      rintro ⟨i, out⟩ ⟨hi, hI, hzk, hdone⟩
      dsimp only at hi hI hzk hdone ⊢
      have ho85 := hI.len hlX (ruleX_4 hG)
      have hlt := (List.getElem?_eq_some_iff.1 hzk).1
      have stepi : wr64 ((i : Int) + 1) = ((i + 1 : Nat) : Int) := wr64_id (by omega) (by omega)
      refine wkdc0 _ ?_
      refine Holds.cond rfl (fun h => ?_) (fun h => ?_)
      · have hil : i < g.2.2.length := by simp at h; omega
        have hqi : g.2.2[i]? = some g.2.2[i] := List.getElem?_eq_getElem hil
        generalize g.2.2[i] = q at hqi
        have hmore : ∀ out' : List Item3, (∀ z ∈ out, z ∈ out') → (q.1 = y → itemN i 0 0 ∈ out') → ∀ (j : Nat) (p : RuleT), j < i + 1 → g.2.2[j]? = some p → p.1 = y → itemN j 0 0 ∈ out' := fun out' h1 h2 j p hj hp hl => by
          by_cases e : j = i
          · subst e; rw [hqi] at hp; cases hp; exact h2 hl
          · exact h1 _ (hdone j p (by omega) hp hl)
        have hbb : (out.length + 1) * 24 ≤ 140737488355328 := by omega
        have cc := containsItem out (itemN i 0 0) (by omega)
        have hbt : itemN i 0 0 ∈ out → decide (itemN i 0 0 ∈ out) = true := fun h => decide_eq_true h
        have hbf : itemN i 0 0 ∉ out → decide (itemN i 0 0 ∈ out) = false := fun h => decide_eq_false h
        generalize decide (itemN i 0 0 ∈ out) = bb at cc hbt hbf
        by_cases hqy : q.1 = y
        · have hq1 : (q.1 == y) = true := by simp [hqy]
          refine wkdc (And.intro @hil (And.intro @hqi (And.intro (@get_E _ _ _ _ hqi) (And.intro @ruleC.eq_1 (And.intro @hzk (And.intro (@get_E _ _ _ _ hzk) (And.intro @hlt (And.intro @nodeC.eq_1 (And.intro @itemN.eq_1 (And.intro @hyd (And.intro (@get_E _ _ _ _ hyd) (And.intro @hdR (And.intro @hq1 (@hqy)))))))))))))) _ ?_
          simp only [nodeC, itemN, Int.natCast_zero] at cc
          first | refine GS.cd (cc) rfl rfl rfl rfl (by simp [go_sem, List.take_of_length_le, nodeC] <;> with_reducible rfl) rfl (by exact .cons (Fz.all rfl rfl (by simp) rfl (nodes_ok _)) (.cons (Fz.cl rfl) .nil)) rfl ?_ | refine Gd.cd (cc) rfl rfl rfl rfl (by simp [go_sem, List.take_of_length_le, nodeC] <;> with_reducible rfl) rfl (by exact .cons (Fz.all rfl rfl (by simp) rfl (nodes_ok _)) (.cons (Fz.cl rfl) .nil)) rfl ?_
          by_cases hin : itemN i 0 0 ∈ out
          · cases (hbt hin)
            refine wkdc0 _ ?_
            refine ⟨(i + 1, out), ⟨by dsimp only; omega, hI, hzk, hmore out (fun _ h => h) fun _ => hin⟩, by dsimp only; omega, ?_⟩
            rw [stepi]
            exact Cov.ofn (id) rfl (by simp [go_sem, List.take_of_length_le, ren, ren1, ren2, okr, okr1, okr2, ChkT, ChkN, BlkN, nf, grammarC]) (by simp [go_sem, List.take_of_length_le, ren, ren1, ren2, okr, okr1, okr2, ChkT, ChkN, BlkN, nf, grammarC])
          · have h0y : 0 ≤ y := by rw [← hqy]; exact hG.l0 q (List.mem_of_getElem? hqi)
            have hadd := hI.add (by omega) (List.mem_of_getElem? hzk) (impsZ_at hsy h0y hqi hqy) (decide_eq_true (List.mem_of_getElem? hzk)) (mem_univX.2 ⟨i, 0, by rw [gX_len]; omega, Nat.zero_le _, rfl⟩) hin
            cases (hbf hin)
            refine wkdc (@hbb) _ ?_
            refine ⟨(i + 1, out ++ [((i : Int), 0, 0)]), ⟨by dsimp only; omega, hadd, by dsimp only; rw [List.getElem?_append_left hlt]; exact hzk, hmore _ (fun z hz => List.mem_append.2 (.inl hz)) fun _ => List.mem_append.2 (.inr (by simp [itemN]))⟩, by dsimp only; omega, ?_⟩
            dsimp only
            rw [stepi]
            exact Cov.ofn (nm [0, 6]) rfl (by simp [go_sem, List.take_of_length_le, ren, ren1, ren2, okr, okr1, okr2, ChkT, ChkN, BlkN, nf, grammarC, nodes_snocD]) (by simp [go_sem, List.take_of_length_le, ren, ren1, ren2, okr, okr1, okr2, ChkT, ChkN, BlkN, nf, grammarC, nodes_snocD])
        · have hq1 : (q.1 == y) = false := by simp [hqy]
          refine wkdc (And.intro @hil (And.intro @hqi (And.intro (@get_E _ _ _ _ hqi) (And.intro @ruleC.eq_1 (And.intro @hzk (And.intro (@get_E _ _ _ _ hzk) (And.intro @hlt (And.intro @nodeC.eq_1 (And.intro @itemN.eq_1 (And.intro @hyd (And.intro (@get_E _ _ _ _ hyd) (And.intro @hdR (And.intro @hq1 (@hqy)))))))))))))) _ ?_
          refine ⟨(i + 1, out), ⟨by dsimp only; omega, hI, hzk, hmore out (fun _ h => h) fun e => absurd e hqy⟩, by dsimp only; omega, ?_⟩
          rw [stepi]
          exact Cov.ofn (id) rfl (by simp [go_sem, List.take_of_length_le, ren, ren1, ren2, okr, okr1, okr2, ChkT, ChkN, BlkN, nf, grammarC]) (by simp [go_sem, List.take_of_length_le, ren, ren1, ren2, okr, okr1, okr2, ChkT, ChkN, BlkN, nf, grammarC])
      · have hie : i = g.2.2.length := by simp at h; omega
        subst hie
        refine wkdc0 _ ?_
        refine ⟨(k + 1, out), ⟨by dsimp only; omega, hI.next hzk (impsZ_mem hG hsy hym.2 fun j q hq hl => hdone j q (List.getElem?_eq_some_iff.1 hq).1 hq hl)⟩, by dsimp only; omega, ?_⟩
        rw [stepk]
        exact Cov.ofn (id) rfl (by simp [go_sem, List.take_of_length_le, ren, ren1, ren2, okr, okr1, okr2, ChkT, ChkN, BlkN, nf, grammarC]) (by simp [go_sem, List.take_of_length_le, ren, ren1, ren2, okr, okr1, okr2, ChkT, ChkN, BlkN, nf, grammarC])
  · have hlti : ¬ (k : Int) < (out.length : Int) := by omega
    have hke : k = out.length := by omega
    rw [hke] at hI
    have hfin := hI.done hK
    have cs := sortItems out (by omega)
    rw [hfin] at cs
    have hl2 : (clX (gX g) K).length = out.length := by rw [← hfin, sortIt_len]
    rw [hl2]
    refine wkdc (@hlti) _ ?_
    refine GS.fnn [1] (cs) rfl rfl rfl rfl (by simp [go_sem, List.take_of_length_le, ren, ren1, ren2, okr, okr1, okr2, ChkN, BlkN, List.range_succ, nf] <;> with_reducible rfl) (by simp [go_sem, List.take_of_length_le, ren, ren1, ren2, okr, okr1, okr2, ChkN, BlkN, List.range_succ, nf]) (by simp [go_sem, List.take_of_length_le, ren, ren1, ren2, okr, okr1, okr2, ChkN, BlkN, List.range_succ, nf]) (by simp [List.range_succ, lb]) (ChkN.toB (by simp [go_sem, List.take_of_length_le, ren, ren1, ren2, okr, okr1, okr2, ChkN, BlkN, List.range_succ, nf])) (by decide) (by simp) rfl (.nfr (by simp) .nil) (by simp [go_sem, List.take_of_length_le, ren, ren1, ren2, okr, okr1, okr2, ChkN, BlkN, List.range_succ, nf] <;> with_reducible rfl) ?_
    refine wkdc0 _ ?_
    refine OutF.mkn (xs := ?_) (nm [1]) ?_ ?_ ?_ ?_ ?_ (by first | exact .inr rfl | exact .inl rfl)
    rotate_left
    · simp [go_sem, List.take_of_length_le] <;> with_reducible rfl
    · simp [go_sem, List.take_of_length_le, ren, ren1, ren2, okr, okr1, okr2, ChkN, BlkN, List.range_succ, nf]
    · simp [go_sem, List.take_of_length_le, ren, ren1, ren2, okr, okr1, okr2, ChkN, BlkN, List.range_succ, nf]
    · simp [go_sem, List.take_of_length_le, ren, ren1, ren2, okr, okr1, okr2, ChkN, BlkN, List.range_succ, nf]
    · rfl
end Go.Proofs.YtkolhcoeifghpaaGreat.En
end
section
namespace Go.Proofs.YtkolhcoeifghpaaGreat.En
open Go.RowKit
set_option linter.unusedSimpArgs false
set_option linter.unusedVariables false
set_option maxHeartbeats 4000000
theorem equalItems (a b : List Item3) (ha : a.length ≤ 4000) : Pure Tryz.prog 84 [.im 3 (nodes a), .im 3 (nodes b)] (.v (.bool (decide (a = b)))) := by
  refine Pure.mk (rs := [.tmp 4]) (nt := 26) Tryz.func84 (by kernel_rfl) rfl rfl rfl (by simp) ?_
  simp only [sl]
  by_cases hl : a.length = b.length
  · have hl1 : ((a.length : Int) != (b.length : Int)) = false := by simp [hl]
    refine wkdc (@hl1) _ ?_
    refine Holds.loop (ι := Nat) (fun i => ⟨[(0, .im 3 (nodes a)), (1, .im 3 (nodes b)), (12, .v (.int .i64 a.length)), (13, .v (.int .i64 i))], [], 0⟩)
      (fun i => i ≤ a.length ∧ ∀ j, j < i → a[j]? = b[j]?) (fun i => a.length - i) 0 ⟨Nat.zero_le _, fun j hj => absurd hj (Nat.not_lt_zero j)⟩ ?_ ?_
    · exact Cov.ofn (id) rfl (by simp [go_sem, List.take_of_length_le, ren, ren1, ren2, okr, okr1, okr2, ChkT, ChkN, BlkN, nf]) (by simp [go_sem, List.take_of_length_le, ren, ren1, ren2, okr, okr1, okr2, ChkT, ChkN, BlkN, nf])
    rintro i ⟨hi, hc⟩
    have stepi : wr64 ((i : Int) + 1) = ((i + 1 : Nat) : Int) := wr64_id (by omega) (by omega)
    refine wkdc0 _ ?_
    refine Holds.cond rfl (fun h => ?_) (fun h => ?_)
    · have hlt : i < a.length := by simp at h; omega
      have hlb : i < b.length := by omega
      have hxa : a[i]? = some a[i] := List.getElem?_eq_getElem hlt
      have hxb : b[i]? = some b[i] := List.getElem?_eq_getElem hlb
      generalize a[i] = x at hxa
      generalize b[i] = y at hxb
      refine wkdc (And.intro @hxa (And.intro (@get_E _ _ _ _ hxa) (And.intro @hxb (And.intro (@get_E _ _ _ _ hxb) (And.intro @hlt (And.intro @hlb (@nodeC.eq_1))))))) _ ?_
      refine Gd.calm rfl rfl (.neS (n := 3) (xs := [x.1, x.2.1, x.2.2]) (ys := [y.1, y.2.1, y.2.2]) rfl eqItem3 rfl rfl rfl rfl rfl) ?_
      by_cases e : x = y
      · rw [show (!decide ([x.1, x.2.1, x.2.2] = [y.1, y.2.1, y.2.2])) = false by rw [e]; simp]
        refine wkdc0 _ ?_
        refine ⟨i + 1, ⟨by omega, fun j hj => ?_⟩, by omega, ?_⟩
        · by_cases e2 : j = i
          · subst e2; rw [hxa, hxb, e]
          · exact hc j (by omega)
        rw [stepi]
        exact Cov.ofn (id) rfl (by simp [go_sem, List.take_of_length_le, ren, ren1, ren2, okr, okr1, okr2, ChkT, ChkN, BlkN, nf]) (by simp [go_sem, List.take_of_length_le, ren, ren1, ren2, okr, okr1, okr2, ChkT, ChkN, BlkN, nf])
      · rw [show (!decide ([x.1, x.2.1, x.2.2] = [y.1, y.2.1, y.2.2])) = true by rw [decide_eq_false (fun h => e (node_ext h))]; rfl]
        rw [decide_eq_false (show ¬ a = b by intro h2; subst h2; rw [hxa] at hxb; cases hxb; exact e rfl)]
        refine wkdc0 _ ?_
        refine Out.mk (xs := ?_) ?_ ?_ (by first | exact .inr rfl | exact .inl rfl)
        rotate_left
        · simp [go_sem, List.take_of_length_le] <;> with_reducible rfl
        exact .v _
    · have hie : i = a.length := by simp at h; omega
      subst hie
      rw [decide_eq_true (show a = b from List.ext_getElem? fun j => by
        by_cases hj : j < a.length
        · exact hc j hj
        · rw [List.getElem?_eq_none (by omega), List.getElem?_eq_none (by omega)])]
      refine wkdc0 _ ?_
      refine Out.mk (xs := ?_) ?_ ?_ (by first | exact .inr rfl | exact .inl rfl)
      rotate_left
      · simp [go_sem, List.take_of_length_le] <;> with_reducible rfl
      exact .v _
  · have hl1 : ((a.length : Int) != (b.length : Int)) = true := by simp; omega
    rw [decide_eq_false (show ¬ a = b by intro h; subst h; exact hl rfl)]
    refine wkdc (@hl1) _ ?_
    refine Out.mk (xs := ?_) ?_ ?_ (by first | exact .inr rfl | exact .inl rfl)
    rotate_left
    · simp [go_sem, List.take_of_length_le] <;> with_reducible rfl
    exact .v _
theorem indexFuncItems (g : FuncId) (cap : List AV) (p : List Item3 → Bool) (xs : Sets3) (hx : xs.length < 4611686018427387904) (hcap : cap.all cl1 = true) (hg : ∀ x ∈ xs, Pure Tryz.prog g (.im 3 (nodes x) :: cap) (.v (.bool (p x)))) : Pure Tryz.prog 82 [.im 1 (itemss xs), .fn g cap] (.v (.int .i64 (fstP p xs 0))) := by
  refine Pure.mk (rs := [.tmp 4]) (nt := 19) Tryz.func82 (by kernel_rfl) rfl rfl rfl (by simp) ?_
  simp only [sl]
  refine wk0 _ ?_
  refine Holds.loop (ι := Nat) (fun i => ⟨[(0, .im 1 (itemss xs)), (1, .fn g cap), (7, .v (.int .i64 xs.length)), (8, .v (.int .i64 i))], [], 0⟩) (fun i => i ≤ xs.length ∧ ∀ j, j < i → ∀ x, xs[j]? = some x → p x = false) (fun i => xs.length - i) 0 ⟨Nat.zero_le _, fun j hj => absurd hj (Nat.not_lt_zero j)⟩ ?_ ?_
  · exact Cov.ofn id rfl (by simp [go_sem, ren, ren1, okr, okr1, ChkT, okr1_cap hcap, ren1_cap hcap]) (by simp [ChkN])
  rintro i ⟨hi, hno⟩
  refine wk0 _ ?_
  refine Holds.cond rfl (fun hl => ?_) (fun hl => ?_)
  · have hlt : i < xs.length := by simpa using hl
    have hxi : xs[i]? = some xs[i] := List.getElem?_eq_getElem hlt
    have hgi := hg _ (List.getElem_mem hlt)
    generalize xs[i] = y at hxi hgi
    refine wk (And.intro @hxi (And.intro (@get_E _ _ _ _ hxi) (@itemssC.eq_1))) _ ?_
    refine GS.cc (hgi) rfl rfl rfl rfl (by simp [go_sem, List.take_of_length_le, hcap, all_cl1 hcap, itemssC] <;> with_reducible rfl) rfl (by simp [go_sem, List.take_of_length_le, hcap, all_cl1 hcap, itemssC]) ?_
    refine wk0 _ ?_
    refine Holds.cond rfl (fun hl2 => ?_) (fun hl2 => ?_)
    · rw [fstP_at xs i 0 hxi hl2 hno, Nat.zero_add]
      refine wk0 _ ?_
      refine Out.mk (xs := ?_) ?_ ?_ (by first | exact .inr rfl | exact .inl rfl)
      rotate_left
      · simp [go_sem, List.take_of_length_le] <;> with_reducible rfl
      exact .v _
    · refine wk0 _ ?_
      refine ⟨i + 1, ⟨by omega, fun j hj x hxj => ?_⟩, by omega, ?_⟩
      · by_cases e : j = i
        · subst e; rw [hxi] at hxj; cases hxj; exact hl2
        · exact hno j (by omega) x hxj
      rw [wr64_id (by omega) (by omega)]
      exact Cov.ofn id rfl (by simp [go_sem, ren, ren1, okr, okr1, ChkT, okr1_cap hcap, ren1_cap hcap]) (by simp [ChkN])
  · have hle : i = xs.length := by
      have : ¬ i < xs.length := by simpa using hl
      omega
    rw [fstP_no xs 0 fun x j hj => hno x (by have := (List.getElem?_eq_some_iff.1 hj).1; omega) j hj]
    refine wk0 _ ?_
    refine Out.mk (xs := ?_) ?_ ?_ (by first | exact .inr rfl | exact .inl rfl)
    rotate_left
    · simp [go_sem, List.take_of_length_le] <;> with_reducible rfl
    exact .v _
theorem states1 (o s : List Item3) (ho : o.length ≤ 4000) : Pure Tryz.prog 83 [.im 3 (nodes o), .pi [.im 3 (nodes s)]] (.v (.bool (decide (o = s)))) := by
  refine Pure.mk (rs := [.tmp 3]) (nt := 7) Tryz.func83 (by kernel_rfl) rfl rfl rfl (by simp) ?_
  simp only [sl]
  have c := equalItems o s ho
  refine wkc0 _ ?_
  refine GS.cc (c) rfl rfl rfl rfl (by simp [go_sem, List.take_of_length_le] <;> with_reducible rfl) rfl (by simp [go_sem, List.take_of_length_le]) ?_
  refine wkc0 _ ?_
  refine Out.mk (xs := ?_) ?_ ?_ (by first | exact .inr rfl | exact .inl rfl)
  rotate_left
  · simp [go_sem, List.take_of_length_le] <;> with_reducible rfl
  exact .v _
theorem nodes_snocE (l : List Node3) (a b c : Int) : nodes l ++ [[.v (.int .i64 a), .v (.int .i64 b), .v (.int .i64 c)]] = nodes (l ++ [(a, b, c)]) := by simp [nodes, nodeC]
theorem fz_itemssD {bl : List (Nat × Blk)} {n len : Nat} {e : TypeId} (l : Sets3) (hk : lb bl n = some ⟨e, 1, itemssO l⟩) (hl : len = l.length) : Fz bl (.own n 1 0 len) (.im 1 (itemss l)) := Fz.rowsO l itemO itemssC hk rfl rfl (fun x _ => show FzL bl (itemO x) (itemssC x) from by simp only [itemO, itemssC]; exact .cons (Fz.owI (nodes_ok _)) (.nil)) hl
theorem iAt (xs : Sets3) (r : List AV) : (itemssO xs ++ [r])[xs.length]? = some r := by simp
theorem iSnoc (xs : Sets3) (r : List AV) (q : List Item3) : (itemssO xs ++ [r]).set xs.length [.ow 97 3 (nodes q)] = itemssO (xs ++ [q]) := by
  have := set_snoc (itemssO xs) r [.ow 97 3 (nodes q)]
  rw [itemssO_len] at this
  rw [this]; simp [itemssO, itemO]
theorem iApp (xs : Sets3) (q : List Item3) : itemssO xs ++ [[.ow 97 3 (nodes q)]] = itemssO (xs ++ [q]) := by simp [itemssO, itemO]
theorem ren_itemssO (ρ : Nat → Nat) (xs : Sets3) : List.map (List.map (ren ρ)) (itemssO xs) = itemssO xs := by simp [itemssO, itemO, ren, ren1]
theorem okw_setI (G : Sets3) (u n z off len : Nat) {m : Nat} (h : n < m) : okw m ((itemssO G).set u [.own n z off len]) := by
  intro row hr x hx
  rcases List.mem_or_eq_of_mem_set hr with e | e
  · have := nfr_itemssO G row e x hx
    exact okr_nf this
  · subst e
    rw [List.mem_singleton] at hx
    subst hx
    simp [okr, okr1, h]
theorem statesG (g : GrammarT) (hG : OkG g) : Fn Tryz.prog 39 0 [.ag (grammarC g)] [] (.tu [.ag [.own 0 1 0 (lrV g).1.1.length, .own 1 1 0 (lrV g).1.2.length], .v (.bool (lrV g).2)]) 2 [(0, ⟨94, 1, itemssO (lrV g).1.1⟩), (1, ⟨25, 1, intssO (lrV g).1.2⟩)] := by
  have hlen := hG.len
  have hlX : (gX g).2.2.length ≤ 17 := by rw [gX_len]; omega
  have c0 := closureG g hG [itemN g.2.2.length 0 0] (by simp) fun z hz => by
    rw [List.mem_singleton] at hz
    subst hz
    exact univX_item hG
  change Fn _ _ 0 _ [] (.own 0 3 0 (start0 g).length) 1 [(0, ⟨_, 3, nodes (start0 g)⟩)] at c0
  have hI0 := LrI.start hG
  generalize lrV g = V at hI0 ⊢
  refine Fn.mk (rs := [.cell 2 48, .tmp 3]) (nt := 114) Tryz.func39 (by kernel_rfl) rfl rfl rfl (by simp) ?_
  simp only [sl, grammarC]
  repeat' first | (refine Holds.condT ?_ ?_; (· (simp [go_sem, List.take_of_length_le, grammarC] <;> with_reducible rfl))) | (refine Holds.condF ?_ ?_; (· (simp [go_sem, List.take_of_length_le, grammarC] <;> with_reducible rfl))) | refine Holds.seq ?_ | refine Holds.skip ?_ | refine Holds.exit ?_ | refine Holds.ret ?_ | refine thenA_normal ?_ | refine thenA_exit ?_ | refine thenA_ret ?_ | refine inB_normal ?_ | refine inB_ret ?_ | refine inB_here ?_ | (refine inB_past ?_ ?_; (· exact rfl)) | refine Holds.reg ?_ | refine Holds.block ?_ | refine GS.nil ?_ | (refine GS.stepD 20 (s' := ?_) rfl ?_ ?_ ?_; rotate_left; (· exact rfl); (· (simp [go_sem, List.take_of_length_le, grammarC] <;> with_reducible rfl))) | (refine GS.skip ?_ ?_ ?_; (· exact rfl); (· exact rfl)) | fail
  refine GS.frz [2] [(19, .im 3 (nodes [itemN g.2.2.length 0 0]))] (.cons rfl (Fz.all rfl rfl rfl rfl (nodes_ok _)) .nil) ?_
  refine GS.fnn [] (c0) rfl rfl rfl rfl (by simp [go_sem, List.take_of_length_le, ren, ren1, ren2, okr, okr1, okr2, ChkN, BlkN, List.range_succ, nf, grammarC, frz] <;> with_reducible rfl) (by simp [go_sem, List.take_of_length_le, ren, ren1, ren2, okr, okr1, okr2, ChkN, BlkN, List.range_succ, nf, grammarC, frz]) (by simp [go_sem, List.take_of_length_le, ren, ren1, ren2, okr, okr1, okr2, ChkN, BlkN, List.range_succ, nf, grammarC, frz]) (by simp [List.range_succ, lb]) (ChkN.toB (by simp [go_sem, List.take_of_length_le, ren, ren1, ren2, okr, okr1, okr2, ChkN, BlkN, List.range_succ, nf, grammarC, frz])) (by decide) (by simp) rfl (.nfr (by simp) .nil) (by simp [go_sem, List.take_of_length_le, ren, ren1, ren2, okr, okr1, okr2, ChkN, BlkN, List.range_succ, nf, grammarC, frz] <;> with_reducible rfl) ?_
  refine wkc (And.intro @grammarC.eq_1 (@frz.eq_1)) _ ?_
  refine Holds.nir 5 0 1 25 1 rfl rfl rfl (by simp [go_sem]; rfl) ?_
  refine Holds.loop (ι := LrT) (fun L => ⟨[(1, .pb 0 3 0 0), (2, .pb 1 2 0 0), (4, .pb 2 2 0 0), (5, .v (.int .i64 L.2.length))],
    [(4, ⟨25, 1, intssO L.2⟩), (3, ⟨94, 1, itemssO L.1⟩), (2, ⟨48, 2, [[.own 3 1 0 L.1.length, .own 4 1 0 L.2.length]]⟩), (1, ⟨48, 2, [[.v (.slice none 0 0), .v (.slice none 0 0)]]⟩), (0, ⟨31, 3, [grammarC g]⟩)], 5⟩)
    (fun L => LrI g V L) (fun L => 61 - L.2.length) ([start0 g], []) hI0 ?_ ?_
  · refine Cov.trans ?_ (Cov.close 4 0 0 rfl rfl rfl rfl rfl rfl (by simp) (by simp))
    simp only [rm, st, List.set_set]
    exact Cov.ofn (nm [0, 1, 5, 4, 6]) rfl (by simp [go_sem, List.take_of_length_le, ren, ren1, ren2, okr, okr1, okr2, ChkT, ChkN, BlkN, nf, grammarC, show intssO [] = [] from rfl, itemssO, itemO]) (by simp [go_sem, List.take_of_length_le, ren, ren1, ren2, okr, okr1, okr2, ChkT, ChkN, BlkN, nf, grammarC, show intssO [] = [] from rfl, itemssO, itemO])
  clear hI0 c0
  rintro ⟨sts, gs⟩ hI
  have hle := hI.p.le
  have hfew := hI.few
  dsimp only at hle hfew ⊢
  have stepk : wr64 ((gs.length : Int) + 1) = ((gs.length + 1 : Nat) : Int) := wr64_id (by omega) (by omega)
  refine wkc0 _ ?_
  refine Holds.cond rfl (fun h => ?_) (fun h => ?_)
  · have hlt : gs.length < sts.length := by simp at h; omega
    have hS : sts[gs.length]? = some sts[gs.length] := List.getElem?_eq_getElem hlt
    have hok := hI.p.ok.st _ (List.getElem_mem hlt)
    generalize sts[gs.length] = S at hS hok
    have hmany := fun h => hI.many hS h
    have hnext := fun h => hI.next hG hS h
    have hstok := hI.p.ok
    dsimp only at hmany hnext hstok
    have hn0 := hG.n0
    have hn1 := hG.n1
    have ht0 := hG.t0
    have ht1 := hG.t1
    have hwneg : wr64 (-g.2.1) = -g.2.1 := wr64_id (by omega) (by omega)
    have hsl := symsX_len hG
    refine wkc (And.intro @hwneg (@grammarC.eq_1)) _ ?_
    refine Holds.loop (ι := Nat × RowS) (fun i => ⟨[(1, .pb 0 3 0 0), (2, .pb 1 2 0 0), (4, .pb 2 2 0 0), (5, .v (.int .i64 gs.length)), (6, .own 5 1 0 i.2.2.length), (7, .v (.int .i64 ((i.1 : Int) - g.2.1)))],
      [(5, ⟨3, 1, ints i.2.2⟩), (4, ⟨25, 1, intssO gs⟩), (3, ⟨94, 1, itemssO i.2.1⟩), (2, ⟨48, 2, [[.own 3 1 0 i.2.1.length, .own 4 1 0 gs.length]]⟩), (1, ⟨48, 2, [[.v (.slice none 0 0), .v (.slice none 0 0)]]⟩), (0, ⟨31, 3, [grammarC g]⟩)], 6⟩)
      (fun i => i.1 ≤ (symsX g).length ∧ StsOk g i.2.1 ∧ i.2.1[gs.length]? = some S ∧ i.2.1.length ≤ 60 ∧ i.2.2.length = i.1 ∧ rowR g S ((symsX g).drop i.1) i.2 = rowR g S (symsX g) (sts, [])) (fun i => (symsX g).length - i.1) (0, (sts, [])) ⟨Nat.zero_le _, hstok, hS, by dsimp only; omega, rfl, rfl⟩ ?_ ?_
    · exact Cov.ofn (id) rfl (by simp [go_sem, List.take_of_length_le, ren, ren1, ren2, okr, okr1, okr2, ChkT, ChkN, BlkN, nf, grammarC, show ints [] = [] from rfl]) (by simp [go_sem, List.take_of_length_le, ren, ren1, ren2, okr, okr1, okr2, ChkT, ChkN, BlkN, nf, grammarC, show ints [] = [] from rfl])
    generalize hR : rowR g S (symsX g) (sts, []) = R at hmany hnext
    clear hI hS hstok hfew hle hlt h hR
    rintro ⟨i, sts, row⟩ ⟨hi, hstok, hS, hfew, hrl, hrun⟩
    dsimp only at hi hstok hS hfew hrl hrun ⊢
    have hlt := (List.getElem?_eq_some_iff.1 hS).1
    have stepx : wr64 ((i : Int) - g.2.1 + 1) = ((i + 1 : Nat) : Int) - g.2.1 := by rw [wr64_id (by omega) (by omega)]; omega
    refine wkc (@grammarC.eq_1) _ ?_
    refine Holds.cond rfl (fun h => ?_) (fun h => ?_)
    · have hil : i < (symsX g).length := by simp at h; omega
      have hx := symsX_at hil
      have hdr : (symsX g).drop i = ((i : Int) - g.2.1) :: (symsX g).drop (i + 1) := by
        rw [List.drop_eq_getElem_cons hil]
        congr 1
        have := List.getElem?_eq_getElem hil
        rw [hx] at this
        exact (Option.some.inj this).symm
      rw [hdr] at hrun
      change rowR g S ((symsX g).drop (i + 1)) (stepR g S (sts, row) ((i : Int) - g.2.1)) = R at hrun
      have hok2 := hstok.step hG (s := (sts, row)) S ((i : Int) - g.2.1)
      have hsd : stepR g S (sts, row) ((i : Int) - g.2.1) = if gotoX (gX g) S ((i : Int) - g.2.1) = [] then (sts, row ++ [-1]) else if plX sts (gotoX (gX g) S ((i : Int) - g.2.1)) = -1 then (sts ++ [gotoX (gX g) S ((i : Int) - g.2.1)], row ++ [(sts.length : Int)]) else (sts, row ++ [plX sts (gotoX (gX g) S ((i : Int) - g.2.1))]) := rfl
      have hpl := plX_cases hstok.nd (gotoX (gX g) S ((i : Int) - g.2.1))
      have hmono := rowR_len g S ((symsX g).drop (i + 1)) (stepR g S (sts, row) ((i : Int) - g.2.1))
      rw [hrun] at hmono
      generalize stepR g S (sts, row) ((i : Int) - g.2.1) = s2 at hrun hok2 hsd hmono
      have hbr : (row.length + 1) * 8 ≤ 140737488355328 := by omega
      have hbs : (sts.length + 1) * 24 ≤ 140737488355328 := by omega
      have hknil := gotoX_nil (G := gX g) (S := S) hok.2.2.1 ((i : Int) - g.2.1)
      have hkun := kernX_univ (G := gX g) (S := S) hok.2.2.1 ((i : Int) - g.2.1)
      have hknd := sortI_nodup (kernX_sort (G := gX g) hok.1 ((i : Int) - g.2.1))
      have hgo : gotoX (gX g) S ((i : Int) - g.2.1) = clX (gX g) (kernX (gX g) S ((i : Int) - g.2.1)) := rfl
      have hgl := (gotoX_ok hG S ((i : Int) - g.2.1)).2.2
      generalize gotoX (gX g) S ((i : Int) - g.2.1) = to at hsd hpl hknil hgo hgl
      refine Holds.open 3 gs.length 0 rfl (iGet hS) rfl rfl ?_
      have hsg := set_get (a := ([.own 6 3 0 S.length] : List AV)) (iGet hS)
      refine wkc (And.intro @hlt (And.intro @hS (And.intro (@get_E _ _ _ _ hS) (And.intro @hsg (@get_E _ _ _ _ hsg))))) _ ?_
      have hokw : okw 8 ((itemssO sts).set gs.length [.own 6 3 0 S.length]) := okw_setI sts gs.length 6 3 0 S.length (by decide)
      refine Holds.loop (ι := Nat) (fun j => ⟨[(1, .pb 0 3 0 0), (2, .pb 1 2 0 0), (4, .pb 2 2 0 0), (5, .v (.int .i64 gs.length)), (6, .own 5 1 0 row.length), (7, .v (.int .i64 ((i : Int) - g.2.1))), (8, .own 7 3 0 (kernX (gX g) (S.take j) ((i : Int) - g.2.1)).length), (45, .own 6 3 0 S.length), (46, .v (.int .i64 S.length)), (47, .v (.int .i64 j))],
        [(7, ⟨97, 3, nodes (kernX (gX g) (S.take j) ((i : Int) - g.2.1))⟩), (6, ⟨97, 3, nodes S⟩), (5, ⟨3, 1, ints row⟩), (4, ⟨25, 1, intssO gs⟩), (3, ⟨94, 1, (itemssO sts).set gs.length [.own 6 3 0 S.length]⟩), (2, ⟨48, 2, [[.own 3 1 0 sts.length, .own 4 1 0 gs.length]]⟩), (1, ⟨48, 2, [[.v (.slice none 0 0), .v (.slice none 0 0)]]⟩), (0, ⟨31, 3, [grammarC g]⟩)], 8⟩)
        (fun j => j ≤ S.length) (fun j => S.length - j) 0 (Nat.zero_le _) ?_ ?_
      · exact Cov.ofn (id) rfl (by simp [go_sem, List.take_of_length_le, ren, ren1, ren2, okr, okr1, okr2, ChkT, ChkN, BlkN, nf, grammarC, show ∀ x, kernX (gX g) [] x = [] from fun _ => rfl, show nodes [] = [] from rfl, hokw, ren_itemssO]) (by simp [go_sem, List.take_of_length_le, ren, ren1, ren2, okr, okr1, okr2, ChkT, ChkN, BlkN, nf, grammarC, show ∀ x, kernX (gX g) [] x = [] from fun _ => rfl, show nodes [] = [] from rfl, hokw, ren_itemssO])
      · intro j hj
        have stepj : wr64 ((j : Int) + 1) = ((j + 1 : Nat) : Int) := wr64_id (by omega) (by omega)
        refine wkc0 _ ?_
        refine Holds.cond rfl (fun h => ?_) (fun h => ?_)
        · have hjl : j < S.length := by simp at h; omega
          have hzj : S[j]? = some S[j] := List.getElem?_eq_getElem hjl
          obtain ⟨r, d, hr, hd, hz⟩ := mem_univX.1 (hok.2.2.1 _ (List.getElem_mem hjl))
          rw [hz] at hzj
          clear hz
          rw [gX_len] at hr
          have hnx := kernX_snoc (G := gX g) (x := (i : Int) - g.2.1) hzj
          have hkl : (kernX (gX g) (S.take j) ((i : Int) - g.2.1)).length ≤ 85 := by
            have h1 := List.length_filter_le (fun z => decide (symAt (gX g) z = some ((i : Int) - g.2.1))) (S.take j)
            rw [List.length_take] at h1
            have := hok.2.2.2
            simp only [kernX, List.length_map]
            omega
          generalize kernX (gX g) (S.take j) ((i : Int) - g.2.1) = M at hnx hkl ⊢
          rw [symAt_N, advI_N] at hnx
          have cr := rightOfG g hG r (by omega)
          have h4 := ruleX_4 hG r
          generalize (ruleN (gX g) r).2 = R2 at cr hnx hd h4
          have hbm : (M.length + 1) * 24 ≤ 140737488355328 := by omega
          have hw : wr64 ((d : Int) + 1) = ((d + 1 : Nat) : Int) := wr64_id (by omega) (by omega)
          refine wkc (And.intro @hjl (And.intro @hzj (And.intro (@get_E _ _ _ _ hzj) (And.intro @nodeC.eq_1 (And.intro @itemN.eq_1 (@grammarC.eq_1)))))) _ ?_
          refine GS.cc (cr) rfl rfl rfl rfl (by simp [go_sem, List.take_of_length_le, grammarC] <;> with_reducible rfl) rfl (by simp [go_sem, List.take_of_length_le, grammarC]) ?_
          by_cases hdl : d < R2.length
          · have hdi : (d : Int) < (R2.length : Int) := by omega
            have hyd : R2[d]? = some R2[d] := List.getElem?_eq_getElem hdl
            generalize R2[d] = y at hyd
            rw [hyd] at hnx
            by_cases hyx : y = (i : Int) - g.2.1
            · have hyx1 : (y == (i : Int) - g.2.1) = true := by simp [hyx]
              rw [if_pos (by rw [hyx])] at hnx
              refine wkc (And.intro @hdl (And.intro @hdi (And.intro @hyd (And.intro (@get_E _ _ _ _ hyd) (And.intro @hyx1 (And.intro @hjl (And.intro @hzj (And.intro (@get_E _ _ _ _ hzj) (And.intro @nodeC.eq_1 (And.intro @itemN.eq_1 (And.intro @hw (@hbm)))))))))))) _ ?_
              refine ⟨j + 1, by omega, by omega, ?_⟩
              rw [stepj, hnx]
              exact Cov.ofn (nm [0, 1, 2, 3, 4, 5, 6, 11]) rfl (by simp [go_sem, List.take_of_length_le, ren, ren1, ren2, okr, okr1, okr2, ChkT, ChkN, BlkN, nf, grammarC, itemN, nodes_snocE, hokw, ren_itemssO]) (by simp [go_sem, List.take_of_length_le, ren, ren1, ren2, okr, okr1, okr2, ChkT, ChkN, BlkN, nf, grammarC, itemN, nodes_snocE, hokw, ren_itemssO])
            · have hyx1 : (y == (i : Int) - g.2.1) = false := by rw [beq_eq_false_iff_ne]; exact hyx
              rw [if_neg (by intro e; injection e with e; exact hyx e), List.append_nil] at hnx
              refine wkc (And.intro @hdl (And.intro @hdi (And.intro @hyd (And.intro (@get_E _ _ _ _ hyd) (And.intro @hyx1 (And.intro @hjl (And.intro @hzj (And.intro (@get_E _ _ _ _ hzj) (And.intro @nodeC.eq_1 (@itemN.eq_1)))))))))) _ ?_
              refine ⟨j + 1, by omega, by omega, ?_⟩
              rw [stepj, hnx]
              exact Cov.ofn (id) rfl (by simp [go_sem, List.take_of_length_le, ren, ren1, ren2, okr, okr1, okr2, ChkT, ChkN, BlkN, nf, grammarC, hokw, ren_itemssO]) (by simp [go_sem, List.take_of_length_le, ren, ren1, ren2, okr, okr1, okr2, ChkT, ChkN, BlkN, nf, grammarC, hokw, ren_itemssO])
          · have hdi : ¬ (d : Int) < (R2.length : Int) := by omega
            rw [List.getElem?_eq_none (by omega), if_neg (by simp), List.append_nil] at hnx
            refine wkc (And.intro @hdl (And.intro @hdi (And.intro @hjl (And.intro @hzj (And.intro (@get_E _ _ _ _ hzj) (And.intro @nodeC.eq_1 (@itemN.eq_1))))))) _ ?_
            refine ⟨j + 1, by omega, by omega, ?_⟩
            rw [stepj, hnx]
            exact Cov.ofn (id) rfl (by simp [go_sem, List.take_of_length_le, ren, ren1, ren2, okr, okr1, okr2, ChkT, ChkN, BlkN, nf, grammarC, hokw, ren_itemssO]) (by simp [go_sem, List.take_of_length_le, ren, ren1, ren2, okr, okr1, okr2, ChkT, ChkN, BlkN, nf, grammarC, hokw, ren_itemssO])
        · have hje : j = S.length := by simp at h; omega
          subst hje
          rw [List.take_length]
          have hkl : (kernX (gX g) S ((i : Int) - g.2.1)).length ≤ 85 := by
            have h1 := List.length_filter_le (fun z => decide (symAt (gX g) z = some ((i : Int) - g.2.1))) S
            have := hok.2.2.2
            simp only [kernX, List.length_map]
            omega
          generalize kernX (gX g) S ((i : Int) - g.2.1) = M at hknil hkun hknd hgo hkl ⊢
          first | (refine Holds.close 3 gs.length 0 (s' := ?_) rfl (set_get (iGet hS)) rfl rfl rfl rfl (by simp) (by simp [nf]) ?_ ?_; rotate_left; (· (simp [go_sem, List.take_of_length_le, List.set_set, iSet hS] <;> with_reducible rfl))) | (refine GS.close 3 gs.length 0 (s' := ?_) rfl (set_get (iGet hS)) rfl rfl (by exact rfl) (by exact rfl) (by simp) (by simp [nf]) ?_ ?_; rotate_left; (· (simp [go_sem, List.take_of_length_le, List.set_set, iSet hS] <;> with_reducible rfl)))
          by_cases hne : M = []
          · rw [if_pos (hknil.2 hne)] at hsd
            have hpos : ¬ (0 : Int) < (M.length : Int) := by rw [hne]; simp
            have hpos2 : M.length = 0 := by rw [hne]; rfl
            subst hsd
            refine wkc (And.intro @hpos (And.intro @hpos2 (@hbr))) _ ?_
            refine ⟨(i + 1, (sts, row ++ [-1])), ⟨by dsimp only; omega, hok2, hS, hfew, by simp [hrl], hrun⟩, by dsimp only; omega, ?_⟩
            rw [stepx]
            exact Cov.ofn (nm [0, 1, 2, 3, 4, 10]) rfl (by simp [go_sem, List.take_of_length_le, ren, ren1, ren2, okr, okr1, okr2, ChkT, ChkN, BlkN, nf, grammarC, ints_snoc]) (by simp [go_sem, List.take_of_length_le, ren, ren1, ren2, okr, okr1, okr2, ChkT, ChkN, BlkN, nf, grammarC, ints_snoc])
          · have hnt : to ≠ [] := fun e => hne (hknil.1 e)
            rw [if_neg hnt] at hsd
            have hpos : (0 : Int) < (M.length : Int) := by have := List.length_pos_iff.2 hne; omega
            have hpos2 : 0 < M.length := by omega
            have cc := closureG g hG M hknd hkun
            rw [← hgo] at cc
            repeat' first | (refine Holds.condT ?_ ?_; (· (simp [go_sem, List.take_of_length_le, hpos, hpos2, hne, grammarC] <;> with_reducible rfl))) | (refine Holds.condF ?_ ?_; (· (simp [go_sem, List.take_of_length_le, hpos, hpos2, hne, grammarC] <;> with_reducible rfl))) | refine Holds.seq ?_ | refine Holds.skip ?_ | refine Holds.exit ?_ | refine Holds.ret ?_ | refine thenA_normal ?_ | refine thenA_exit ?_ | refine thenA_ret ?_ | refine inB_normal ?_ | refine inB_ret ?_ | refine inB_here ?_ | (refine inB_past ?_ ?_; (· exact rfl)) | refine Holds.reg ?_ | refine Holds.block ?_ | refine GS.nil ?_ | (refine GS.stepD 84 (s' := ?_) rfl ?_ ?_ ?_; rotate_left; (· exact rfl); (· (simp [go_sem, List.take_of_length_le, hpos, hpos2, hne, grammarC] <;> with_reducible rfl))) | (refine GS.skip ?_ ?_ ?_; (· exact rfl); (· exact rfl)) | fail
            refine GS.frz [7] [(83, .im 3 (nodes M))] (.cons rfl (Fz.all rfl rfl (by simp) rfl (nodes_ok _)) .nil) ?_
            refine GS.fnn [] (cc) rfl rfl rfl rfl (by simp [go_sem, List.take_of_length_le, ren, ren1, ren2, okr, okr1, okr2, ChkN, BlkN, List.range_succ, nf, grammarC, frz] <;> with_reducible rfl) (by simp [go_sem, List.take_of_length_le, ren, ren1, ren2, okr, okr1, okr2, ChkN, BlkN, List.range_succ, nf, grammarC, frz]) (by simp [go_sem, List.take_of_length_le, ren, ren1, ren2, okr, okr1, okr2, ChkN, BlkN, List.range_succ, nf, grammarC, frz]) (by simp [List.range_succ, lb]) (ChkN.toB (by simp [go_sem, List.take_of_length_le, ren, ren1, ren2, okr, okr1, okr2, ChkN, BlkN, List.range_succ, nf, grammarC, frz])) (by decide) (by simp) rfl (.nfr (by simp) .nil) (by simp [go_sem, List.take_of_length_le, ren, ren1, ren2, okr, okr1, okr2, ChkN, BlkN, List.range_succ, nf, grammarC, frz] <;> with_reducible rfl) ?_
            have ci := indexFuncItems 83 [.pi [.im 3 (nodes to)]] (fun o => decide (o = to)) sts (by omega) rfl (fun x hx => states1 x to (by have := (hstok.st x hx).2.2.2; omega))
            rw [show fstP (fun o => decide (o = to)) sts 0 = plX sts to from rfl] at ci
            refine wkc (And.intro @grammarC.eq_1 (@frz.eq_1)) _ ?_
            refine GS.cd (ci) rfl rfl rfl rfl (by simp [go_sem, List.take_of_length_le] <;> with_reducible rfl) rfl (by exact .cons (fz_itemssD _ rfl rfl) (.cons (Fz.fnL (.cons (Fz.pbM rfl rfl rfl (.cons (Fz.all rfl rfl (by simp) rfl (nodes_ok _)) .nil)) .nil)) .nil)) rfl ?_
            rcases hpl with ⟨_, hm1⟩ | ⟨i2, h1, h2, h3⟩
            · rw [if_pos hm1] at hsd
              subst hsd
              rw [hm1]
              by_cases h60 : sts.length = 60
              · have h60i : (60 : Int) ≤ (sts.length : Int) := by omega
                have h60n : 60 ≤ sts.length := by omega
                rw [hmany (by simp only [List.length_append, List.length_singleton] at hmono; omega)]
                refine wkc (And.intro @hbs (And.intro @h60i (@h60n))) _ ?_
                refine OutF.cov (Cov.nir (n := 1) (j := 0) (i := 0) 94 1 rfl rfl rfl) ?_
                refine OutF.cov (Cov.nir (n := 1) (j := 0) (i := 1) 25 1 rfl rfl rfl) ?_
                refine OutF.mkn (xs := ?_) (nm [13, 14]) ?_ ?_ ?_ ?_ ?_ (by first | exact .inr rfl | exact .inl rfl)
                rotate_left
                · simp [go_sem, List.take_of_length_le, nirw, show itemssO [] = [] from rfl, show intssO [] = [] from rfl] <;> with_reducible rfl
                · simp [go_sem, List.take_of_length_le, ren, ren1, ren2, okr, okr1, okr2, ChkN, BlkN, List.range_succ, nf, nirw, show itemssO [] = [] from rfl, show intssO [] = [] from rfl]
                · simp [go_sem, List.take_of_length_le, ren, ren1, ren2, okr, okr1, okr2, ChkN, BlkN, List.range_succ, nf, nirw, show itemssO [] = [] from rfl, show intssO [] = [] from rfl]
                · simp [go_sem, List.take_of_length_le, ren, ren1, ren2, okr, okr1, okr2, ChkN, BlkN, List.range_succ, nf, nirw, show itemssO [] = [] from rfl, show intssO [] = [] from rfl]
                · rfl
              · have h60i : ¬ (60 : Int) ≤ (sts.length : Int) := by omega
                have h60n : ¬ 60 ≤ sts.length := by omega
                refine wkc (And.intro @hbs (And.intro @hbr (And.intro @h60i (@h60n)))) _ ?_
                refine ⟨(i + 1, (sts ++ [to], row ++ [(sts.length : Int)])), ⟨by dsimp only; omega, hok2, by dsimp only; rw [List.getElem?_append_left hlt]; exact hS, by simp; omega, by simp [hrl], hrun⟩, by dsimp only; omega, ?_⟩
                rw [stepx]
                refine Cov.trans ?_ (Cov.close 12 sts.length 0 rfl (iAt sts _) rfl rfl rfl rfl (by simp) (by simp))
                simp only [rm, st, List.set_set]
                exact Cov.ofn (nm [0, 1, 2, 12, 4, 15]) rfl (by simp [go_sem, List.take_of_length_le, ren, ren1, ren2, okr, okr1, okr2, ChkT, ChkN, BlkN, nf, grammarC, iSnoc, iApp, ints_snoc]) (by simp [go_sem, List.take_of_length_le, ren, ren1, ren2, okr, okr1, okr2, ChkT, ChkN, BlkN, nf, grammarC, iSnoc, iApp, ints_snoc])
            · have hm2 : ¬ plX sts to = -1 := by omega
              have hm3 : ¬ (i2 : Int) < 0 := by omega
              have h60i : ¬ (60 : Int) ≤ (i2 : Int) := by omega
              have h60n : ¬ 60 ≤ i2 := by omega
              rw [if_neg hm2, h3] at hsd
              subst hsd
              rw [h3]
              refine wkc (And.intro @hbr (And.intro @hm3 (And.intro @h60i (@h60n)))) _ ?_
              refine ⟨(i + 1, (sts, row ++ [(i2 : Int)])), ⟨by dsimp only; omega, hok2, hS, hfew, by simp [hrl], hrun⟩, by dsimp only; omega, ?_⟩
              rw [stepx]
              exact Cov.ofn (nm [0, 1, 2, 3, 4, 12]) rfl (by simp [go_sem, List.take_of_length_le, ren, ren1, ren2, okr, okr1, okr2, ChkT, ChkN, BlkN, nf, grammarC, ints_snoc]) (by simp [go_sem, List.take_of_length_le, ren, ren1, ren2, okr, okr1, okr2, ChkT, ChkN, BlkN, nf, grammarC, ints_snoc])
    · have hie : i = (symsX g).length := by simp at h; omega
      subst hie
      rw [List.drop_length] at hrun
      change (sts, row) = R at hrun
      subst hrun
      dsimp only at hmany hnext
      have hbg : (gs.length + 1) * 24 ≤ 140737488355328 := by omega
      refine wkc (@hbg) _ ?_
      refine ⟨(sts, gs ++ [row]), hnext (by omega), by dsimp only; rw [List.length_append, List.length_singleton]; omega, ?_⟩
      rw [stepk]
      refine Cov.trans ?_ (Cov.close 8 gs.length 0 rfl (oAt gs _) rfl rfl rfl rfl (by simp) (by simp))
      simp only [rm, st, List.set_set]
      exact Cov.ofn (nm [0, 1, 2, 3, 8]) rfl (by simp [go_sem, List.take_of_length_le, ren, ren1, ren2, okr, okr1, okr2, ChkT, ChkN, BlkN, nf, grammarC, oSnoc, oApp]) (by simp [go_sem, List.take_of_length_le, ren, ren1, ren2, okr, okr1, okr2, ChkT, ChkN, BlkN, nf, grammarC, oSnoc, oApp])
  · rw [hI.end_ (by dsimp only; simp at h; omega)]
    refine wkc0 _ ?_
    refine OutF.mkn (xs := ?_) (nm [3, 4]) ?_ ?_ ?_ ?_ ?_ (by first | exact .inr rfl | exact .inl rfl)
    rotate_left
    · simp [go_sem, List.take_of_length_le] <;> with_reducible rfl
    · simp [go_sem, List.take_of_length_le, ren, ren1, ren2, okr, okr1, okr2, ChkN, BlkN, List.range_succ, nf]
    · simp [go_sem, List.take_of_length_le, ren, ren1, ren2, okr, okr1, okr2, ChkN, BlkN, List.range_succ, nf]
    · simp [go_sem, List.take_of_length_le, ren, ren1, ren2, okr, okr1, okr2, ChkN, BlkN, List.range_succ, nf]
    · rfl
end Go.Proofs.YtkolhcoeifghpaaGreat.En
end
section
namespace Go.Proofs.YtkolhcoeifghpaaGreat.En
open Go.RowKit
set_option linter.unusedSimpArgs false
set_option linter.unusedVariables false
set_option maxHeartbeats 4000000
end Go.Proofs.YtkolhcoeifghpaaGreat.En
end
section
namespace Go.Proofs.YtkolhcoeifghpaaGreat.En
open Go.RowKit
set_option linter.unusedSimpArgs false
set_option linter.unusedVariables false
set_option maxHeartbeats 4000000
@[simp] theorem onyR_dones (l : List (DoneT)) : onyR (dones l) := fun row hr x hx => by
  have := dones_ok l row hr x hx
  simp only [dones, List.mem_map] at hr
  obtain ⟨n, _, rfl⟩ := hr
  simp only [doneC, List.mem_cons, List.not_mem_nil, or_false] at hx
  rcases hx with rfl | rfl | rfl | rfl <;> simp
end Go.Proofs.YtkolhcoeifghpaaGreat.En
end
section
namespace Go.Proofs.YtkolhcoeifghpaaGreat.En
open Go.RowKit
set_option linter.unusedSimpArgs false
set_option linter.unusedVariables false
end Go.Proofs.YtkolhcoeifghpaaGreat.En
end
section
namespace Go.Proofs.YtkolhcoeifghpaaGreat.En
open Go.RowKit
set_option linter.unusedSimpArgs false
set_option linter.unusedVariables false
set_option maxHeartbeats 4000000
@[simp] theorem onyR_itemssO (l : Sets3) : onyR (itemssO l) := ony_itemssO l
def lrC (x : LrT) : List AV := [.im 1 (itemss x.1), .im 1 (intss x.2)]
end Go.Proofs.YtkolhcoeifghpaaGreat.En
end
section
namespace Go.Proofs.YtkolhcoeifghpaaGreat.En
open Go.RowKit Go.Shelf
set_option linter.unusedVariables false
end Go.Proofs.YtkolhcoeifghpaaGreat.En
end
section
namespace Go.Proofs.YtkolhcoeifghpaaGreat.En
open Go.RowKit
set_option linter.unusedSimpArgs false
set_option linter.unusedVariables false
set_option maxHeartbeats 4000000
theorem hasN_lstA (S : Int → Bool) {x : Int} (h0 : 0 ≤ x) (h5 : x ≤ 5) : hasN (lstN S) x = S x := by
  rw [hasN_dec, Bool.eq_iff_iff, decide_eq_true_eq, lstN, List.mem_filter, mem_univN]
  exact ⟨fun h => h.2, fun h => ⟨⟨h0, h5⟩, h⟩⟩
theorem lstN_len (S : Int → Bool) : (lstN S).length ≤ 6 := Nat.le_trans (List.length_filter_le _ _) (by decide)
def rowsT (n : Nat) (S : Int × Int → Bool) : List (List Int) := (List.range n).map fun x : Nat => lstT fun t => S (x, t)
@[simp] theorem rowsT_len (n : Nat) (S : Int × Int → Bool) : (rowsT n S).length = n := by simp [rowsT]
theorem rowsT_at (S : Int × Int → Bool) {n x : Nat} (h : x < n) : (rowsT n S)[x]? = some (lstT fun t => S (x, t)) := by
  simp [rowsT, List.getElem?_range h]
theorem rowsT_none (n : Nat) : rowsT n (fun _ => false) = List.replicate n [] := by
  refine List.ext_getElem? fun i => ?_
  by_cases h : i < n
  · rw [rowsT_at _ h, List.getElem?_replicate, if_pos h]; rfl
  · rw [List.getElem?_eq_none (by simp; omega), List.getElem?_eq_none (by simp; omega)]
theorem rowsT_put (S : Int × Int → Bool) {n x : Nat} (h : x < n) {t : Int} (ht : 0 ≤ t ∧ t ≤ 3) : (rowsT n S).set x (putL (lstT fun t => S (x, t)) t) = rowsT n (insI S (x, t)) := by
  refine List.ext_getElem? fun i => ?_
  by_cases hi : i < n
  · rw [rowsT_at _ hi, List.getElem?_set]
    by_cases e : x = i
    · subst e
      rw [if_pos rfl, if_pos (by simpa using h), lstT_put _ ht]
      congr 1
      exact lstT_ext fun u _ _ => by simp [insI]
    · rw [if_neg e, rowsT_at _ hi]
      congr 1
      refine lstT_ext fun u _ _ => ?_
      have : ¬ ((i : Int) = (x : Int)) := by omega
      simp [insI, this]
  · rw [List.getElem?_eq_none (by simp; omega), List.getElem?_eq_none (by simp; omega)]
theorem lstT_step (b : Int → Bool) {L : List Int} {j : Nat} {t : Int} (h : L[j]? = some t) (ht : 0 ≤ t ∧ t ≤ 3) : putL (lstT fun u => b u || hasN (L.take j) u) t = lstT fun u => b u || hasN (L.take (j + 1)) u := by
  rw [lstT_put _ ht]
  refine lstT_ext fun u _ _ => ?_
  rw [insI, Bool.eq_iff_iff]
  simp only [hasN_dec, Bool.or_eq_true, decide_eq_true_eq, List.take_add_one, h, List.mem_append, Option.toList_some, List.mem_singleton]
  exact or_assoc
theorem l14First (g : GrammarT) (hG : OkG g) (S : Int × Int → Bool) (n : Nat) (hn : (n : Int) = g.1) (right : List Int) (hl : right.length ≤ 4) (h1 : ∀ x ∈ right, x < g.1) (h0 : ∀ x ∈ right, -4 ≤ x) :
    Fn Tryz.prog 107 1 [.ag (grammarC g), .own 0 1 0 n, .im 1 (ints right)] [(0, ⟨25, 1, intss (rowsT n S)⟩)] (.im 1 (ints (lstT fun t => begT (madeS g false) S right t))) 1 [(0, ⟨25, 1, intss (rowsT n S)⟩)] := by
  have cn := l3Close g hG false
  have hn1 := hG.n1
  refine Fn.mk (rs := [.tmp 6]) (nt := 47) Tryz.func107 (by kernel_rfl) rfl rfl rfl (by simp) ?_
  simp only [sl, grammarC]
  refine wkc (@grammarC.eq_1) _ ?_
  refine GS.cc (cn) rfl rfl rfl rfl (by simp [go_sem, List.take_of_length_le, grammarC] <;> with_reducible rfl) rfl (by simp [go_sem, List.take_of_length_le, grammarC]) ?_
  generalize hN : madeS g false = N
  have hNl := lstN_len N
  refine wkc0 _ ?_
  refine Holds.frz [] [(8, .im 1 (ints []))] (.cons rfl (Fz.nl _) .nil) ?_
  refine Holds.loop (ι := Nat) (fun a => ⟨[(1, .own 0 1 0 n), (3, .pb 1 3 0 0), (7, .im 1 (ints (lstN N))), (8, .im 1 (ints (lstT fun t => begT N S (right.take a) t))), (15, .im 1 (ints right)), (16, .v (.int .i64 right.length)), (17, .v (.int .i64 a))], [(1, ⟨31, 3, [grammarC g]⟩), (0, ⟨25, 1, intss (rowsT n S)⟩)], 2⟩)
    (fun a => a ≤ right.length ∧ okM false N (right.take a) = true) (fun a => right.length - a) 0 ⟨Nat.zero_le _, rfl⟩ ?_ ?_
  · have h00 : lstT (fun t => begT N S (right.take 0) t) = [] := lstT_none
    rw [h00]
    exact Cov.ofn (id) rfl (by simp [go_sem, List.take_of_length_le, ren, ren1, ren2, okr, okr1, okr2, ChkT, ChkN, BlkN, nf, grammarC, frz]) (by simp [go_sem, List.take_of_length_le, ren, ren1, ren2, okr, okr1, okr2, ChkT, ChkN, BlkN, nf, grammarC, frz])
  rintro a ⟨ha, hok⟩
  have stepa : wr64 ((a : Int) + 1) = ((a + 1 : Nat) : Int) := wr64_id (by omega) (by omega)
  refine wkc0 _ ?_
  refine Holds.cond rfl (fun h => ?_) (fun h => ?_)
  · have hla : a < right.length := by simp at h; omega
    have hxa : right[a]? = some right[a] := List.getElem?_eq_getElem hla
    have hxm := List.getElem_mem hla
    generalize right[a] = x at hxa hxm
    have hx5 := h1 x hxm
    have hx4 := h0 x hxm
    have hnext := fun t => begT_next (F := S) hxa hok t
    have hstop := fun h t => begT_stop (F := S) hxa hok h t
    generalize hb : begT N S (right.take a) = b at hnext hstop ⊢
    have hbl := lstT_len b
    by_cases hx0 : x < 0
    · have hx1 : ¬ 0 ≤ x := by omega
      have e2 : (lstT fun t => begT N S right t) = putL (lstT b) (-1 - x) := by
        rw [lstT_put b (by omega)]
        refine lstT_ext fun t _ _ => ?_
        rw [hstop (by simp [hx1]) t, headT, if_pos hx0, insI]
      rw [e2]
      have cpu := l1Put (lstT b) (-1 - x) (by omega)
      have hwx : wr64 (-1 - x) = -1 - x := wr64_id (by omega) (by omega)
      refine wkc (And.intro (@get_E _ _ _ _ hxa) (And.intro @hxa (And.intro @hla (And.intro @hx0 (@hwx))))) _ ?_
      refine GS.cc (cpu) rfl rfl rfl rfl (by simp [go_sem, List.take_of_length_le] <;> with_reducible rfl) rfl (by simp [go_sem, List.take_of_length_le]) ?_
      refine wkc0 _ ?_
      refine OutF.mkn (xs := ?_) (nm [0]) ?_ ?_ ?_ ?_ ?_ (by first | exact .inr rfl | exact .inl rfl)
      rotate_left
      · simp [go_sem, List.take_of_length_le] <;> with_reducible rfl
      · simp [go_sem, List.take_of_length_le, ren, ren1, ren2, okr, okr1, okr2, ChkN, BlkN, List.range_succ, nf]
      · simp [go_sem, List.take_of_length_le, ren, ren1, ren2, okr, okr1, okr2, ChkN, BlkN, List.range_succ, nf]
      · simp [go_sem, List.take_of_length_le, ren, ren1, ren2, okr, okr1, okr2, ChkN, BlkN, List.range_succ, nf]
      · rfl
    · obtain ⟨m, rfl⟩ : ∃ m : Nat, x = (m : Int) := ⟨x.toNat, by omega⟩
      have hmn : m < n := by omega
      have hrow := rowsT_at S hmn
      have hno : okM false N (right.take (a + 1)) = N (m : Int) := by
        rw [okM_snoc false N hxa, hok]; simp
      have hrl := lstT_len fun t => S ((m : Int), t)
      have hrm := lstT_mem fun t => S ((m : Int), t)
      have hall : (lstT fun u => b u || hasN ((lstT fun t => S ((m : Int), t)).take (lstT fun t => S ((m : Int), t)).length) u) = lstT fun t => begT N S (right.take (a + 1)) t := by
        refine lstT_ext fun u hu0 hu1 => ?_
        rw [List.take_length, lstT_has _ ⟨hu0, hu1⟩, hnext u, headT, if_neg hx0]
      generalize (lstT fun t => S ((m : Int), t)) = L at hrow hrl hrm hall
      refine wkc (And.intro (@get_E _ _ _ _ hxa) (And.intro @hxa (And.intro @hla (And.intro @hx0 (And.intro @hmn (And.intro @hrow (And.intro (@get_E _ _ _ _ hrow) (@intsC.eq_1)))))))) _ ?_
      refine Holds.loop (ι := Nat) (fun j => ⟨[(1, .own 0 1 0 n), (3, .pb 1 3 0 0), (7, .im 1 (ints (lstN N))), (8, .im 1 (ints (lstT fun u => b u || hasN (L.take j) u))), (10, .v (.int .i64 m)), (15, .im 1 (ints right)), (16, .v (.int .i64 right.length)), (17, .v (.int .i64 a)), (30, .im 1 (ints L)), (31, .v (.int .i64 L.length)), (32, .v (.int .i64 j))], [(1, ⟨31, 3, [grammarC g]⟩), (0, ⟨25, 1, intss (rowsT n S)⟩)], 2⟩)
        (fun j => j ≤ L.length) (fun j => L.length - j) 0 (Nat.zero_le _) ?_ ?_
      · rw [show (fun u => b u || hasN (L.take 0) u) = b from by funext u; simp [hasN]]
        exact Cov.ofn (id) rfl (by simp [go_sem, List.take_of_length_le, ren, ren1, ren2, okr, okr1, okr2, ChkT, ChkN, BlkN, nf, grammarC]) (by simp [go_sem, List.take_of_length_le, ren, ren1, ren2, okr, okr1, okr2, ChkT, ChkN, BlkN, nf, grammarC])
      intro j hj
      have stepj : wr64 ((j : Int) + 1) = ((j + 1 : Nat) : Int) := wr64_id (by omega) (by omega)
      refine wkc0 _ ?_
      refine Holds.cond rfl (fun h => ?_) (fun h => ?_)
      · have hlj : j < L.length := by simp at h; omega
        have htj : L[j]? = some L[j] := List.getElem?_eq_getElem hlj
        have htm := ((hrm _).1 (List.getElem_mem hlj)).1
        generalize L[j] = t at htj htm
        have hst := lstT_step b htj htm
        have cpu := l1Put (lstT fun u => b u || hasN (L.take j) u) t (by have := lstT_len fun u => b u || hasN (L.take j) u; omega)
        rw [hst] at cpu
        refine wkc (And.intro (@get_E _ _ _ _ htj) (And.intro @htj (@hlj))) _ ?_
        refine GS.cc (cpu) rfl rfl rfl rfl (by simp [go_sem, List.take_of_length_le] <;> with_reducible rfl) rfl (by simp [go_sem, List.take_of_length_le]) ?_
        refine wkc0 _ ?_
        refine ⟨j + 1, by omega, by omega, ?_⟩
        rw [stepj]
        exact Cov.ofn (id) rfl (by simp [go_sem, List.take_of_length_le, ren, ren1, ren2, okr, okr1, okr2, ChkT, ChkN, BlkN, nf, grammarC]) (by simp [go_sem, List.take_of_length_le, ren, ren1, ren2, okr, okr1, okr2, ChkT, ChkN, BlkN, nf, grammarC])
      · have hje : j = L.length := by simp at h; omega
        subst hje
        rw [hall]
        have ch := l1Has (lstN N) m (by omega)
        rw [hasN_lstA N (by omega) (by omega)] at ch
        refine wkc0 _ ?_
        refine GS.cc (ch) rfl rfl rfl rfl (by simp [go_sem, List.take_of_length_le] <;> with_reducible rfl) rfl (by simp [go_sem, List.take_of_length_le]) ?_
        refine wkc0 _ ?_
        refine Holds.cond rfl (fun h => ?_) (fun h => ?_)
        · have hNm : N (m : Int) = false := by simpa using h
          have e2 : (fun t => begT N S right t) = fun t => begT N S (right.take (a + 1)) t := by
            funext t
            rw [hstop (by simp [hNm]) t, hnext t]
          rw [e2]
          refine wkc0 _ ?_
          refine OutF.mkn (xs := ?_) (nm [0]) ?_ ?_ ?_ ?_ ?_ (by first | exact .inr rfl | exact .inl rfl)
          rotate_left
          · simp [go_sem, List.take_of_length_le] <;> with_reducible rfl
          · simp [go_sem, List.take_of_length_le, ren, ren1, ren2, okr, okr1, okr2, ChkN, BlkN, List.range_succ, nf]
          · simp [go_sem, List.take_of_length_le, ren, ren1, ren2, okr, okr1, okr2, ChkN, BlkN, List.range_succ, nf]
          · simp [go_sem, List.take_of_length_le, ren, ren1, ren2, okr, okr1, okr2, ChkN, BlkN, List.range_succ, nf]
          · rfl
        · have hNm : N (m : Int) = true := by simpa using h
          rw [hNm] at hno
          refine wkc0 _ ?_
          refine ⟨a + 1, ⟨by omega, hno⟩, by omega, ?_⟩
          rw [stepa]
          exact Cov.ofn (id) rfl (by simp [go_sem, List.take_of_length_le, ren, ren1, ren2, okr, okr1, okr2, ChkT, ChkN, BlkN, nf, grammarC]) (by simp [go_sem, List.take_of_length_le, ren, ren1, ren2, okr, okr1, okr2, ChkT, ChkN, BlkN, nf, grammarC])
  · have hae : a = right.length := by simp at h; omega
    subst hae
    rw [List.take_length]
    refine wkc0 _ ?_
    refine OutF.mkn (xs := ?_) (nm [0]) ?_ ?_ ?_ ?_ ?_ (by first | exact .inr rfl | exact .inl rfl)
    rotate_left
    · simp [go_sem, List.take_of_length_le] <;> with_reducible rfl
    · simp [go_sem, List.take_of_length_le, ren, ren1, ren2, okr, okr1, okr2, ChkN, BlkN, List.range_succ, nf]
    · simp [go_sem, List.take_of_length_le, ren, ren1, ren2, okr, okr1, okr2, ChkN, BlkN, List.range_succ, nf]
    · simp [go_sem, List.take_of_length_le, ren, ren1, ren2, okr, okr1, okr2, ChkN, BlkN, List.range_succ, nf]
    · rfl
theorem l14Null (g : GrammarT) (hG : OkG g) (right : List Int) (hl : right.length ≤ 4) (h1 : ∀ x ∈ right, x < g.1) : Pure Tryz.prog 69 [.ag (grammarC g), .im 1 (ints right)] (.v (.bool (nullS g right))) := by
  have cn := l3Close g hG false
  have hn1 := hG.n1
  unfold nullS
  refine Pure.mk (rs := [.tmp 4]) (nt := 25) Tryz.func69 (by kernel_rfl) rfl rfl rfl (by simp) ?_
  simp only [sl, grammarC]
  refine wkc (@grammarC.eq_1) _ ?_
  refine GS.cc (cn) rfl rfl rfl rfl (by simp [go_sem, List.take_of_length_le, grammarC] <;> with_reducible rfl) rfl (by simp [go_sem, List.take_of_length_le, grammarC]) ?_
  generalize hN : madeS g false = N
  have hNl := lstN_len N
  refine wkc0 _ ?_
  refine Holds.loop (ι := Nat) (fun a => ⟨[(5, .im 1 (ints (lstN N))), (10, .im 1 (ints right)), (11, .v (.int .i64 right.length)), (12, .v (.int .i64 a))], [(0, ⟨31, 3, [grammarC g]⟩)], 1⟩)
    (fun a => a ≤ right.length ∧ okM false N (right.take a) = true) (fun a => right.length - a) 0 ⟨Nat.zero_le _, rfl⟩ ?_ ?_
  · exact Cov.ofn (id) rfl (by simp [go_sem, List.take_of_length_le, ren, ren1, ren2, okr, okr1, okr2, ChkT, ChkN, BlkN, nf, grammarC]) (by simp [go_sem, List.take_of_length_le, ren, ren1, ren2, okr, okr1, okr2, ChkT, ChkN, BlkN, nf, grammarC])
  rintro a ⟨ha, hok⟩
  have stepa : wr64 ((a : Int) + 1) = ((a + 1 : Nat) : Int) := wr64_id (by omega) (by omega)
  refine wkc0 _ ?_
  refine Holds.cond rfl (fun h => ?_) (fun h => ?_)
  · have hla : a < right.length := by simp at h; omega
    have hxa : right[a]? = some right[a] := List.getElem?_eq_getElem hla
    have hxm := List.getElem_mem hla
    generalize right[a] = x at hxa hxm
    have hx5 := h1 x hxm
    have hstop := fun h => okM_stop (nu := N) hxa h
    by_cases hx0 : x < 0
    · have hx1 : ¬ 0 ≤ x := by omega
      rw [hstop (by simp [hx1])]
      refine wkc (And.intro (@get_E _ _ _ _ hxa) (And.intro @hxa (And.intro @hla (@hx0)))) _ ?_
      refine Out.mk (xs := ?_) ?_ ?_ (by first | exact .inr rfl | exact .inl rfl)
      rotate_left
      · simp [go_sem, List.take_of_length_le] <;> with_reducible rfl
      exact .v _
    · have hno : okM false N (right.take (a + 1)) = N x := by
        have hx1 : 0 ≤ x := by omega
        rw [okM_snoc false N hxa, hok]; simp [hx1]
      have ch := l1Has (lstN N) x (by omega)
      rw [hasN_lstA N (by omega) (by omega)] at ch
      refine wkc (And.intro (@get_E _ _ _ _ hxa) (And.intro @hxa (And.intro @hla (@hx0)))) _ ?_
      refine GS.cc (ch) rfl rfl rfl rfl (by simp [go_sem, List.take_of_length_le] <;> with_reducible rfl) rfl (by simp [go_sem, List.take_of_length_le]) ?_
      refine wkc0 _ ?_
      refine Holds.cond rfl (fun h => ?_) (fun h => ?_)
      · have hNm : N x = false := by simpa using h
        rw [hstop (by simp [hNm])]
        refine wkc0 _ ?_
        refine Out.mk (xs := ?_) ?_ ?_ (by first | exact .inr rfl | exact .inl rfl)
        rotate_left
        · simp [go_sem, List.take_of_length_le] <;> with_reducible rfl
        exact .v _
      · have hNm : N x = true := by simpa using h
        rw [hNm] at hno
        refine wkc0 _ ?_
        refine ⟨a + 1, ⟨by omega, hno⟩, by omega, ?_⟩
        rw [stepa]
        exact Cov.ofn (id) rfl (by simp [go_sem, List.take_of_length_le, ren, ren1, ren2, okr, okr1, okr2, ChkT, ChkN, BlkN, nf, grammarC]) (by simp [go_sem, List.take_of_length_le, ren, ren1, ren2, okr, okr1, okr2, ChkT, ChkN, BlkN, nf, grammarC])
  · have hae : a = right.length := by simp at h; omega
    subst hae
    rw [List.take_length] at hok
    rw [hok]
    refine wkc0 _ ?_
    refine Out.mk (xs := ?_) ?_ ?_ (by first | exact .inr rfl | exact .inl rfl)
    rotate_left
    · simp [go_sem, List.take_of_length_le] <;> with_reducible rfl
    exact .v _
end Go.Proofs.YtkolhcoeifghpaaGreat.En
end
section
namespace Go.Proofs.YtkolhcoeifghpaaGreat.En
open Go.RowKit
set_option linter.unusedSimpArgs false
set_option linter.unusedVariables false
set_option maxHeartbeats 4000000
theorem intss_set (l : List (List Int)) (k : Nat) (r : List Int) : (intss l).set k [.im 1 (ints r)] = intss (l.set k r) := by simp [intss, intsC]
theorem intss_cl (l : List (List Int)) : ∀ row ∈ intss l, ∀ x ∈ row, cl1 x = true := fun row hr x hx => by
  simp only [intss, List.mem_map] at hr
  obtain ⟨r, _, rfl⟩ := hr
  simp only [intsC, List.mem_singleton] at hx
  subst hx; rfl
theorem l14Firsts (g : GrammarT) (hG : OkG g) (n : Nat) (hn : (n : Int) = g.1) : Fn Tryz.prog 108 0 [.ag (grammarC g)] [] (.own 0 1 0 n) 1 [(0, ⟨25, 1, intss (rowsT n (firstS g))⟩)] := by
  have cm := l3Close g hG true
  have hlen := hG.len
  have hn1 := hG.n1
  have hn0 := hG.n0
  have hml := lstN_len (madeS g true)
  refine Fn.mk (rs := [.tmp 2]) (nt := 79) Tryz.func108 (by kernel_rfl) rfl rfl rfl (by simp) ?_
  simp only [sl, grammarC]
  refine wkdc (@grammarC.eq_1) _ ?_
  first | refine GS.cc (cm) rfl rfl rfl rfl (by simp [go_sem, List.take_of_length_le, grammarC] <;> with_reducible rfl) rfl (by simp [go_sem, List.take_of_length_le, grammarC]) ?_ | refine Gd.cc (cm) rfl rfl rfl rfl (by simp [go_sem, List.take_of_length_le, grammarC] <;> with_reducible rfl) rfl (by simp [go_sem, List.take_of_length_le, grammarC]) ?_
  have hgn : g.1 = (n : Int) := hn.symm
  refine wkdc (And.intro @grammarC.eq_1 (And.intro @hgn (And.intro ((show (0:Int) ≤ (n : Int) by omega)) (And.intro ((show (24:Int) * n ≤ 281474976710656 by omega)) ((show (n : Int) ≤ 281474976710656 by omega)))))) _ ?_
  refine Holds.nilI 1 n 1 rfl rfl ?_
  have hO0 : List.replicate n ([.im 1 []] : List AV) = intss (rowsT n (fun _ => false)) := by rw [rowsT_none]; simp [intss, intsC, ints]
  refine Holds.loop (ι := (Int × Int → Bool) × Bool) (fun i => ⟨[(1, .pb 0 3 0 0), (3, .im 1 (ints (lstN (madeS g true)))), (4, .own 1 1 0 n), (5, .v (.bool i.2))], [(1, ⟨25, 1, intss (rowsT n i.1)⟩), (0, ⟨31, 3, [grammarC g]⟩)], 2⟩)
    (fun i => LowI (impsB g g.2.2) i.1 ∧ (i.2 = false → i.1 = firstS g)) (fun i => 2 * (24 - (univP.filter i.1).length) + if i.2 then 1 else 0) (fun _ => false, true) ⟨fun T hT x hx => absurd hx (by simp), fun e => (by cases e)⟩ ?_ ?_
  · rw [← hO0]
    have hnf0 : nfr (List.replicate n ([.im 1 []] : List AV)) := .rep (by simp [nf])
    exact Cov.ofn (id) rfl (by simp [go_sem, List.take_of_length_le, ren, ren1, ren2, okr, okr1, okr2, ChkT, ChkN, BlkN, nf, grammarC, hgn, st, hnf0]) (by simp [go_sem, List.take_of_length_le, ren, ren1, ren2, okr, okr1, okr2, ChkT, ChkN, BlkN, nf, grammarC, hgn, st, hnf0])
  rintro ⟨S0, more0⟩ ⟨hlow0, hfin⟩
  dsimp only at hlow0 hfin ⊢
  refine wkdc0 _ ?_
  refine Holds.cond rfl (fun h => ?_) (fun h => ?_)
  · subst h
    have hc0 := card_leP S0
    refine wkdc (@grammarC.eq_1) _ ?_
    refine Holds.loop (ι := Nat × (Int × Int → Bool) × Bool) (fun i => ⟨[(1, .pb 0 3 0 0), (3, .im 1 (ints (lstN (madeS g true)))), (4, .own 1 1 0 n), (5, .v (.bool i.2.2)), (20, .im 2 (rules g.2.2)), (21, .v (.int .i64 g.2.2.length)), (22, .v (.int .i64 i.1))], [(1, ⟨25, 1, intss (rowsT n i.2.1)⟩), (0, ⟨31, 3, [grammarC g]⟩)], 2⟩)
      (fun i => i.1 ≤ g.2.2.length ∧ ClI (impsB g g.2.2) univP S0 i.2.1 i.2.2 (impsB g (g.2.2.take i.1))) (fun i => g.2.2.length - i.1) (0, S0, false) ⟨Nat.zero_le _, ClI.start _ hlow0⟩ ?_ ?_
    · exact Cov.ofn (id) rfl (by simp [go_sem, List.take_of_length_le, ren, ren1, ren2, okr, okr1, okr2, ChkT, ChkN, BlkN, nf, grammarC]) (by simp [go_sem, List.take_of_length_le, ren, ren1, ren2, okr, okr1, okr2, ChkT, ChkN, BlkN, nf, grammarC])
    rintro ⟨k, S, more⟩ ⟨hk, hC⟩
    dsimp only at hk hC ⊢
    have stepk : wr64 ((k : Int) + 1) = ((k + 1 : Nat) : Int) := wr64_id (by omega) (by omega)
    refine wkdc0 _ ?_
    refine Holds.cond rfl (fun h => ?_) (fun h => ?_)
    · have hlt : k < g.2.2.length := by simp at h; omega
      have hrk : g.2.2[k]? = some g.2.2[k] := List.getElem?_eq_getElem hlt
      have hmem := List.getElem_mem hlt
      generalize g.2.2[k] = r at hrk hmem
      have hr0 := hG.l0 r hmem
      have hr1 := hG.l1 r hmem
      have hr4 := hG.r4 r hmem
      have hs0 := hG.s0 r hmem
      have hs1 := hG.s1 r hmem
      have ht1 := hG.t1
      obtain ⟨m, hm⟩ : ∃ m : Nat, r.1 = (m : Int) := ⟨r.1.toNat, by omega⟩
      have hmn : m < n := by omega
      refine wkdc (And.intro (@get_E _ _ _ _ hrk) (And.intro @hrk (And.intro @hlt (@ruleC.eq_1)))) _ ?_
      refine Holds.loop (ι := Nat) (fun a => ⟨[(1, .pb 0 3 0 0), (3, .im 1 (ints (lstN (madeS g true)))), (4, .own 1 1 0 n), (5, .v (.bool more)), (7, .pb 2 2 0 0), (8, .v (.bool (okM true (madeS g true) (r.2.take a)))), (20, .im 2 (rules g.2.2)), (21, .v (.int .i64 g.2.2.length)), (22, .v (.int .i64 k)), (27, .im 1 (ints r.2)), (28, .v (.int .i64 r.2.length)), (29, .v (.int .i64 a))], [(2, ⟨66, 2, [ruleC r]⟩), (1, ⟨25, 1, intss (rowsT n S)⟩), (0, ⟨31, 3, [grammarC g]⟩)], 3⟩)
        (fun a => a ≤ r.2.length) (fun a => r.2.length - a) 0 (Nat.zero_le _) ?_ ?_
      · exact Cov.ofn (id) rfl (by simp [go_sem, List.take_of_length_le, ren, ren1, ren2, okr, okr1, okr2, ChkT, ChkN, BlkN, nf, grammarC, ruleC, okM]) (by simp [go_sem, List.take_of_length_le, ren, ren1, ren2, okr, okr1, okr2, ChkT, ChkN, BlkN, nf, grammarC, ruleC, okM])
      intro a ha
      have stepa : wr64 ((a : Int) + 1) = ((a + 1 : Nat) : Int) := wr64_id (by omega) (by omega)
      refine wkdc0 _ ?_
      refine Holds.cond rfl (fun h => ?_) (fun h => ?_)
      · have hla : a < r.2.length := by simp at h; omega
        have hxa : r.2[a]? = some r.2[a] := List.getElem?_eq_getElem hla
        have hxm := List.getElem_mem hla
        generalize r.2[a] = x at hxa hxm
        have hx5 := hs1 x hxm
        have hsn := okM_snoc true (madeS g true) hxa
        cases hb : okM true (madeS g true) (r.2.take a) with
        | false =>
          rw [hb, Bool.false_and] at hsn
          refine wkdc (And.intro (@get_E _ _ _ _ hxa) (And.intro @hxa (@hla))) _ ?_
          refine ⟨a + 1, by omega, by omega, ?_⟩
          dsimp only
          rw [stepa, hsn]
          exact Cov.ofn (id) rfl (by simp [go_sem, List.take_of_length_le, ren, ren1, ren2, okr, okr1, okr2, ChkT, ChkN, BlkN, nf, grammarC, ruleC]) (by simp [go_sem, List.take_of_length_le, ren, ren1, ren2, okr, okr1, okr2, ChkT, ChkN, BlkN, nf, grammarC, ruleC])
        | true =>
          rw [hb, Bool.true_and] at hsn
          by_cases hx0 : x < 0
          · have hsn' : okM true (madeS g true) (r.2.take (a + 1)) = true := by rw [hsn]; simp [hx0]
            refine wkdc (And.intro (@get_E _ _ _ _ hxa) (And.intro @hxa (And.intro @hla (@hx0)))) _ ?_
            refine ⟨a + 1, by omega, by omega, ?_⟩
            dsimp only
            rw [stepa, hsn']
            exact Cov.ofn (id) rfl (by simp [go_sem, List.take_of_length_le, ren, ren1, ren2, okr, okr1, okr2, ChkT, ChkN, BlkN, nf, grammarC, ruleC]) (by simp [go_sem, List.take_of_length_le, ren, ren1, ren2, okr, okr1, okr2, ChkT, ChkN, BlkN, nf, grammarC, ruleC])
          · have hx1 : 0 ≤ x := by omega
            have ch := l1Has (lstN (madeS g true)) x (by omega)
            rw [hasN_lstA _ (by omega) (by omega)] at ch
            have hsn' : okM true (madeS g true) (r.2.take (a + 1)) = madeS g true x := by rw [hsn]; simp [hx0, hx1]
            refine wkdc (And.intro (@get_E _ _ _ _ hxa) (And.intro @hxa (And.intro @hla (@hx0)))) _ ?_
            first | refine GS.cc (ch) rfl rfl rfl rfl (by simp [go_sem, List.take_of_length_le] <;> with_reducible rfl) rfl (by simp [go_sem, List.take_of_length_le]) ?_ | refine Gd.cc (ch) rfl rfl rfl rfl (by simp [go_sem, List.take_of_length_le] <;> with_reducible rfl) rfl (by simp [go_sem, List.take_of_length_le]) ?_
            refine wkdc0 _ ?_
            refine ⟨a + 1, by omega, by omega, ?_⟩
            dsimp only
            rw [stepa, hsn']
            exact Cov.ofn (id) rfl (by simp [go_sem, List.take_of_length_le, ren, ren1, ren2, okr, okr1, okr2, ChkT, ChkN, BlkN, nf, grammarC, ruleC]) (by simp [go_sem, List.take_of_length_le, ren, ren1, ren2, okr, okr1, okr2, ChkT, ChkN, BlkN, nf, grammarC, ruleC])
      · have hae : a = r.2.length := by simp at h; omega
        subst hae
        rw [List.take_length]
        obtain ⟨ok, hok⟩ : ∃ ok, ok = okM true (madeS g true) r.2 := ⟨_, rfl⟩
        rw [← hok]
        have cf := l14First g hG S n hn r.2 hr4 hs1 (fun x hx => by have := hs0 x hx; omega)
        have hLl := lstT_len fun t => begT (madeS g false) S r.2 t
        have hLm := lstT_mem fun t => begT (madeS g false) S r.2 t
        generalize (lstT fun t => begT (madeS g false) S r.2 t) = L at cf hLl hLm
        refine wkdc (And.intro @ruleC.eq_1 (@grammarC.eq_1)) _ ?_
        refine GS.fnn [1] (cf) rfl rfl rfl rfl (by simp [go_sem, List.take_of_length_le, ren, ren1, ren2, okr, okr1, okr2, ChkN, BlkN, List.range_succ, nf, grammarC] <;> with_reducible rfl) (by simp [go_sem, List.take_of_length_le, ren, ren1, ren2, okr, okr1, okr2, ChkN, BlkN, List.range_succ, nf, grammarC]) (by simp [go_sem, List.take_of_length_le, ren, ren1, ren2, okr, okr1, okr2, ChkN, BlkN, List.range_succ, nf, grammarC]) (by simp [List.range_succ, lb]) (ChkN.toB (by simp [go_sem, List.take_of_length_le, ren, ren1, ren2, okr, okr1, okr2, ChkN, BlkN, List.range_succ, nf, grammarC])) (by decide) (by simp) rfl (.nfr (by simp) .nil) (by simp [go_sem, List.take_of_length_le, ren, ren1, ren2, okr, okr1, okr2, ChkN, BlkN, List.range_succ, nf, grammarC] <;> with_reducible rfl) ?_
        refine wkdc0 _ ?_
        refine Holds.loop (ι := Nat × (Int × Int → Bool) × Bool) (fun i => ⟨[(1, .pb 0 3 0 0), (3, .im 1 (ints (lstN (madeS g true)))), (4, .own 1 1 0 n), (5, .v (.bool i.2.2)), (7, .pb 2 2 0 0), (8, .v (.bool ok)), (20, .im 2 (rules g.2.2)), (21, .v (.int .i64 g.2.2.length)), (22, .v (.int .i64 k)), (48, .im 1 (ints L)), (49, .v (.int .i64 L.length)), (50, .v (.int .i64 i.1))], [(1, ⟨25, 1, intss (rowsT n i.2.1)⟩), (2, ⟨66, 2, [ruleC r]⟩), (0, ⟨31, 3, [grammarC g]⟩)], 3⟩)
          (fun i => i.1 ≤ L.length ∧ ClI (impsB g g.2.2) univP S0 i.2.1 i.2.2 (impsB g (g.2.2.take k)) ∧ (∀ p, S p = true → i.2.1 p = true) ∧ ∀ t ∈ L.take i.1, ok = true → i.2.1 (r.1, t) = true) (fun i => L.length - i.1) (0, S, more) ⟨Nat.zero_le _, hC, fun _ h => h, fun t ht => by simp at ht⟩ ?_ ?_
        · exact Cov.ofn (id) rfl (by simp [go_sem, List.take_of_length_le, ren, ren1, ren2, okr, okr1, okr2, ChkT, ChkN, BlkN, nf, grammarC, ruleC]) (by simp [go_sem, List.take_of_length_le, ren, ren1, ren2, okr, okr1, okr2, ChkT, ChkN, BlkN, nf, grammarC, ruleC])
        have hle0 := hC.le
        clear hC
        rintro ⟨j, S2, more⟩ ⟨hj, hC, hle, hset⟩
        dsimp only at hj hC hle hset ⊢
        have stepj : wr64 ((j : Int) + 1) = ((j + 1 : Nat) : Int) := wr64_id (by omega) (by omega)
        refine wkdc0 _ ?_
        refine Holds.cond rfl (fun h => ?_) (fun h => ?_)
        · have hlj : j < L.length := by simp at h; omega
          have htj : L[j]? = some L[j] := List.getElem?_eq_getElem hlj
          have htm := (hLm _).1 (List.getElem_mem hlj)
          generalize L[j] = t at htj htm
          have hsnt : ∀ S3 : Int × Int → Bool, (∀ p, S2 p = true → S3 p = true) → (ok = true → S3 (r.1, t) = true) → ∀ u ∈ L.take (j + 1), ok = true → S3 (r.1, u) = true := fun S3 h2 h3 u hu ho => by
            rw [List.take_add_one, htj] at hu
            rcases List.mem_append.1 hu with hu | hu
            · exact h2 _ (hset u hu ho)
            · rw [Option.toList_some, List.mem_singleton] at hu
              subst hu; exact h3 ho
          have hrow := rowsT_at S2 hmn
          have hput := rowsT_put S2 hmn htm.1
          have hrl := lstT_len fun u => S2 ((m : Int), u)
          have ch := l1Has (lstT fun u => S2 ((m : Int), u)) t (by omega)
          rw [lstT_has _ htm.1] at ch
          have cpu := l1Put (lstT fun u => S2 ((m : Int), u)) t (by omega)
          have hput' : (intss (rowsT n S2)).set m [.im 1 (ints (putL (lstT fun u => S2 ((m : Int), u)) t))] = intss (rowsT n (insI S2 ((m : Int), t))) := by rw [intss_set, hput]
          have hadd := fun (h1 : ok = true) (h2 : S2 ((m : Int), t) = false) => hC.add (impB_mem (g := g) hmem htm.1) (impB_mono g r t) (by
              refine impB_mono g r t S S2 hle ?_
              show (okM true (madeS g true) r.2 && begT (madeS g false) S r.2 t) = true
              rw [← hok, h1, htm.2]; rfl) (by rw [← hm] at h2; exact h2) (mem_univP.2 ⟨⟨hr0, by show r.1 ≤ 5; omega⟩, htm.1⟩) (impsB g (g.2.2.take k))
          have hc2 : (impB g r t).2 = ((m : Int), t) := by rw [← hm]; rfl
          rw [hc2] at hadd
          generalize (lstT fun u => S2 ((m : Int), u)) = R at hrow ch cpu hput'
          cases ok with
          | false =>
            refine wkdc (And.intro (@get_E _ _ _ _ htj) (And.intro @htj (@hlj))) _ ?_
            refine ⟨(j + 1, S2, more), ⟨by dsimp only; omega, hC, hle, hsnt S2 (fun _ h => h) fun e => by cases e⟩, by dsimp only; omega, ?_⟩
            rw [stepj]
            exact Cov.ofn (id) rfl (by simp [go_sem, List.take_of_length_le, ren, ren1, ren2, okr, okr1, okr2, ChkT, ChkN, BlkN, nf, grammarC, ruleC]) (by simp [go_sem, List.take_of_length_le, ren, ren1, ren2, okr, okr1, okr2, ChkT, ChkN, BlkN, nf, grammarC, ruleC])
          | true =>
            cases hS2 : S2 ((m : Int), t) with
            | true =>
              rw [hS2] at ch
              refine wkdc (And.intro (@get_E _ _ _ _ htj) (And.intro @htj (And.intro @hlj (And.intro @ruleC.eq_1 (And.intro @hm (And.intro @hmn (And.intro @hrow (And.intro (@get_E _ _ _ _ hrow) (@intsC.eq_1))))))))) _ ?_
              first | refine GS.cc (ch) rfl rfl rfl rfl (by simp [go_sem, List.take_of_length_le] <;> with_reducible rfl) rfl (by simp [go_sem, List.take_of_length_le]) ?_ | refine Gd.cc (ch) rfl rfl rfl rfl (by simp [go_sem, List.take_of_length_le] <;> with_reducible rfl) rfl (by simp [go_sem, List.take_of_length_le]) ?_
              refine wkdc0 _ ?_
              refine ⟨(j + 1, S2, more), ⟨by dsimp only; omega, hC, hle, hsnt S2 (fun _ h => h) fun _ => by rw [hm]; exact hS2⟩, by dsimp only; omega, ?_⟩
              rw [stepj]
              exact Cov.ofn (id) rfl (by simp [go_sem, List.take_of_length_le, ren, ren1, ren2, okr, okr1, okr2, ChkT, ChkN, BlkN, nf, grammarC, ruleC, hm]) (by simp [go_sem, List.take_of_length_le, ren, ren1, ren2, okr, okr1, okr2, ChkT, ChkN, BlkN, nf, grammarC, ruleC, hm])
            | false =>
              rw [hS2] at ch
              refine wkdc (And.intro (@get_E _ _ _ _ htj) (And.intro @htj (And.intro @hlj (And.intro @ruleC.eq_1 (And.intro @hm (And.intro @hmn (And.intro @hrow (And.intro (@get_E _ _ _ _ hrow) (@intsC.eq_1))))))))) _ ?_
              first | refine GS.cc (ch) rfl rfl rfl rfl (by simp [go_sem, List.take_of_length_le] <;> with_reducible rfl) rfl (by simp [go_sem, List.take_of_length_le]) ?_ | refine Gd.cc (ch) rfl rfl rfl rfl (by simp [go_sem, List.take_of_length_le] <;> with_reducible rfl) rfl (by simp [go_sem, List.take_of_length_le]) ?_
              refine wkdsc (@ruleC.eq_1) _ ?_
              refine Holds.anx [1011] [] (fun n => decide (n = 1)) mixed ?_ ?_ ?_; (· kernel_rfl); (· kernel_rfl)
              refine wkdac (And.intro @hm (And.intro @hmn (And.intro @hrow (And.intro (@get_E _ _ _ _ hrow) (@intsC.eq_1))))) _ ?_
              first | refine GS.cc (cpu) rfl rfl rfl rfl (by simp [go_sem, List.take_of_length_le] <;> with_reducible rfl) rfl (by simp [go_sem, List.take_of_length_le]) ?_ | refine Gd.cc (cpu) rfl rfl rfl rfl (by simp [go_sem, List.take_of_length_le] <;> with_reducible rfl) rfl (by simp [go_sem, List.take_of_length_le]) ?_ | refine Gx.cc (cpu) rfl rfl rfl rfl rfl (by simp [go_sem, List.take_of_length_le] <;> with_reducible rfl) rfl (by simp [go_sem, List.take_of_length_le]) ?_ | refine Gx.cch (cpu) rfl rfl rfl rfl rfl (by simp [go_sem, List.take_of_length_le] <;> with_reducible rfl) rfl (by simp [go_sem, List.take_of_length_le]) ?_
              refine wkdac (And.intro @hmn (And.intro @hrow (And.intro (@get_E _ _ _ _ hrow) (And.intro @intsC.eq_1 (@hput'))))) _ ?_
              refine ⟨(j + 1, insI S2 ((m : Int), t), true), ⟨by dsimp only; omega, hadd rfl hS2, fun p hp => insI_le _ _ _ (hle p hp), hsnt _ (fun p hp => insI_le _ _ _ hp) fun _ => by rw [hm]; exact insI_self _ _⟩, by dsimp only; omega, ?_⟩
              rw [stepj]
              exact Cov.ofn (id) rfl (by simp [go_sem, List.take_of_length_le, ren, ren1, ren2, okr, okr1, okr2, ChkT, ChkN, BlkN, nf, grammarC, ruleC, hm]) (by simp [go_sem, List.take_of_length_le, ren, ren1, ren2, okr, okr1, okr2, ChkT, ChkN, BlkN, nf, grammarC, ruleC, hm])
        · have hje : j = L.length := by simp at h; omega
          subst hje
          rw [List.take_length] at hset
          refine wkdac0 _ ?_
          refine ⟨(k + 1, S2, more), ⟨by dsimp only; omega, ?_⟩, by dsimp only; omega, ?_⟩
          · dsimp only
            rw [impsB_snoc g hrk]
            refine hC.ext _ fun e1 e2 p hp h1 => ?_
            obtain ⟨t, ht, rfl⟩ := List.mem_map.1 hp
            have ht := mem_univT.1 ht
            have hFF : S2 = S := by
              funext q
              rw [Bool.eq_iff_iff]
              exact ⟨fun h => hle0 q (by rw [← e2]; exact h), hle q⟩
            have h1 : (okM true (madeS g true) r.2 && begT (madeS g false) S2 r.2 t) = true := h1
            rw [hFF, Bool.and_eq_true] at h1
            exact hset t ((hLm t).2 ⟨ht, h1.2⟩) (by rw [hok]; exact h1.1)
          rw [stepk]
          exact Cov.ofn (id) rfl (by simp [go_sem, List.take_of_length_le, ren, ren1, ren2, okr, okr1, okr2, ChkT, ChkN, BlkN, nf, grammarC]) (by simp [go_sem, List.take_of_length_le, ren, ren1, ren2, okr, okr1, okr2, ChkT, ChkN, BlkN, nf, grammarC])
    · have hke : k = g.2.2.length := by simp at h; omega
      subst hke
      rw [List.take_length] at hC
      refine wkdac0 _ ?_
      refine ⟨(S, more), ⟨hC.low, fun e => ?_⟩, ?_, ?_⟩
      · dsimp only at e ⊢
        subst e
        exact hC.done
      · dsimp only
        have hc := card_leP S
        cases more with
        | true => have := hC.yes rfl; simp only [if_true]; omega
        | false => rw [(hC.no rfl).1]; simp
      exact Cov.ofn (id) rfl (by simp [go_sem, List.take_of_length_le, ren, ren1, ren2, okr, okr1, okr2, ChkT, ChkN, BlkN, nf, grammarC]) (by simp [go_sem, List.take_of_length_le, ren, ren1, ren2, okr, okr1, okr2, ChkT, ChkN, BlkN, nf, grammarC])
  · have h : more0 = false := by simpa using h
    have := hfin h
    subst this
    refine wkdac0 _ ?_
    refine OutF.mkn (xs := ?_) (nm [1]) ?_ ?_ ?_ ?_ ?_ (by first | exact .inr rfl | exact .inl rfl)
    rotate_left
    · simp [go_sem, List.take_of_length_le] <;> with_reducible rfl
    · simp [go_sem, List.take_of_length_le, ren, ren1, ren2, okr, okr1, okr2, ChkN, BlkN, List.range_succ, nf]
    · simp [go_sem, List.take_of_length_le, ren, ren1, ren2, okr, okr1, okr2, ChkN, BlkN, List.range_succ, nf]
    · simp [go_sem, List.take_of_length_le, ren, ren1, ren2, okr, okr1, okr2, ChkN, BlkN, List.range_succ, nf]
    · rfl
theorem l14Begins (g : GrammarT) (hG : OkG g) (right : List Int) (hl : right.length ≤ 4) (h1 : ∀ x ∈ right, x < g.1) (h0 : ∀ x ∈ right, -4 ≤ x) : Pure Tryz.prog 68 [.ag (grammarC g), .im 1 (ints right)] (.im 1 (ints (lstT (begS g right)))) := by
  have cm := l3Close g hG true
  have hn1 := hG.n1
  have hn0 := hG.n0
  obtain ⟨n, hn⟩ : ∃ n : Nat, (n : Int) = g.1 := ⟨g.1.toNat, by omega⟩
  have c1 := l14Firsts g hG n hn
  have c2 := l14First g hG (firstS g) n hn right hl h1 h0
  refine Pure.mk (rs := [.tmp 4]) (nt := 30) Tryz.func68 (by kernel_rfl) rfl rfl rfl (by simp) ?_
  simp only [sl, grammarC]
  refine wkdc (@grammarC.eq_1) _ ?_
  first | refine GS.cc (cm) rfl rfl rfl rfl (by simp [go_sem, List.take_of_length_le, grammarC] <;> with_reducible rfl) rfl (by simp [go_sem, List.take_of_length_le, grammarC]) ?_ | refine Gd.cc (cm) rfl rfl rfl rfl (by simp [go_sem, List.take_of_length_le, grammarC] <;> with_reducible rfl) rfl (by simp [go_sem, List.take_of_length_le, grammarC]) ?_
  have hml := lstN_len (madeS g true)
  obtain ⟨M, hM⟩ : ∃ M, M = madeS g true := ⟨_, rfl⟩
  rw [← hM] at hml ⊢
  refine wkdsc0 _ ?_
  refine Holds.loop (ι := Nat) (fun a => ⟨[(1, .im 1 (ints right)), (2, .pb 0 3 0 0), (5, .im 1 (ints (lstN M))), (10, .im 1 (ints right)), (11, .v (.int .i64 right.length)), (12, .v (.int .i64 a))], [(0, ⟨31, 3, [grammarC g]⟩)], 1⟩)
    (fun a => a ≤ right.length ∧ okM true M (right.take a) = true) (fun a => right.length - a) 0 ⟨Nat.zero_le _, rfl⟩ ?_ ?_
  · exact Cov.ofn (id) rfl (by simp [go_sem, List.take_of_length_le, ren, ren1, ren2, okr, okr1, okr2, ChkT, ChkN, BlkN, nf, grammarC]) (by simp [go_sem, List.take_of_length_le, ren, ren1, ren2, okr, okr1, okr2, ChkT, ChkN, BlkN, nf, grammarC])
  rintro a ⟨ha, hok⟩
  have stepa : wr64 ((a : Int) + 1) = ((a + 1 : Nat) : Int) := wr64_id (by omega) (by omega)
  refine wkdc0 _ ?_
  refine Holds.cond rfl (fun h => ?_) (fun h => ?_)
  · have hla : a < right.length := by simp at h; omega
    have hxa : right[a]? = some right[a] := List.getElem?_eq_getElem hla
    have hxm := List.getElem_mem hla
    generalize right[a] = x at hxa hxm
    have hx5 := h1 x hxm
    have hsn := okM_snoc true M hxa
    rw [hok, Bool.true_and] at hsn
    by_cases hx0 : 0 ≤ x
    · have ch := l1Has (lstN M) x (by omega)
      rw [hasN_lstA _ (by omega) (by omega)] at ch
      have hx1 : ¬ x < 0 := by omega
      refine wkdc (And.intro (@get_E _ _ _ _ hxa) (And.intro @hxa (And.intro @hla (@hx0)))) _ ?_
      first | refine GS.cc (ch) rfl rfl rfl rfl (by simp [go_sem, List.take_of_length_le] <;> with_reducible rfl) rfl (by simp [go_sem, List.take_of_length_le]) ?_ | refine Gd.cc (ch) rfl rfl rfl rfl (by simp [go_sem, List.take_of_length_le] <;> with_reducible rfl) rfl (by simp [go_sem, List.take_of_length_le]) ?_
      refine wkdc0 _ ?_
      refine Holds.cond rfl (fun h => ?_) (fun h => ?_)
      · have hMx : M x = false := by simpa using h
        have hn : okM true (madeS g true) right = false := by
          rw [← hM]
          cases e : okM true M right with
          | false => rfl
          | true =>
            simp only [okM, List.all_eq_true] at e
            have := e x hxm
            simp [hMx, hx1] at this
        have e0 : lstT (begS g right) = [] := by
          rw [← lstT_none]
          refine lstT_ext fun t _ _ => ?_
          rw [begS, hn, Bool.false_and]
        rw [e0]
        refine wkdc0 _ ?_
        refine Out.mk (xs := ?_) ?_ ?_ (by first | exact .inr rfl | exact .inl rfl)
        rotate_left
        · simp [go_sem, List.take_of_length_le] <;> with_reducible rfl
        exact Fz.nl _
      · have hMx : M x = true := by simpa using h
        have hsn' : okM true M (right.take (a + 1)) = true := by rw [hsn]; simp [hMx, hx0]
        refine wkdc0 _ ?_
        refine ⟨a + 1, ⟨by omega, hsn'⟩, by omega, ?_⟩
        rw [stepa]
        exact Cov.ofn (id) rfl (by simp [go_sem, List.take_of_length_le, ren, ren1, ren2, okr, okr1, okr2, ChkT, ChkN, BlkN, nf, grammarC]) (by simp [go_sem, List.take_of_length_le, ren, ren1, ren2, okr, okr1, okr2, ChkT, ChkN, BlkN, nf, grammarC])
    · have hx1 : x < 0 := by omega
      have hsn' : okM true M (right.take (a + 1)) = true := by rw [hsn]; simp [hx1]
      refine wkdc (And.intro (@get_E _ _ _ _ hxa) (And.intro @hxa (And.intro @hla (@hx0)))) _ ?_
      refine ⟨a + 1, ⟨by omega, hsn'⟩, by omega, ?_⟩
      rw [stepa]
      exact Cov.ofn (id) rfl (by simp [go_sem, List.take_of_length_le, ren, ren1, ren2, okr, okr1, okr2, ChkT, ChkN, BlkN, nf, grammarC]) (by simp [go_sem, List.take_of_length_le, ren, ren1, ren2, okr, okr1, okr2, ChkT, ChkN, BlkN, nf, grammarC])
  · have hae : a = right.length := by simp at h; omega
    subst hae
    rw [List.take_length, hM] at hok
    have e0 : lstT (begS g right) = lstT fun t => begT (madeS g false) (firstS g) right t := lstT_ext fun t _ _ => by rw [begS, hok, Bool.true_and]
    rw [e0]
    refine wkdsc0 _ ?_
    refine Holds.anx [2, 4] [0, 1, 3] (fun n => decide (1 ≤ n)) mixed ?_ ?_ ?_; (· kernel_rfl); (· kernel_rfl)
    refine wkdac (@grammarC.eq_1) _ ?_
    first | refine GS.fnn [] (c1) rfl rfl rfl rfl (by simp [go_sem, List.take_of_length_le, ren, ren1, ren2, okr, okr1, okr2, ChkN, BlkN, List.range_succ, nf, grammarC] <;> with_reducible rfl) (by simp [go_sem, List.take_of_length_le, ren, ren1, ren2, okr, okr1, okr2, ChkN, BlkN, List.range_succ, nf, grammarC]) (by simp [go_sem, List.take_of_length_le, ren, ren1, ren2, okr, okr1, okr2, ChkN, BlkN, List.range_succ, nf, grammarC]) (by simp [List.range_succ, lb]) (ChkN.toB (by simp [go_sem, List.take_of_length_le, ren, ren1, ren2, okr, okr1, okr2, ChkN, BlkN, List.range_succ, nf, grammarC])) (by decide) (by simp) rfl (.nfr (by simp) .nil) (by simp [go_sem, List.take_of_length_le, ren, ren1, ren2, okr, okr1, okr2, ChkN, BlkN, List.range_succ, nf, grammarC] <;> with_reducible rfl) ?_ | refine Gx.fnn [] (c1) rfl rfl rfl rfl rfl (by simp [go_sem, List.take_of_length_le, ren, ren1, ren2, okr, okr1, okr2, ChkN, BlkN, List.range_succ, nf, grammarC] <;> with_reducible rfl) (by simp [go_sem, List.take_of_length_le, ren, ren1, ren2, okr, okr1, okr2, ChkN, BlkN, List.range_succ, nf, grammarC]) (by simp [go_sem, List.take_of_length_le, ren, ren1, ren2, okr, okr1, okr2, ChkN, BlkN, List.range_succ, nf, grammarC]) (by simp [List.range_succ, lb]) (ChkN.toB (by simp [go_sem, List.take_of_length_le, ren, ren1, ren2, okr, okr1, okr2, ChkN, BlkN, List.range_succ, nf, grammarC])) (by decide) (by simp) rfl (.nfr (by simp) .nil) (by simp [go_sem, List.take_of_length_le, ren, ren1, ren2, okr, okr1, okr2, ChkN, BlkN, List.range_succ, nf, grammarC]) (by simp [go_sem, List.take_of_length_le, ren, ren1, ren2, okr, okr1, okr2, ChkN, BlkN, List.range_succ, nf, grammarC] <;> with_reducible rfl) ?_ | refine Gx.fnno [] (c1) rfl rfl rfl rfl rfl (by simp [go_sem, List.take_of_length_le, ren, ren1, ren2, okr, okr1, okr2, ChkN, BlkN, List.range_succ, nf, grammarC] <;> with_reducible rfl) (by simp [go_sem, List.take_of_length_le, ren, ren1, ren2, okr, okr1, okr2, ChkN, BlkN, List.range_succ, nf, grammarC]) (by simp [go_sem, List.take_of_length_le, ren, ren1, ren2, okr, okr1, okr2, ChkN, BlkN, List.range_succ, nf, grammarC]) (by simp [List.range_succ, lb]) (ChkN.toB (by simp [go_sem, List.take_of_length_le, ren, ren1, ren2, okr, okr1, okr2, ChkN, BlkN, List.range_succ, nf, grammarC])) (by decide) (by simp) rfl (.nfr (by simp) .nil) (by simp [go_sem, List.take_of_length_le, ren, ren1, ren2, okr, okr1, okr2, ChkN, BlkN, List.range_succ, nf, grammarC] <;> with_reducible rfl) ?_
    refine wkdac (@grammarC.eq_1) _ ?_
    first | refine GS.fnn [1] (c2) rfl rfl rfl rfl (by simp [go_sem, List.take_of_length_le, ren, ren1, ren2, okr, okr1, okr2, ChkN, BlkN, List.range_succ, nf, grammarC] <;> with_reducible rfl) (by simp [go_sem, List.take_of_length_le, ren, ren1, ren2, okr, okr1, okr2, ChkN, BlkN, List.range_succ, nf, grammarC]) (by simp [go_sem, List.take_of_length_le, ren, ren1, ren2, okr, okr1, okr2, ChkN, BlkN, List.range_succ, nf, grammarC]) (by simp [List.range_succ, lb]) (ChkN.toB (by simp [go_sem, List.take_of_length_le, ren, ren1, ren2, okr, okr1, okr2, ChkN, BlkN, List.range_succ, nf, grammarC])) (by decide) (by simp) rfl (.nfr (by simp) .nil) (by simp [go_sem, List.take_of_length_le, ren, ren1, ren2, okr, okr1, okr2, ChkN, BlkN, List.range_succ, nf, grammarC] <;> with_reducible rfl) ?_ | refine Gx.fnn [1] (c2) rfl rfl rfl rfl rfl (by simp [go_sem, List.take_of_length_le, ren, ren1, ren2, okr, okr1, okr2, ChkN, BlkN, List.range_succ, nf, grammarC] <;> with_reducible rfl) (by simp [go_sem, List.take_of_length_le, ren, ren1, ren2, okr, okr1, okr2, ChkN, BlkN, List.range_succ, nf, grammarC]) (by simp [go_sem, List.take_of_length_le, ren, ren1, ren2, okr, okr1, okr2, ChkN, BlkN, List.range_succ, nf, grammarC]) (by simp [List.range_succ, lb]) (ChkN.toB (by simp [go_sem, List.take_of_length_le, ren, ren1, ren2, okr, okr1, okr2, ChkN, BlkN, List.range_succ, nf, grammarC])) (by decide) (by simp) rfl (.nfr (by simp) .nil) (by simp [go_sem, List.take_of_length_le, ren, ren1, ren2, okr, okr1, okr2, ChkN, BlkN, List.range_succ, nf, grammarC]) (by simp [go_sem, List.take_of_length_le, ren, ren1, ren2, okr, okr1, okr2, ChkN, BlkN, List.range_succ, nf, grammarC] <;> with_reducible rfl) ?_ | refine Gx.fnno [1] (c2) rfl rfl rfl rfl rfl (by simp [go_sem, List.take_of_length_le, ren, ren1, ren2, okr, okr1, okr2, ChkN, BlkN, List.range_succ, nf, grammarC] <;> with_reducible rfl) (by simp [go_sem, List.take_of_length_le, ren, ren1, ren2, okr, okr1, okr2, ChkN, BlkN, List.range_succ, nf, grammarC]) (by simp [go_sem, List.take_of_length_le, ren, ren1, ren2, okr, okr1, okr2, ChkN, BlkN, List.range_succ, nf, grammarC]) (by simp [List.range_succ, lb]) (ChkN.toB (by simp [go_sem, List.take_of_length_le, ren, ren1, ren2, okr, okr1, okr2, ChkN, BlkN, List.range_succ, nf, grammarC])) (by decide) (by simp) rfl (.nfr (by simp) .nil) (by simp [go_sem, List.take_of_length_le, ren, ren1, ren2, okr, okr1, okr2, ChkN, BlkN, List.range_succ, nf, grammarC] <;> with_reducible rfl) ?_
    refine wkdac (@grammarC.eq_1) _ ?_

    refine Out.mk (xs := ?_) ?_ ?_ (by first | exact .inr rfl | exact .inl rfl)
    rotate_left
    · simp [go_sem, List.take_of_length_le] <;> with_reducible rfl
    exact .im _ _
end Go.Proofs.YtkolhcoeifghpaaGreat.En
end
section
namespace Go.Proofs.YtkolhcoeifghpaaGreat.En
open Go.RowKit
set_option linter.unusedSimpArgs false
set_option linter.unusedVariables false
set_option maxHeartbeats 4000000
theorem l1OwnF (xs : List Int) (hx : xs.length ≤ 1000000) : Fn Tryz.prog 35 0 [.im 1 (ints xs)] [] (.own 0 1 0 xs.length) 1 [(0, ⟨3, 1, ints xs⟩)] := by
  have hb : xs.length * 8 ≤ 140737488355328 := by omega
  refine Fn.mk (rs := [.tmp 2]) (nt := 6) Tryz.func35 (by kernel_rfl) rfl rfl rfl (by simp) ?_
  simp only [sl]
  refine wkc (And.intro @hb (@ints_all)) _ ?_
  refine OutF.mkn (xs := ?_) (nm [2]) ?_ ?_ ?_ ?_ ?_ (by first | exact .inr rfl | exact .inl rfl)
  rotate_left
  · simp [go_sem, List.take_of_length_le] <;> with_reducible rfl
  · simp [go_sem, List.take_of_length_le, ren, ren1, ren2, okr, okr1, okr2, ChkN, BlkN, List.range_succ, nf]
  · simp [go_sem, List.take_of_length_le, ren, ren1, ren2, okr, okr1, okr2, ChkN, BlkN, List.range_succ, nf]
  · simp [go_sem, List.take_of_length_le, ren, ren1, ren2, okr, okr1, okr2, ChkN, BlkN, List.range_succ, nf]
  · rfl
def lastR (n : Nat) (W : Int × Int → Bool) : List (List AV) := (List.range n).map fun x : Nat => [.v (.bool (W (x, -1)))]
@[simp] theorem lastR_len (n : Nat) (W : Int × Int → Bool) : (lastR n W).length = n := by simp [lastR]
theorem lastR_at (W : Int × Int → Bool) {n x : Nat} (h : x < n) : (lastR n W)[x]? = some [.v (.bool (W (x, -1)))] := by
  simp [lastR, List.getElem?_range h]
theorem lastR_none (n : Nat) : lastR n (fun _ => false) = List.replicate n [.v (.bool false)] := by
  simp [lastR, List.map_const']
theorem lastR_put (W : Int × Int → Bool) {n x : Nat} (h : x < n) : (lastR n W).set x [.v (.bool true)] = lastR n (insI W (x, -1)) := by
  refine List.ext_getElem? fun i => ?_
  by_cases hi : i < n
  · rw [lastR_at _ hi, List.getElem?_set]
    by_cases e : x = i
    · subst e
      rw [if_pos rfl, if_pos (by simpa using h)]
      simp [insI]
    · rw [if_neg e, lastR_at _ hi]
      have : ¬ ((i : Int) = (x : Int)) := by omega
      simp [insI, this]
  · rw [List.getElem?_eq_none (by simp; omega), List.getElem?_eq_none (by simp; omega)]
theorem lastR_ins (W : Int × Int → Bool) (n : Nat) (x : Int) {t : Int} (ht : 0 ≤ t) : lastR n (insI W (x, t)) = lastR n W := by
  unfold lastR
  refine List.map_congr_left fun y _ => ?_
  have : ¬ ((-1 : Int) = t) := by omega
  simp [insI, this]
theorem rowsT_ins (W : Int × Int → Bool) (n : Nat) (x : Int) : rowsT n (insI W (x, -1)) = rowsT n W := by
  unfold rowsT
  refine List.map_congr_left fun y _ => lstT_ext fun t h0 _ => ?_
  have : ¬ (t = (-1 : Int)) := by omega
  simp [insI, this]
@[simp] theorem nfr_lastR (n : Nat) (W : Int × Int → Bool) : nfr (lastR n W) := fun row hr x hx => by
  simp only [lastR, List.mem_map] at hr
  obtain ⟨y, _, rfl⟩ := hr
  simp only [List.mem_singleton] at hx
  subst hx; rfl
theorem l14Follows (g : GrammarT) (hG : OkG g) (n : Nat) (hn : (n : Int) = g.1) : Fn Tryz.prog 33 0 [.ag (grammarC g)] [] (.tu [.own 0 1 0 n, .own 1 1 0 n]) 2 [(0, ⟨25, 1, intss (rowsT n (followS g))⟩), (1, ⟨4, 1, lastR n (followS g)⟩)] := by
  have hlen := hG.len
  have hn1 := hG.n1
  have hn0 := hG.n0
  have hgn : g.1 = (n : Int) := hn.symm
  have h0n : 0 < n := by omega
  refine Fn.mk (rs := [.tmp 2, .tmp 3]) (nt := 109) Tryz.func33 (by kernel_rfl) rfl rfl rfl (by simp) ?_
  simp only [sl, grammarC]
  have hset0 : bools ((List.replicate n false).set 0 true) = lastR n (fun p => decide (p = (0, -1))) := by
    have e1 : bools ((List.replicate n false).set 0 true) = (List.replicate n ([.v (.bool false)] : List AV)).set 0 [.v (.bool true)] := by rw [bools_rep, bools_set]
    rw [e1, ← lastR_none, lastR_put (fun _ => false) h0n]
    congr 1
  refine wkdc (And.intro @grammarC.eq_1 (And.intro @hgn (And.intro @h0n (And.intro ((show (0:Int) ≤ (n : Int) by omega)) (And.intro ((show (24:Int) * n ≤ 281474976710656 by omega)) (And.intro ((show (n : Int) ≤ 281474976710656 by omega)) (@hset0))))))) _ ?_
  refine Holds.nilI 1 n 1 rfl rfl ?_
  have hO0 : List.replicate n ([.im 1 []] : List AV) = intss (rowsT n (fun p => decide (p = (0, -1)))) := by
    have : rowsT n (fun p => decide (p = (0, -1))) = rowsT n (fun _ => false) := by
      unfold rowsT
      refine List.map_congr_left fun y _ => lstT_ext fun t h0 _ => ?_
      have : ¬ (t = (-1 : Int)) := by omega
      simp [this]
    rw [this, rowsT_none]; simp [intss, intsC, ints]
  have hz : LowI (impsW g) (fun p => decide (p = (0, -1))) := low_W g
  refine Holds.loop (ι := (Int × Int → Bool) × Bool) (fun i => ⟨[(1, .pb 0 3 0 0), (4, .own 1 1 0 n), (5, .own 2 1 0 n), (6, .v (.bool i.2))], [(2, ⟨4, 1, lastR n i.1⟩), (1, ⟨25, 1, intss (rowsT n i.1)⟩), (0, ⟨31, 3, [grammarC g]⟩)], 3⟩)
    (fun i => i.1 (0, -1) = true ∧ LowI (impsW g) i.1 ∧ (i.2 = false → i.1 = followS g)) (fun i => 2 * (30 - (univQ.filter i.1).length) + if i.2 then 1 else 0) (fun p => decide (p = (0, -1)), true) ⟨rfl, hz, fun e => (by cases e)⟩ ?_ ?_
  · rw [← hO0]
    have hnf0 : nfr (List.replicate n ([.im 1 []] : List AV)) := .rep (by simp [nf])
    exact Cov.ofn (id) rfl (by simp [go_sem, List.take_of_length_le, ren, ren1, ren2, okr, okr1, okr2, ChkT, ChkN, BlkN, nf, grammarC, hgn, st, hnf0]) (by simp [go_sem, List.take_of_length_le, ren, ren1, ren2, okr, okr1, okr2, ChkT, ChkN, BlkN, nf, grammarC, hgn, st, hnf0])
  clear hset0 hz hO0
  rintro ⟨W0, more0⟩ ⟨hz0, hlow0, hfin⟩
  dsimp only at hz0 hlow0 hfin ⊢
  refine wkdc0 _ ?_
  refine Holds.cond rfl (fun h => ?_) (fun h => ?_)
  · subst h
    have hc0 := card_leQ W0
    refine wkdc (@grammarC.eq_1) _ ?_
    refine Holds.loop (ι := Nat × (Int × Int → Bool) × Bool) (fun i => ⟨[(1, .pb 0 3 0 0), (4, .own 1 1 0 n), (5, .own 2 1 0 n), (6, .v (.bool i.2.2)), (25, .im 2 (rules g.2.2)), (26, .v (.int .i64 g.2.2.length)), (27, .v (.int .i64 i.1))], [(2, ⟨4, 1, lastR n i.2.1⟩), (1, ⟨25, 1, intss (rowsT n i.2.1)⟩), (0, ⟨31, 3, [grammarC g]⟩)], 3⟩)
      (fun i => i.1 ≤ g.2.2.length ∧ ClI (impsW g) univQ W0 i.2.1 i.2.2 (impWz :: (g.2.2.take i.1).flatMap (impsWf g))) (fun i => g.2.2.length - i.1) (0, W0, false) ⟨Nat.zero_le _, (ClI.start _ hlow0).ext [impWz] (fun _ _ p hp _ => by rw [List.mem_singleton] at hp; subst hp; exact hz0)⟩ ?_ ?_
    · exact Cov.ofn (id) rfl (by simp [go_sem, List.take_of_length_le, ren, ren1, ren2, okr, okr1, okr2, ChkT, ChkN, BlkN, nf, grammarC]) (by simp [go_sem, List.take_of_length_le, ren, ren1, ren2, okr, okr1, okr2, ChkT, ChkN, BlkN, nf, grammarC])
    rintro ⟨k, W, more⟩ ⟨hk, hC⟩
    dsimp only at hk hC ⊢
    have stepk : wr64 ((k : Int) + 1) = ((k + 1 : Nat) : Int) := wr64_id (by omega) (by omega)
    refine wkdc0 _ ?_
    refine Holds.cond rfl (fun h => ?_) (fun h => ?_)
    · have hlt : k < g.2.2.length := by simp at h; omega
      have hrk : g.2.2[k]? = some g.2.2[k] := List.getElem?_eq_getElem hlt
      have hmem := List.getElem_mem hlt
      generalize g.2.2[k] = r at hrk hmem
      have hr0 := hG.l0 r hmem
      have hr1 := hG.l1 r hmem
      have hr4 := hG.r4 r hmem
      have hs0 := hG.s0 r hmem
      have hs1 := hG.s1 r hmem
      have ht1 := hG.t1
      obtain ⟨b, hb⟩ : ∃ b : Nat, r.1 = (b : Int) := ⟨r.1.toNat, by omega⟩
      have hbn : b < n := by omega
      refine wkdc (And.intro (@get_E _ _ _ _ hrk) (And.intro @hrk (And.intro @hlt (@ruleC.eq_1)))) _ ?_
      refine Holds.loop (ι := Nat × (Int × Int → Bool) × Bool) (fun i => ⟨[(1, .pb 0 3 0 0), (4, .own 1 1 0 n), (5, .own 2 1 0 n), (6, .v (.bool i.2.2)), (8, .pb 3 2 0 0), (25, .im 2 (rules g.2.2)), (26, .v (.int .i64 g.2.2.length)), (27, .v (.int .i64 k)), (32, .im 1 (ints r.2)), (33, .v (.int .i64 r.2.length)), (34, .v (.int .i64 i.1))], [(3, ⟨66, 2, [ruleC r]⟩), (2, ⟨4, 1, lastR n i.2.1⟩), (1, ⟨25, 1, intss (rowsT n i.2.1)⟩), (0, ⟨31, 3, [grammarC g]⟩)], 4⟩)
        (fun i => i.1 ≤ r.2.length ∧ ClI (impsW g) univQ W0 i.2.1 i.2.2 (seenW g k r i.1)) (fun i => r.2.length - i.1) (0, W, more) ⟨Nat.zero_le _, by rw [seenW_zero]; exact hC⟩ ?_ ?_
      · exact Cov.ofn (id) rfl (by simp [go_sem, List.take_of_length_le, ren, ren1, ren2, okr, okr1, okr2, ChkT, ChkN, BlkN, nf, grammarC, ruleC]) (by simp [go_sem, List.take_of_length_le, ren, ren1, ren2, okr, okr1, okr2, ChkT, ChkN, BlkN, nf, grammarC, ruleC])
      clear hC
      rintro ⟨a, W, more⟩ ⟨ha, hC⟩
      dsimp only at ha hC ⊢
      have stepa : wr64 ((a : Int) + 1) = ((a + 1 : Nat) : Int) := wr64_id (by omega) (by omega)
      refine wkdc0 _ ?_
      refine Holds.cond rfl (fun h => ?_) (fun h => ?_)
      · have hla : a < r.2.length := by simp at h; omega
        have hxa : r.2[a]? = some r.2[a] := List.getElem?_eq_getElem hla
        have hxm := List.getElem_mem hla
        generalize r.2[a] = x at hxa hxm
        have hx5 := hs1 x hxm
        have hx4 := hs0 x hxm
        by_cases hx0 : x < 0
        · have hsn : seenW g k r (a + 1) = seenW g k r a := by
            rw [seenW_snoc, impsWr, hxa]
            simp only [if_pos hx0, List.append_nil]
          refine wkdc (And.intro (@get_E _ _ _ _ hxa) (And.intro @hxa (And.intro @hla (@hx0)))) _ ?_
          refine ⟨(a + 1, W, more), ⟨by dsimp only; omega, by rw [hsn]; exact hC⟩, by dsimp only; omega, ?_⟩
          rw [stepa]
          exact Cov.ofn (id) rfl (by simp [go_sem, List.take_of_length_le, ren, ren1, ren2, okr, okr1, okr2, ChkT, ChkN, BlkN, nf, grammarC, ruleC]) (by simp [go_sem, List.take_of_length_le, ren, ren1, ren2, okr, okr1, okr2, ChkT, ChkN, BlkN, nf, grammarC, ruleC])
        · have hsn : seenW g k r (a + 1) = seenW g k r a ++ univL.map (impW g r.1 x (r.2.drop (a + 1))) := by
            rw [seenW_snoc, impsWr, hxa]
            simp only [if_neg hx0]
          obtain ⟨m, rfl⟩ : ∃ m : Nat, x = (m : Int) := ⟨x.toNat, by omega⟩
          have hmn : m < n := by omega
          have hdl : (r.2.drop (a + 1)).length ≤ 4 := by rw [List.length_drop]; omega
          have hrs1 : ∀ x ∈ r.2.drop (a + 1), x < g.1 := fun x hx => by have := hs1 x (List.mem_of_mem_drop hx); omega
          have hrs : ∀ x ∈ r.2.drop (a + 1), -4 ≤ x := fun x hx => by have := hs0 x (List.mem_of_mem_drop hx); omega
          have cb := l14Begins g hG (r.2.drop (a + 1)) hdl hrs1 hrs
          have cn := l14Null g hG (r.2.drop (a + 1)) hdl hrs1
          have himp := fun t ht => impW_mem (g := g) hmem hxa hx0 (t := t) ht
          have hal : a + 1 ≤ r.2.length := by omega
          have hdr : (ints r.2).drop (a + 1) = ints (r.2.drop (a + 1)) := by simp [ints]
          generalize r.2.drop (a + 1) = rest at cb cn hsn himp hdr hrs
          obtain ⟨S, hS⟩ : ∃ S, S = begS g rest := ⟨_, rfl⟩
          obtain ⟨e0, hE⟩ : ∃ e0, e0 = nullS g rest := ⟨_, rfl⟩
          rw [← hS] at cb
          rw [← hE] at cn
          have hSl := lstT_len S
          have hWl := lstT_len fun t => W ((b : Int), t)
          have hrow := rowsT_at W hbn
          refine wkdc (And.intro (@get_E _ _ _ _ hxa) (And.intro @hxa (And.intro @hla (And.intro @hx0 (And.intro @ruleC.eq_1 (And.intro @grammarC.eq_1 (And.intro @stepa (And.intro @hal (And.intro ((show (0 : Int) ≤ (a : Int) + 1 by omega)) (@hdr)))))))))) _ ?_
          first | refine GS.cc (cb) rfl rfl rfl rfl (by simp [go_sem, List.take_of_length_le, grammarC] <;> with_reducible rfl) rfl (by simp [go_sem, List.take_of_length_le, grammarC]) ?_ | refine Gd.cc (cb) rfl rfl rfl rfl (by simp [go_sem, List.take_of_length_le, grammarC] <;> with_reducible rfl) rfl (by simp [go_sem, List.take_of_length_le, grammarC]) ?_
          refine wkdc (And.intro @ruleC.eq_1 (And.intro @grammarC.eq_1 (And.intro @stepa (And.intro @hal (And.intro ((show (0 : Int) ≤ (a : Int) + 1 by omega)) (@hdr)))))) _ ?_
          first | refine GS.cc (cn) rfl rfl rfl rfl (by simp [go_sem, List.take_of_length_le, grammarC] <;> with_reducible rfl) rfl (by simp [go_sem, List.take_of_length_le, grammarC]) ?_ | refine Gd.cc (cn) rfl rfl rfl rfl (by simp [go_sem, List.take_of_length_le, grammarC] <;> with_reducible rfl) rfl (by simp [go_sem, List.take_of_length_le, grammarC]) ?_
          refine wkdc0 _ ?_
          refine Holds.join (ι := List Int) (fun A => ⟨[(1, .pb 0 3 0 0), (4, .own 1 1 0 n), (5, .own 2 1 0 n), (6, .v (.bool more)), (8, .pb 3 2 0 0), (10, .v (.int .i64 m)), (11, .im 1 (ints A)), (12, .v (.bool e0)), (25, .im 2 (rules g.2.2)), (26, .v (.int .i64 g.2.2.length)), (27, .v (.int .i64 k)), (32, .im 1 (ints r.2)), (33, .v (.int .i64 r.2.length)), (34, .v (.int .i64 a))], [(3, ⟨66, 2, [ruleC r]⟩), (2, ⟨4, 1, lastR n W⟩), (1, ⟨25, 1, intss (rowsT n W)⟩), (0, ⟨31, 3, [grammarC g]⟩)], 4⟩)
            (fun A => A.length ≤ 8 ∧ ∀ t, t ∈ A ↔ (0 ≤ t ∧ t ≤ 3) ∧ (S t || (e0 && W ((b : Int), t))) = true) ?_ ?_
          · cases e0 with
            | false =>
              refine wkdc0 _ ?_
              refine ⟨lstT S, ⟨by omega, fun t => by rw [lstT_mem, Bool.false_and, Bool.or_false]⟩, ?_⟩
              exact Cov.ofn (id) rfl (by simp [go_sem, List.take_of_length_le, ren, ren1, ren2, okr, okr1, okr2, ChkT, ChkN, BlkN, nf, grammarC, ruleC]) (by simp [go_sem, List.take_of_length_le, ren, ren1, ren2, okr, okr1, okr2, ChkT, ChkN, BlkN, nf, grammarC, ruleC])
            | true =>
              have co := l1OwnF (lstT S) (by omega)
              obtain ⟨R, hR⟩ : ∃ R, R = lstT fun t => W ((b : Int), t) := ⟨_, rfl⟩
              rw [← hR] at hWl hrow
              refine wkdsc0 _ ?_
              refine Holds.anx [1, 7] [2, 3, 4, 5, 6] (fun n => decide (4 ≤ n)) mixed ?_ ?_ ?_; (· kernel_rfl); (· kernel_rfl)
              refine wkdac0 _ ?_
              first | refine GS.fnn [] (co) rfl rfl rfl rfl (by simp [go_sem, List.take_of_length_le, ren, ren1, ren2, okr, okr1, okr2, ChkN, BlkN, List.range_succ, nf] <;> with_reducible rfl) (by simp [go_sem, List.take_of_length_le, ren, ren1, ren2, okr, okr1, okr2, ChkN, BlkN, List.range_succ, nf]) (by simp [go_sem, List.take_of_length_le, ren, ren1, ren2, okr, okr1, okr2, ChkN, BlkN, List.range_succ, nf]) (by simp [List.range_succ, lb]) (ChkN.toB (by simp [go_sem, List.take_of_length_le, ren, ren1, ren2, okr, okr1, okr2, ChkN, BlkN, List.range_succ, nf])) (by decide) (by simp) rfl (.nfr (by simp) .nil) (by simp [go_sem, List.take_of_length_le, ren, ren1, ren2, okr, okr1, okr2, ChkN, BlkN, List.range_succ, nf] <;> with_reducible rfl) ?_ | refine Gx.fnn [] (co) rfl rfl rfl rfl rfl (by simp [go_sem, List.take_of_length_le, ren, ren1, ren2, okr, okr1, okr2, ChkN, BlkN, List.range_succ, nf] <;> with_reducible rfl) (by simp [go_sem, List.take_of_length_le, ren, ren1, ren2, okr, okr1, okr2, ChkN, BlkN, List.range_succ, nf]) (by simp [go_sem, List.take_of_length_le, ren, ren1, ren2, okr, okr1, okr2, ChkN, BlkN, List.range_succ, nf]) (by simp [List.range_succ, lb]) (ChkN.toB (by simp [go_sem, List.take_of_length_le, ren, ren1, ren2, okr, okr1, okr2, ChkN, BlkN, List.range_succ, nf])) (by decide) (by simp) rfl (.nfr (by simp) .nil) (by simp [go_sem, List.take_of_length_le, ren, ren1, ren2, okr, okr1, okr2, ChkN, BlkN, List.range_succ, nf]) (by simp [go_sem, List.take_of_length_le, ren, ren1, ren2, okr, okr1, okr2, ChkN, BlkN, List.range_succ, nf] <;> with_reducible rfl) ?_ | refine Gx.fnno [] (co) rfl rfl rfl rfl rfl (by simp [go_sem, List.take_of_length_le, ren, ren1, ren2, okr, okr1, okr2, ChkN, BlkN, List.range_succ, nf] <;> with_reducible rfl) (by simp [go_sem, List.take_of_length_le, ren, ren1, ren2, okr, okr1, okr2, ChkN, BlkN, List.range_succ, nf]) (by simp [go_sem, List.take_of_length_le, ren, ren1, ren2, okr, okr1, okr2, ChkN, BlkN, List.range_succ, nf]) (by simp [List.range_succ, lb]) (ChkN.toB (by simp [go_sem, List.take_of_length_le, ren, ren1, ren2, okr, okr1, okr2, ChkN, BlkN, List.range_succ, nf])) (by decide) (by simp) rfl (.nfr (by simp) .nil) (by simp [go_sem, List.take_of_length_le, ren, ren1, ren2, okr, okr1, okr2, ChkN, BlkN, List.range_succ, nf] <;> with_reducible rfl) ?_
              refine wkdac (And.intro @ruleC.eq_1 (And.intro @hb (And.intro @hbn (And.intro @hrow (And.intro (@get_E _ _ _ _ hrow) (@intsC.eq_1)))))) _ ?_
              have hb8 : ((lstT S).length + R.length) * 8 ≤ 140737488355328 := by omega
              refine wkdac (And.intro @hb8 (@ints_all)) _ ?_
              refine ⟨lstT S ++ R, ⟨by rw [List.length_append]; omega, fun t => ?_⟩, ?_⟩
              · rw [List.mem_append, lstT_mem, hR, lstT_mem, Bool.true_and, Bool.or_eq_true]
                constructor
                · rintro (h | h)
                  · exact ⟨h.1, .inl h.2⟩
                  · exact ⟨h.1, .inr h.2⟩
                · rintro ⟨h1, h2 | h2⟩
                  · exact .inl ⟨h1, h2⟩
                  · exact .inr ⟨h1, h2⟩
              refine Cov.trans ?_ (Cov.freeze [6] (ts := [(11, .im 1 (ints (lstT S ++ R)))]) (.cons rfl (Fz.all rfl rfl (by simp) (by simp [ints]) (ints_cl _)) .nil))
              exact Cov.ofn (id) rfl (by simp [go_sem, List.take_of_length_le, ren, ren1, ren2, okr, okr1, okr2, ChkT, ChkN, BlkN, nf, frz, grammarC, ruleC, hb]) (by simp [go_sem, List.take_of_length_le, ren, ren1, ren2, okr, okr1, okr2, ChkT, ChkN, BlkN, nf, frz, grammarC, ruleC, hb])
          rintro A ⟨hAl, hA⟩
          refine wkdac0 _ ?_
          refine Holds.loop (ι := Nat × (Int × Int → Bool) × Bool) (fun i => ⟨[(1, .pb 0 3 0 0), (4, .own 1 1 0 n), (5, .own 2 1 0 n), (6, .v (.bool i.2.2)), (8, .pb 3 2 0 0), (10, .v (.int .i64 m)), (12, .v (.bool e0)), (25, .im 2 (rules g.2.2)), (26, .v (.int .i64 g.2.2.length)), (27, .v (.int .i64 k)), (32, .im 1 (ints r.2)), (33, .v (.int .i64 r.2.length)), (34, .v (.int .i64 a)), (64, .im 1 (ints A)), (65, .v (.int .i64 A.length)), (66, .v (.int .i64 i.1))], [(3, ⟨66, 2, [ruleC r]⟩), (2, ⟨4, 1, lastR n i.2.1⟩), (1, ⟨25, 1, intss (rowsT n i.2.1)⟩), (0, ⟨31, 3, [grammarC g]⟩)], 4⟩)
            (fun i => i.1 ≤ A.length ∧ ClI (impsW g) univQ W0 i.2.1 i.2.2 (seenW g k r a) ∧ (∀ p, W p = true → i.2.1 p = true) ∧ ∀ t ∈ A.take i.1, i.2.1 (m, t) = true) (fun i => A.length - i.1) (0, W, more) ⟨Nat.zero_le _, hC, fun _ h => h, fun t ht => by simp at ht⟩ ?_ ?_
          · exact Cov.ofn (id) rfl (by simp [go_sem, List.take_of_length_le, ren, ren1, ren2, okr, okr1, okr2, ChkT, ChkN, BlkN, nf, grammarC, ruleC]) (by simp [go_sem, List.take_of_length_le, ren, ren1, ren2, okr, okr1, okr2, ChkT, ChkN, BlkN, nf, grammarC, ruleC])
          have hle0 := hC.le
          clear hC
          rintro ⟨j, W2, more⟩ ⟨hj, hC, hle, hset⟩
          dsimp only at hj hC hle hset ⊢
          have stepj : wr64 ((j : Int) + 1) = ((j + 1 : Nat) : Int) := wr64_id (by omega) (by omega)
          refine wkdac0 _ ?_
          refine Holds.cond rfl (fun h => ?_) (fun h => ?_)
          · have hlj : j < A.length := by simp at h; omega
            have htj : A[j]? = some A[j] := List.getElem?_eq_getElem hlj
            have htm := (hA _).1 (List.getElem_mem hlj)
            generalize A[j] = t at htj htm
            have hsnt : ∀ W3 : Int × Int → Bool, (∀ p, W2 p = true → W3 p = true) → W3 (m, t) = true → ∀ u ∈ A.take (j + 1), W3 (m, u) = true := fun W3 h2 h3 u hu => by
              rw [List.take_add_one, htj] at hu
              rcases List.mem_append.1 hu with hu | hu
              · exact h2 _ (hset u hu)
              · rw [Option.toList_some, List.mem_singleton] at hu
                subst hu; exact h3
            have hrow := rowsT_at W2 hmn
            have hput := rowsT_put W2 hmn htm.1
            have hrl := lstT_len fun u => W2 ((m : Int), u)
            have ch := l1Has (lstT fun u => W2 ((m : Int), u)) t (by omega)
            rw [lstT_has _ htm.1] at ch
            have cpu := l1Put (lstT fun u => W2 ((m : Int), u)) t (by omega)
            have hput' : (intss (rowsT n W2)).set m [.im 1 (ints (putL (lstT fun u => W2 ((m : Int), u)) t))] = intss (rowsT n (insI W2 ((m : Int), t))) := by rw [intss_set, hput]
            have hlr := lastR_ins W2 n m htm.1.1
            have hadd := fun (h2 : W2 ((m : Int), t) = false) => hC.add (himp t ⟨by omega, htm.1.2⟩) (impW_mono g r.1 m rest t) (by
                show (begS g rest t || (nullS g rest && W2 (r.1, t))) = true
                have := htm.2
                rw [Bool.or_eq_true, Bool.and_eq_true] at this ⊢
                rw [hS, hE] at this
                exact this.imp id fun h => ⟨h.1, by rw [hb]; exact hle _ h.2⟩) h2 (mem_univQ.2 ⟨⟨by show (0 : Int) ≤ m; omega, by show (m : Int) ≤ 5; omega⟩, ⟨by show (-1 : Int) ≤ t; omega, htm.1.2⟩⟩) (seenW g k r a)
            generalize (lstT fun u => W2 ((m : Int), u)) = R at hrow ch cpu hput'
            cases hW2 : W2 ((m : Int), t) with
            | true =>
              rw [hW2] at ch
              refine wkdac (And.intro (@get_E _ _ _ _ htj) (And.intro @htj (And.intro @hlj (And.intro @hmn (And.intro @hrow (And.intro (@get_E _ _ _ _ hrow) (@intsC.eq_1))))))) _ ?_
              first | refine GS.cc (ch) rfl rfl rfl rfl (by simp [go_sem, List.take_of_length_le] <;> with_reducible rfl) rfl (by simp [go_sem, List.take_of_length_le]) ?_ | refine Gd.cc (ch) rfl rfl rfl rfl (by simp [go_sem, List.take_of_length_le] <;> with_reducible rfl) rfl (by simp [go_sem, List.take_of_length_le]) ?_ | refine Gx.cc (ch) rfl rfl rfl rfl rfl (by simp [go_sem, List.take_of_length_le] <;> with_reducible rfl) rfl (by simp [go_sem, List.take_of_length_le]) ?_ | refine Gx.cch (ch) rfl rfl rfl rfl rfl (by simp [go_sem, List.take_of_length_le] <;> with_reducible rfl) rfl (by simp [go_sem, List.take_of_length_le]) ?_
              refine wkdac0 _ ?_
              refine ⟨(j + 1, W2, more), ⟨by dsimp only; omega, hC, hle, hsnt W2 (fun _ h => h) hW2⟩, by dsimp only; omega, ?_⟩
              rw [stepj]
              exact Cov.ofn (id) rfl (by simp [go_sem, List.take_of_length_le, ren, ren1, ren2, okr, okr1, okr2, ChkT, ChkN, BlkN, nf, grammarC, ruleC]) (by simp [go_sem, List.take_of_length_le, ren, ren1, ren2, okr, okr1, okr2, ChkT, ChkN, BlkN, nf, grammarC, ruleC])
            | false =>
              rw [hW2] at ch
              refine wkdac (And.intro (@get_E _ _ _ _ htj) (And.intro @htj (And.intro @hlj (And.intro @hmn (And.intro @hrow (And.intro (@get_E _ _ _ _ hrow) (@intsC.eq_1))))))) _ ?_
              first | refine GS.cc (ch) rfl rfl rfl rfl (by simp [go_sem, List.take_of_length_le] <;> with_reducible rfl) rfl (by simp [go_sem, List.take_of_length_le]) ?_ | refine Gd.cc (ch) rfl rfl rfl rfl (by simp [go_sem, List.take_of_length_le] <;> with_reducible rfl) rfl (by simp [go_sem, List.take_of_length_le]) ?_ | refine Gx.cc (ch) rfl rfl rfl rfl rfl (by simp [go_sem, List.take_of_length_le] <;> with_reducible rfl) rfl (by simp [go_sem, List.take_of_length_le]) ?_ | refine Gx.cch (ch) rfl rfl rfl rfl rfl (by simp [go_sem, List.take_of_length_le] <;> with_reducible rfl) rfl (by simp [go_sem, List.take_of_length_le]) ?_
              refine wkdac (And.intro @hmn (And.intro @hrow (And.intro (@get_E _ _ _ _ hrow) (@intsC.eq_1)))) _ ?_
              first | refine GS.cc (cpu) rfl rfl rfl rfl (by simp [go_sem, List.take_of_length_le] <;> with_reducible rfl) rfl (by simp [go_sem, List.take_of_length_le]) ?_ | refine Gd.cc (cpu) rfl rfl rfl rfl (by simp [go_sem, List.take_of_length_le] <;> with_reducible rfl) rfl (by simp [go_sem, List.take_of_length_le]) ?_ | refine Gx.cc (cpu) rfl rfl rfl rfl rfl (by simp [go_sem, List.take_of_length_le] <;> with_reducible rfl) rfl (by simp [go_sem, List.take_of_length_le]) ?_ | refine Gx.cch (cpu) rfl rfl rfl rfl rfl (by simp [go_sem, List.take_of_length_le] <;> with_reducible rfl) rfl (by simp [go_sem, List.take_of_length_le]) ?_
              refine wkdac (And.intro @hmn (And.intro @hrow (And.intro (@get_E _ _ _ _ hrow) (And.intro @intsC.eq_1 (@hput'))))) _ ?_
              refine ⟨(j + 1, insI W2 ((m : Int), t), true), ⟨by dsimp only; omega, hadd hW2, fun p hp => insI_le _ _ _ (hle p hp), hsnt _ (fun p hp => insI_le _ _ _ hp) (insI_self _ _)⟩, by dsimp only; omega, ?_⟩
              dsimp only
              rw [stepj, hlr]
              exact Cov.ofn (id) rfl (by simp [go_sem, List.take_of_length_le, ren, ren1, ren2, okr, okr1, okr2, ChkT, ChkN, BlkN, nf, grammarC, ruleC]) (by simp [go_sem, List.take_of_length_le, ren, ren1, ren2, okr, okr1, okr2, ChkT, ChkN, BlkN, nf, grammarC, ruleC])
          · have hje : j = A.length := by simp at h; omega
            subst hje
            rw [List.take_length] at hset
            have hb1 : begS g rest (-1) = false := by
              cases hb : begS g rest (-1) with
              | false => rfl
              | true => have := begS_univ hG hrs hb; omega
            have hlb := lastR_at W2 hbn
            have hlm := lastR_at W2 hmn
            have hlp := lastR_put W2 hmn
            have hri := rowsT_ins W2 n m
            have hext : ∀ W3 : Int × Int → Bool, ∀ more3, ClI (impsW g) univQ W0 W3 more3 (seenW g k r a) → (∀ p, W2 p = true → W3 p = true) → ((e0 && W2 ((b : Int), -1)) = true → W3 ((m : Int), -1) = true) → ClI (impsW g) univQ W0 W3 more3 (seenW g k r (a + 1)) := fun W3 more3 hC3 hle3 hl3 => by
              rw [hsn]
              refine hC3.ext _ fun f1 f2 p hp h1 => ?_
              obtain ⟨t, ht, rfl⟩ := List.mem_map.1 hp
              have ht := mem_univL.1 ht
              have hWW : ∀ q, W3 q = true → W q = true := fun q hq => hle0 q (by rw [← f2]; exact hq)
              have h1 : (begS g rest t || (nullS g rest && W3 (r.1, t))) = true := h1
              by_cases ht1 : t = -1
              · subst ht1
                rw [hb1, Bool.false_or, Bool.and_eq_true] at h1
                refine hl3 ?_
                rw [Bool.and_eq_true]
                exact ⟨by rw [hE]; exact h1.1, by rw [← hb]; exact hle _ (hWW _ h1.2)⟩
              · refine hle3 _ (hset t ((hA t).2 ⟨⟨by omega, ht.2⟩, ?_⟩))
                rw [hS, hE]
                rw [Bool.or_eq_true, Bool.and_eq_true] at h1 ⊢
                exact h1.imp id fun h => ⟨h.1, by rw [← hb]; exact hWW _ h.2⟩
            have hadd := fun (h1 : e0 = true) (h2 : W2 ((b : Int), -1) = true) (h3 : W2 ((m : Int), -1) = false) => hC.add (himp (-1) (by omega)) (impW_mono g r.1 m rest (-1)) (by
                show (begS g rest (-1) || (nullS g rest && W2 (r.1, -1))) = true
                rw [← hE, h1, hb, h2, Bool.true_and, Bool.or_true]) h3 (mem_univQ.2 ⟨⟨by show (0 : Int) ≤ m; omega, by show (m : Int) ≤ 5; omega⟩, ⟨by show (-1 : Int) ≤ -1; omega, by show (-1 : Int) ≤ 3; omega⟩⟩) (seenW g k r a)
            cases he : e0 with
            | false =>
              have hfin := hext W2 more hC (fun _ h => h) fun e => by rw [he] at e; cases e
              refine wkdac0 _ ?_
              refine ⟨(a + 1, W2, more), ⟨by dsimp only; omega, hfin⟩, by dsimp only; omega, ?_⟩
              rw [stepa]
              exact Cov.ofn (id) rfl (by simp [go_sem, List.take_of_length_le, ren, ren1, ren2, okr, okr1, okr2, ChkT, ChkN, BlkN, nf, grammarC, ruleC]) (by simp [go_sem, List.take_of_length_le, ren, ren1, ren2, okr, okr1, okr2, ChkT, ChkN, BlkN, nf, grammarC, ruleC])
            | true =>
              cases hqb : W2 ((b : Int), -1) with
              | false =>
                have hfin := hext W2 more hC (fun _ h => h) fun e => by rw [hqb, Bool.and_false] at e; cases e
                rw [hqb] at hlb
                refine wkdac (And.intro @ruleC.eq_1 (And.intro @hb (And.intro @hbn (And.intro @hlb (@get_E _ _ _ _ hlb))))) _ ?_
                refine ⟨(a + 1, W2, more), ⟨by dsimp only; omega, hfin⟩, by dsimp only; omega, ?_⟩
                rw [stepa]
                exact Cov.ofn (id) rfl (by simp [go_sem, List.take_of_length_le, ren, ren1, ren2, okr, okr1, okr2, ChkT, ChkN, BlkN, nf, grammarC, ruleC, hb]) (by simp [go_sem, List.take_of_length_le, ren, ren1, ren2, okr, okr1, okr2, ChkT, ChkN, BlkN, nf, grammarC, ruleC, hb])
              | true =>
                cases hqm : W2 ((m : Int), -1) with
                | true =>
                  have hfin := hext W2 more hC (fun _ h => h) fun _ => hqm
                  rw [hqb] at hlb
                  rw [hqm] at hlm
                  refine wkdac (And.intro @ruleC.eq_1 (And.intro @hb (And.intro @hbn (And.intro @hlb (And.intro (@get_E _ _ _ _ hlb) (And.intro @hmn (And.intro @hlm (@get_E _ _ _ _ hlm)))))))) _ ?_
                  refine ⟨(a + 1, W2, more), ⟨by dsimp only; omega, hfin⟩, by dsimp only; omega, ?_⟩
                  rw [stepa]
                  exact Cov.ofn (id) rfl (by simp [go_sem, List.take_of_length_le, ren, ren1, ren2, okr, okr1, okr2, ChkT, ChkN, BlkN, nf, grammarC, ruleC, hb]) (by simp [go_sem, List.take_of_length_le, ren, ren1, ren2, okr, okr1, okr2, ChkT, ChkN, BlkN, nf, grammarC, ruleC, hb])
                | false =>
                  have hfin := hext (insI W2 ((m : Int), -1)) true (hadd he hqb hqm) (fun p hp => insI_le _ _ _ hp) fun _ => insI_self _ _
                  rw [hqb] at hlb
                  rw [hqm] at hlm
                  refine wkdac (And.intro @ruleC.eq_1 (And.intro @hb (And.intro @hbn (And.intro @hlb (And.intro (@get_E _ _ _ _ hlb) (And.intro @hmn (And.intro @hlm (And.intro (@get_E _ _ _ _ hlm) (@hlp))))))))) _ ?_
                  refine ⟨(a + 1, insI W2 ((m : Int), -1), true), ⟨by dsimp only; omega, hfin⟩, by dsimp only; omega, ?_⟩
                  dsimp only
                  rw [stepa, hri]
                  exact Cov.ofn (id) rfl (by simp [go_sem, List.take_of_length_le, ren, ren1, ren2, okr, okr1, okr2, ChkT, ChkN, BlkN, nf, grammarC, ruleC, hb]) (by simp [go_sem, List.take_of_length_le, ren, ren1, ren2, okr, okr1, okr2, ChkT, ChkN, BlkN, nf, grammarC, ruleC, hb])
      · have hae : a = r.2.length := by simp at h; omega
        subst hae
        rw [seenW_all g hrk] at hC
        refine wkdac0 _ ?_
        refine ⟨(k + 1, W, more), ⟨by dsimp only; omega, hC⟩, by dsimp only; omega, ?_⟩
        rw [stepk]
        exact Cov.ofn (id) rfl (by simp [go_sem, List.take_of_length_le, ren, ren1, ren2, okr, okr1, okr2, ChkT, ChkN, BlkN, nf, grammarC]) (by simp [go_sem, List.take_of_length_le, ren, ren1, ren2, okr, okr1, okr2, ChkT, ChkN, BlkN, nf, grammarC])
    · have hke : k = g.2.2.length := by simp at h; omega
      subst hke
      rw [List.take_length] at hC
      change ClI _ _ _ _ _ (impsW g) at hC
      refine wkdac0 _ ?_
      refine ⟨(W, more), ⟨hC.le _ hz0, hC.low, fun e => ?_⟩, ?_, ?_⟩
      · dsimp only at e ⊢
        subst e
        exact hC.done
      · dsimp only
        have hc := card_leQ W
        cases more with
        | true => have := hC.yes rfl; simp only [if_true]; omega
        | false => rw [(hC.no rfl).1]; simp
      exact Cov.ofn (id) rfl (by simp [go_sem, List.take_of_length_le, ren, ren1, ren2, okr, okr1, okr2, ChkT, ChkN, BlkN, nf, grammarC]) (by simp [go_sem, List.take_of_length_le, ren, ren1, ren2, okr, okr1, okr2, ChkT, ChkN, BlkN, nf, grammarC])
  · have h : more0 = false := by simpa using h
    have := hfin h
    subst this
    refine wkdac0 _ ?_
    refine OutF.mkn (xs := ?_) (nm [1, 2]) ?_ ?_ ?_ ?_ ?_ (by first | exact .inr rfl | exact .inl rfl)
    rotate_left
    · simp [go_sem, List.take_of_length_le] <;> with_reducible rfl
    · simp [go_sem, List.take_of_length_le, ren, ren1, ren2, okr, okr1, okr2, ChkN, BlkN, List.range_succ, nf]
    · simp [go_sem, List.take_of_length_le, ren, ren1, ren2, okr, okr1, okr2, ChkN, BlkN, List.range_succ, nf]
    · simp [go_sem, List.take_of_length_le, ren, ren1, ren2, okr, okr1, okr2, ChkN, BlkN, List.range_succ, nf]
    · rfl
end Go.Proofs.YtkolhcoeifghpaaGreat.En
end
section
namespace Go.Proofs.YtkolhcoeifghpaaGreat.En
open Go.RowKit
set_option linter.unusedSimpArgs false
set_option linter.unusedVariables false
def consecF (P : Program) : Nat → List Field → Option Nat
  | o, [] => some o
  | o, f :: fs => if f.offset = o then consecF P (o + P.cellsOf f.type) fs else none
def boolsT (P : Program) : Nat → TypeId → Bool
  | 0, _ => false
  | d + 1, t => match P.underlying t with
    | some .bool => P.cellsOf t == 1
    | some (.array n e) => boolsT P d e && P.cellsOf t == n * P.cellsOf e
    | some (.struct fs) => (fs.all fun f => f.name != "_") && (fs.toList.all fun f => boolsT P d f.type) && consecF P 0 fs.toList == some (P.cellsOf t)
    | _ => false
theorem mapM_some_map {α β : Type} {f : α → Option β} {g : α → β} : ∀ {l : List α}, (∀ x ∈ l, f x = some (g x)) → l.mapM f = some (l.map g)
  | [], _ => rfl
  | a :: l, h => by
    rw [List.mapM_cons, h a (.head _), mapM_some_map fun x hx => h x (.tail _ hx)]; rfl
theorem chunks_flat {α : Type} (c : Nat) : ∀ (n : Nat) (xs : List α), xs.length = n * c → ((List.range n).map fun i => (xs.drop (i * c)).take c).flatten = xs
  | 0, xs, h => by
    have : xs = [] := List.eq_nil_of_length_eq_zero (by simpa using h)
    subst this; rfl
  | n + 1, xs, h => by
    have h1 : (n + 1) * c = n * c + c := Nat.succ_mul n c
    have ih := chunks_flat c n (xs.drop c) (by rw [List.length_drop]; omega)
    rw [List.range_succ_eq_map, List.map_cons, List.map_map, List.flatten_cons, Nat.zero_mul, List.drop_zero]
    have e : (fun i => List.take c (List.drop (i * c) xs)) ∘ Nat.succ = fun i => List.take c (List.drop (i * c) (xs.drop c)) := by
      funext i
      simp only [Function.comp, List.drop_drop]
      congr 2
      rw [Nat.succ_mul]; omega
    rw [e, ih, List.take_append_drop]
theorem consec_flat {α : Type} {P : Program} {m : Nat} (xs : List α) : ∀ (fs : List Field) (o : Nat), consecF P o fs = some m → xs.length = m → (fs.map fun f => (xs.drop f.offset).take (P.cellsOf f.type)).flatten = xs.drop o
  | [], o, h, hx => by
    simp only [consecF, Option.some.injEq] at h
    rw [List.drop_eq_nil_of_le (by omega)]; rfl
  | f :: fs, o, h, hx => by
    simp only [consecF] at h
    split at h
    · rename_i hf
      rw [List.map_cons, List.flatten_cons, consec_flat xs fs _ h hx, hf, ← List.drop_drop, List.take_append_drop]
    · cases h
theorem consec_le {P : Program} {m : Nat} : ∀ (fs : List Field) (o : Nat), consecF P o fs = some m → o ≤ m ∧ ∀ f ∈ fs, f.offset + P.cellsOf f.type ≤ m
  | [], o, h => by
    simp only [consecF, Option.some.injEq] at h
    exact ⟨by omega, fun f hf => by cases hf⟩
  | f :: fs, o, h => by
    simp only [consecF] at h
    split at h
    · rename_i hf
      obtain ⟨h1, h2⟩ := consec_le fs _ h
      exact ⟨by omega, fun g hg => by
        rcases List.mem_cons.1 hg with e | e
        · subst e; omega
        · exact h2 g e⟩
    · cases h
theorem keyLits_bools {P : Program} : ∀ (d : Nat) (t : TypeId), boolsT P d t = true → ∀ xs : List Bool, xs.length = P.cellsOf t → P.keyLits d t (xs.map Value.bool) = some (xs.map Lit.bool)
  | 0, t, h => by simp [boolsT] at h
  | d + 1, t, h => fun xs hx => by
    unfold boolsT at h
    unfold Program.keyLits
    cases hu : P.underlying t with
    | none => simp [hu] at h
    | some k =>
      cases k <;> simp only [hu, Bool.false_eq_true, Bool.and_eq_true, beq_iff_eq] at h
      case bool =>
        rw [h] at hx
        match xs, hx with
        | [b], _ => rfl
      case array n e =>
        obtain ⟨h1, h2⟩ := h
        have hl : (xs.map Value.bool).length = P.cellsOf t := by simpa using hx
        simp only
        rw [if_pos hl, mapM_some_map (g := fun i => ((xs.drop (i * P.cellsOf e)).take (P.cellsOf e)).map Lit.bool) fun i hi => ?_]
        · rw [Option.map_some]
          congr 1
          have := congrArg (List.map Lit.bool) (chunks_flat (P.cellsOf e) n xs (by omega))
          rw [List.map_flatten, List.map_map] at this
          exact this
        · rw [← List.map_drop, ← List.map_take]
          have hi := List.mem_range.1 hi
          refine keyLits_bools d e h1 _ ?_
          rw [List.length_take, List.length_drop, hx, h2]
          have : (i + 1) * P.cellsOf e ≤ n * P.cellsOf e := Nat.mul_le_mul_right _ hi
          rw [Nat.succ_mul] at this
          omega
      case struct fs =>
        obtain ⟨⟨h1, h2⟩, h3⟩ := h
        have hl : (xs.map Value.bool).length = P.cellsOf t := by simpa using hx
        simp only
        rw [if_pos ⟨hl, h1⟩, mapM_some_map (g := fun f => ((xs.drop f.offset).take (P.cellsOf f.type)).map Lit.bool) fun f hf => ?_]
        · rw [Option.map_some]
          congr 1
          have := congrArg (List.map Lit.bool) (consec_flat xs fs.toList 0 h3 hx)
          rw [List.map_flatten, List.map_map] at this
          exact this
        · rw [← List.map_drop, ← List.map_take]
          have hle := (consec_le _ _ h3).2 f hf
          refine keyLits_bools d f.type (List.all_eq_true.1 h2 f hf) _ ?_
          rw [List.length_take, List.length_drop, hx]
          omega
theorem EqBs.mk {P : Program} {t : TypeId} {n : Nat} (hg : P.eqGuardType P.depth t = false) (hk : P.keyTypeAt 10000 t = true) (hb : boolsT P 10 t = true) (hn : P.cellsOf t = n)
    (hf : (match P.underlying t with | some (.struct _) | some (.array _ _) => true | _ => false) = true) : EqBs P t n := by
  refine .made hg fun xs ys w hx hy => ?_
  have hfm : ∀ xs : List Bool, xs.length = n → (Value.agg (boolA xs)).formed P t = true := fun xs hx => by
    simp only [Value.formed, boolA]
    split at hf
    · simp_all
    · simp_all
    · cases hf
  obtain ⟨r, hr, hi⟩ := run_equalIn_deep 0 10000 t hk w 10 10 (.agg (boolA xs)) (.agg (boolA ys)) (xs.map Lit.bool) (ys.map Lit.bool) (hfm xs hx) (hfm ys hy)
    (by simpa [Value.cells, boolA] using keyLits_bools 10 t hb xs (by omega)) (by simpa [Value.cells, boolA] using keyLits_bools 10 t hb ys (by omega))
  rw [Nat.zero_add] at hr
  rw [hr]
  congr 1
  rw [Bool.eq_iff_iff, hi, decide_eq_true_eq]
  refine ⟨fun h => ?_, fun h => by rw [h]⟩
  have := congrArg (List.map fun l => match l with | Lit.bool b => b | _ => false) h
  simpa [List.map_map, Function.comp_def] using this
end Go.Proofs.YtkolhcoeifghpaaGreat.En
end
section
namespace Go.Proofs.YtkolhcoeifghpaaGreat.En
open Go.RowKit
set_option linter.unusedSimpArgs false
set_option linter.unusedVariables false
set_option maxHeartbeats 4000000
def boolsH (H : Nat → Bool) : List Bool := (List.range 66).map H
def boxH (H : Nat → Bool) : List AV := (boolsH H).map fun b => .v (.bool b)
@[simp] theorem boolsH_len (H : Nat → Bool) : (boolsH H).length = 66 := by rw [boolsH, List.length_map, List.length_range]
@[simp] theorem boxH_len (H : Nat → Bool) : (boxH H).length = 66 := by rw [boxH, List.length_map, boolsH_len]
theorem boxH_at (H : Nat → Bool) {i : Nat} (h : i < 66) : (boxH H)[i]? = some (.v (.bool (H i))) := by
  rw [boxH, boolsH, List.getElem?_map, List.getElem?_map, List.getElem?_range h]; rfl
theorem boolsH_ext {H H' : Nat → Bool} (h : ∀ i, i < 66 → H i = H' i) : boolsH H = boolsH H' := by
  unfold boolsH
  exact List.map_congr_left fun i hi => h i (List.mem_range.1 hi)
theorem boolsH_inj {H H' : Nat → Bool} (h : boolsH H = boolsH H') {i : Nat} (hi : i < 66) : H i = H' i := by
  have := congrArg (fun l => l[i]?) h
  simpa [boolsH, List.getElem?_range hi] using this
theorem boxH_ext {H H' : Nat → Bool} (h : ∀ i, i < 66 → H i = H' i) : boxH H = boxH H' := by rw [boxH, boolsH_ext h]; rfl
theorem boxH_set (H : Nat → Bool) {i : Nat} (h : i < 66) (b : Bool) : (boxH H).set i (.v (.bool b)) = boxH (fun k => if k = i then b else H k) := by
  refine List.ext_getElem? fun k => ?_
  by_cases hk : k < 66
  · rw [boxH_at _ hk, List.getElem?_set]
    by_cases e : i = k
    · subst e; rw [if_pos rfl, if_pos (by simpa using h), if_pos rfl]
    · rw [if_neg e, boxH_at _ hk, if_neg (fun g => e g.symm)]
  · rw [List.getElem?_eq_none (by simp; omega), List.getElem?_eq_none (by simp; omega)]
theorem boxH_v (H : Nat → Bool) : ∀ x ∈ boxH H, ∃ b, x = .v (.bool b) := fun x hx => by
  simp only [boxH, List.mem_map] at hx
  obtain ⟨b, _, rfl⟩ := hx
  exact ⟨b, rfl⟩
theorem boxH_cl (H : Nat → Bool) : ∀ x ∈ boxH H, cl1 x = true := fun x hx => by
  obtain ⟨b, rfl⟩ := boxH_v H x hx; rfl
@[simp] theorem boxH_clA (H : Nat → Bool) : (boxH H).all cl1 = true := List.all_eq_true.2 (boxH_cl H)
@[simp] theorem nfc_boxH (H : Nat → Bool) : nfc (boxH H) := fun x hx => by obtain ⟨b, rfl⟩ := boxH_v H x hx; rfl
@[simp] theorem boxH_flat (H : Nat → Bool) : ∀ x ∈ boxH H, flat x = true := fun x hx => by obtain ⟨b, rfl⟩ := boxH_v H x hx; rfl
@[simp] theorem boxH_all (H : Nat → Bool) : (boxH H).all flat = true := List.all_eq_true.2 (boxH_flat H)
@[simp] theorem boxH_take (H : Nat → Bool) : (boxH H).take 66 = boxH H := List.take_of_length_le (by simp)
@[simp] theorem boxH_drop (H : Nat → Bool) : (boxH H).drop 66 = [] := List.drop_of_length_le (by simp)
theorem boxH_four (H : Nat → Bool) {i : Nat} (h : i + 4 ≤ 66) : ((boxH H).drop i).take 4 = cellsT (fun t => H (i + t.toNat)) := by
  refine List.ext_getElem? fun k => ?_
  by_cases hk : k < 4
  · rw [List.getElem?_take_of_lt hk, List.getElem?_drop, boxH_at _ (by omega), cellsT_at _ hk]; rfl
  · rw [List.getElem?_eq_none (by simp; omega), List.getElem?_eq_none (by simp; omega)]
def headH (M N : Int → Bool) (F W : Int × Int → Bool) : Nat → Bool := fun k =>
  if k < 6 then M k else if k < 12 then N ((k - 6 : Nat) : Int) else if k < 36 then F (((k - 12) / 4 : Nat), ((k - 12) % 4 : Nat)) else if k < 60 then W (((k - 36) / 4 : Nat), ((k - 36) % 4 : Nat)) else W ((k - 60 : Nat), -1)
theorem headH_M (M N : Int → Bool) (F W : Int × Int → Bool) {n : Nat} (h : n < 6) : headH M N F W n = M n := by simp [headH, h]
theorem headH_N (M N : Int → Bool) (F W : Int × Int → Bool) {n : Nat} (h : n < 6) : headH M N F W (6 + n) = N n := by
  unfold headH
  rw [if_neg (by omega), if_pos (by omega), show 6 + n - 6 = n by omega]
theorem headH_F (M N : Int → Bool) (F W : Int × Int → Bool) {n t : Nat} (h : n < 6) (ht : t < 4) : headH M N F W (12 + n * 4 + t) = F (n, t) := by
  unfold headH
  rw [if_neg (by omega), if_neg (by omega), if_pos (by omega), show (12 + n * 4 + t - 12) / 4 = n by omega, show (12 + n * 4 + t - 12) % 4 = t by omega]
theorem headH_W (M N : Int → Bool) (F W : Int × Int → Bool) {n t : Nat} (h : n < 6) (ht : t < 4) : headH M N F W (36 + n * 4 + t) = W (n, t) := by
  unfold headH
  rw [if_neg (by omega), if_neg (by omega), if_neg (by omega), if_pos (by omega), show (36 + n * 4 + t - 36) / 4 = n by omega, show (36 + n * 4 + t - 36) % 4 = t by omega]
theorem headH_L (M N : Int → Bool) (F W : Int × Int → Bool) {n : Nat} (h : n < 6) : headH M N F W (60 + n) = W (n, -1) := by
  unfold headH
  rw [if_neg (by omega), if_neg (by omega), if_neg (by omega), if_neg (by omega), show 60 + n - 60 = n by omega]
def updP (F : Int × Int → Bool) (p : Int × Int) (b : Bool) : Int × Int → Bool := fun q => if q = p then b else F q
theorem headH_setF (M N : Int → Bool) (F W : Int × Int → Bool) {n t : Nat} (h : n < 6) (ht : t < 4) (b : Bool) : (boxH (headH M N F W)).set (12 + n * 4 + t) (.v (.bool b)) = boxH (headH M N (updP F (n, t) b) W) := by
  rw [boxH_set _ (by omega)]
  refine boxH_ext fun i hi => ?_
  by_cases e : i = 12 + n * 4 + t
  · rw [if_pos e, e, headH_F _ _ _ _ h ht, updP, if_pos rfl]
  · rw [if_neg e]
    unfold headH
    split
    · rfl
    · split
      · rfl
      · split
        · rw [updP, if_neg fun g => e ?_]
          simp only [Prod.mk.injEq] at g
          omega
        · rfl
theorem headH_setW (M N : Int → Bool) (F W : Int × Int → Bool) {n t : Nat} (h : n < 6) (ht : t < 4) (b : Bool) : (boxH (headH M N F W)).set (36 + n * 4 + t) (.v (.bool b)) = boxH (headH M N F (updP W (n, t) b)) := by
  rw [boxH_set _ (by omega)]
  refine boxH_ext fun i hi => ?_
  by_cases e : i = 36 + n * 4 + t
  · rw [if_pos e, e, headH_W _ _ _ _ h ht, updP, if_pos rfl]
  · rw [if_neg e]
    unfold headH
    split
    · rfl
    · split
      · rfl
      · split
        · rfl
        · split
          · rw [updP, if_neg fun g => e ?_]
            simp only [Prod.mk.injEq] at g
            omega
          · rw [updP, if_neg fun g => ?_]
            simp only [Prod.mk.injEq] at g
            omega
theorem headH_setL (M N : Int → Bool) (F W : Int × Int → Bool) {n : Nat} (h : n < 6) (b : Bool) : (boxH (headH M N F W)).set (60 + n) (.v (.bool b)) = boxH (headH M N F (updP W (n, -1) b)) := by
  rw [boxH_set _ (by omega)]
  refine boxH_ext fun i hi => ?_
  by_cases e : i = 60 + n
  · rw [if_pos e, e, headH_L _ _ _ _ h, updP, if_pos rfl]
  · rw [if_neg e]
    unfold headH
    split
    · rfl
    · split
      · rfl
      · split
        · rfl
        · split
          · rw [updP, if_neg fun g => ?_]
            simp only [Prod.mk.injEq] at g
            omega
          · rw [updP, if_neg fun g => e ?_]
            simp only [Prod.mk.injEq] at g
            omega
theorem updP_true (F : Int × Int → Bool) (p : Int × Int) : updP F p true = insI F p := by
  funext q
  by_cases e : q = p
  · simp [updP, insI, e]
  · simp [updP, insI, e]
theorem updP_self (F : Int × Int → Bool) {p : Int × Int} {b : Bool} (h : F p = b) : updP F p b = F := by
  funext q
  by_cases e : q = p
  · rw [updP, if_pos e, e, h]
  · rw [updP, if_neg e]
theorem eqHeads : EqBs Tryz.prog 141 66 := EqBs.mk (by kernel_rfl) (by kernel_rfl) (by kernel_rfl) (by kernel_rfl) (by kernel_rfl)
/-! tokensOf -/
theorem symbolOfA (x : Int) (h0 : -100 ≤ x) (h1 : x ≤ 100) : Pure Tryz.prog 53 [.v (.int .i64 x)] (.v (.int .i64 (-1 - x))) := by
  refine Pure.mk (rs := [.tmp 2]) (nt := 5) Tryz.func53 (by kernel_rfl) rfl rfl rfl (by simp) ?_
  simp only [sl]
  have hw : wr64 (-1 - x) = -1 - x := wr64_id (by omega) (by omega)
  refine wkc (@hw) _ ?_
  refine Out.mk (xs := ?_) ?_ ?_ (by first | exact .inr rfl | exact .inl rfl)
  rotate_left
  · simp [go_sem, List.take_of_length_le] <;> with_reducible rfl
  exact .v _
end Go.Proofs.YtkolhcoeifghpaaGreat.En
end
section
namespace Go.Proofs.YtkolhcoeifghpaaGreat.En
open Go.RowKit
set_option linter.unusedSimpArgs false
set_option linter.unusedVariables false
set_option maxHeartbeats 4000000
theorem ofLost (M N : Int → Bool) (F W : Int × Int → Bool) (x : Int) (hx : x ≤ 5) : Pure Tryz.prog 137 [.v (.int .i64 x), .pi [.pi (boxH (headH M N F W))]] (.v (.bool (decide (0 ≤ x) && !M x))) := by
  refine Pure.mk (rs := [.tmp 3]) (nt := 15) Tryz.func137 (by kernel_rfl) rfl rfl rfl (by simp) ?_
  simp only [sl]
  by_cases h : 0 ≤ x
  · obtain ⟨n, rfl⟩ : ∃ n : Nat, x = (n : Int) := ⟨x.toNat, by omega⟩
    have hn6 : n < 6 := by omega
    have hcn := boxH_at (headH M N F W) (i := n) (by omega)
    rw [headH_M _ _ _ _ hn6] at hcn
    rw [decide_eq_true h, Bool.true_and]
    refine wkc (And.intro @h (And.intro @hn6 (And.intro (@get_E _ _ _ _ hcn) (@hcn)))) _ ?_
    refine Out.mk (xs := ?_) ?_ ?_ (by first | exact .inr rfl | exact .inl rfl)
    rotate_left
    · simp [go_sem, List.take_of_length_le] <;> with_reducible rfl
    exact .v _
  · rw [decide_eq_false h, Bool.false_and]
    refine wkc (@h) _ ?_
    refine Out.mk (xs := ?_) ?_ ?_ (by first | exact .inr rfl | exact .inl rfl)
    rotate_left
    · simp [go_sem, List.take_of_length_le] <;> with_reducible rfl
    exact .v _
theorem begT_zero (nu : Int → Bool) (F : Int × Int → Bool) (right : List Int) : (fun t => begT nu F (right.take 0) t) = fun _ => false := by funext t; simp [begT]
theorem okM_lost (M : Int → Bool) (right : List Int) : (right.any fun x => decide (0 ≤ x) && !M x) = !okM true M right := by rw [okM_true, Bool.not_not]
theorem ofH (M N : Int → Bool) (F W : Int × Int → Bool) (right : List Int) (hl : right.length ≤ 4) (h1 : ∀ x ∈ right, x ≤ 5) (h0 : ∀ x ∈ right, -4 ≤ x) :
    Pure Tryz.prog 118 [.pi (boxH (headH M N F W)), .im 1 (ints right)] (.tu [.ag (cellsT fun t => okM true M right && begT N F right t), .v (.bool (okM true M right && okM false N right))]) := by
  have cf := containsFuncInt 137 [.pi [.pi (boxH (headH M N F W))]] (fun x => decide (0 ≤ x) && !M x) right (by omega) rfl (fun x hx => ofLost M N F W x (h1 x hx))
  rw [okM_lost] at cf
  refine Pure.mk (rs := [.cell 4 138, .tmp 5]) (nt := 57) Tryz.func118 (by kernel_rfl) rfl rfl rfl (by simp) ?_
  simp only [sl]
  refine wkc0 _ ?_
  refine GS.cd (cf) rfl rfl rfl rfl (by simp [go_sem, List.take_of_length_le] <;> with_reducible rfl) rfl (by exact .cons (.im _ _) (.cons (Fz.fnL (.cons (Fz.box rfl rfl rfl rfl) .nil)) .nil)) rfl ?_
  cases okM true M right with
  | false =>
    simp only [Bool.false_and]
    refine wkc0 _ ?_
    refine Out.mk (xs := ?_) ?_ ?_ (by first | exact .inr rfl | exact .inl rfl)
    rotate_left
    · simp [go_sem, List.take_of_length_le, cellsT] <;> with_reducible rfl
    exact Fz.tuL (.cons (Fz.agL (.cons (.v _) (.cons (.v _) (.cons (.v _) (.cons (.v _) .nil))))) (.cons (.v _) .nil))
  | true =>
    simp only [Bool.true_and]
    refine wkc0 _ ?_
    refine Holds.loop (ι := Nat) (fun a => ⟨[(2, .pb 0 1 0 0), (4, .pb 1 4 0 0), (6, .pb 2 4 0 0), (16, .im 1 (ints right)), (17, .v (.int .i64 right.length)), (18, .v (.int .i64 a))], [(2, ⟨138, 4, [cellsT fun t => begT N F (right.take a) t]⟩), (1, ⟨138, 4, [cellsT fun _ => false]⟩), (0, ⟨113, 1, [[.pi (boxH (headH M N F W))]]⟩)], 3⟩)
      (fun a => a ≤ right.length ∧ okM false N (right.take a) = true) (fun a => right.length - a) 0 ⟨Nat.zero_le _, rfl⟩ ?_ ?_
    · rw [begT_zero]
      exact Cov.ofn (id) rfl (by simp [go_sem, List.take_of_length_le, ren, ren1, ren2, okr, okr1, okr2, ChkT, ChkN, BlkN, nf, cellsT]) (by simp [go_sem, List.take_of_length_le, ren, ren1, ren2, okr, okr1, okr2, ChkT, ChkN, BlkN, nf, cellsT])
    rintro a ⟨ha, hok⟩
    have stepa : wr64 ((a : Int) + 1) = ((a + 1 : Nat) : Int) := wr64_id (by omega) (by omega)
    refine wkc0 _ ?_
    refine Holds.cond rfl (fun h => ?_) (fun h => ?_)
    · have hla : a < right.length := by simp at h; omega
      have hxa : right[a]? = some right[a] := List.getElem?_eq_getElem hla
      have hxm := List.getElem_mem hla
      generalize right[a] = x at hxa hxm
      have hx5 := h1 x hxm
      have hx4 := h0 x hxm
      have hnext := fun t => begT_next (F := F) hxa hok t
      have hstop := fun h t => begT_stop (F := F) hxa hok h t
      have hstop2 := fun h => okM_stop (nu := N) hxa h
      generalize hb : begT N F (right.take a) = b at hnext hstop ⊢
      by_cases hx0 : x < 0
      · have cs := symbolOfA x (by omega) (by omega)
        have hx1 : ¬ 0 ≤ x := by omega
        have e1 := hstop2 (by simp [hx1])
        rw [e1]
        obtain ⟨m, hm⟩ : ∃ m : Nat, (-1 - x) = (m : Int) := ⟨(-1 - x).toNat, by omega⟩
        have hm4 : m < 4 := by omega
        have hm3 : m ≤ 3 := by omega
        have e2 : (fun t => begT N F right t) = fun t => if t = (m : Int) then true else b t := by
          funext t
          rw [hstop (by simp [hx1]) t, headT, if_pos hx0, hm]
          by_cases e : t = (m : Int) <;> simp [e]
        rw [e2]
        rw [hm] at cs
        have hset := cellsT_set b hm4 true
        generalize (fun t : Int => if t = (m : Int) then true else b t) = S at hset ⊢
        refine wkc (And.intro (@get_E _ _ _ _ hxa) (And.intro @hxa (And.intro @hla (@hx0)))) _ ?_
        refine GS.cc (cs) rfl rfl rfl rfl (by simp [go_sem, List.take_of_length_le] <;> with_reducible rfl) rfl (by simp [go_sem, List.take_of_length_le]) ?_
        refine wkc (And.intro @hm4 (And.intro @hm3 (@hset))) _ ?_
        refine wkc (@cellsT.eq_1) _ ?_
        refine Out.mk (xs := ?_) ?_ ?_ (by first | exact .inr rfl | exact .inl rfl)
        rotate_left
        · simp [go_sem, List.take_of_length_le, cellsT] <;> with_reducible rfl
        exact Fz.tuL (.cons (Fz.agL (.cons (.v _) (.cons (.v _) (.cons (.v _) (.cons (.v _) .nil))))) (.cons (.v _) .nil))
      · obtain ⟨n, rfl⟩ : ∃ n : Nat, x = (n : Int) := ⟨x.toNat, by omega⟩
        have hn6 : n < 6 := by omega
        have hn0 := boxH_at (headH M N F W) (i := 6 + n) (by omega)
        rw [headH_N _ _ _ _ hn6] at hn0
        have h4 := boxH_four (headH M N F W) (i := 12 + n * 4) (by omega)
        have h4' : cellsT (fun t => headH M N F W (12 + n * 4 + t.toNat)) = cellsT fun t => F (n, t) := cellsT_ext fun t h0 h1 => by
          obtain ⟨k, rfl⟩ : ∃ k : Nat, t = (k : Int) := ⟨t.toNat, by omega⟩
          rw [Int.toNat_natCast, headH_F _ _ _ _ hn6 (by omega)]
        rw [h4'] at h4
        have hno : okM false N (right.take (a + 1)) = N (n : Int) := by
          rw [okM_snoc false N hxa, hok]; simp
        have hnx : (fun t => begT N F (right.take (a + 1)) t) = fun t => b t || F ((n : Int), t) := by
          funext t
          rw [hnext t, headT, if_neg hx0]
        have hsz : 4 ≤ 66 - (12 + n * 4) := by omega
        refine wkc (And.intro (@get_E _ _ _ _ hxa) (And.intro @hxa (And.intro @hla (And.intro @hx0 (And.intro @hn6 (And.intro @h4 (@hsz))))))) _ ?_
        refine Holds.loop (ι := Nat) (fun i => ⟨[(2, .pb 0 1 0 0), (4, .pb 1 4 0 0), (6, .pb 2 4 0 0), (8, .v (.int .i64 (n : Int))), (16, .im 1 (ints right)), (17, .v (.int .i64 right.length)), (18, .v (.int .i64 a)), (33, .ag (cellsT fun t => F ((n : Int), t))), (34, .v (.int .i64 i))], [(2, ⟨138, 4, [cellsT fun t => b t || (decide (t < (i : Int)) && F ((n : Int), t))]⟩), (1, ⟨138, 4, [cellsT fun _ => false]⟩), (0, ⟨113, 1, [[.pi (boxH (headH M N F W))]]⟩)], 3⟩)
          (fun i => i ≤ 4) (fun i => 4 - i) 0 (by omega) ?_ ?_
        · rw [cellsT_ext (S := fun t => b t || (decide (t < ((0 : Nat) : Int)) && F ((n : Int), t))) (T := b) fun t ht0 ht1 => by
            have : ¬ t < ((0 : Nat) : Int) := by omega
            rw [decide_eq_false this, Bool.false_and, Bool.or_false]]
          exact Cov.ofn (id) rfl (by simp [go_sem, List.take_of_length_le, ren, ren1, ren2, okr, okr1, okr2, ChkT, ChkN, BlkN, nf, cellsT]) (by simp [go_sem, List.take_of_length_le, ren, ren1, ren2, okr, okr1, okr2, ChkT, ChkN, BlkN, nf, cellsT])
        intro i hi
        have stepi : wr64 ((i : Int) + 1) = ((i + 1 : Nat) : Int) := wr64_id (by omega) (by omega)
        refine wkc0 _ ?_
        refine Holds.cond rfl (fun h => ?_) (fun h => ?_)
        · have hi4 : i < 4 := by simp at h; omega
          have hi3 : i ≤ 3 := by omega
          have hat := cellsT_at (fun t => F ((n : Int), t)) hi4
          have hat2 := cellsT_at (fun t => b t || (decide (t < (i : Int)) && F ((n : Int), t))) hi4
          have hbi : (b (i : Int) || (decide ((i : Int) < (i : Int)) && F ((n : Int), (i : Int)))) = b (i : Int) := by simp
          rw [hbi] at hat2
          have hset := cellsT_set (fun t => b t || (decide (t < (i : Int)) && F ((n : Int), t))) hi4 (b (i : Int) || F ((n : Int), (i : Int)))
          have hst : cellsT (fun x => if x = (i : Int) then (b (i : Int) || F ((n : Int), (i : Int))) else (b x || (decide (x < (i : Int)) && F ((n : Int), x)))) = cellsT fun t => b t || (decide (t < ((i + 1 : Nat) : Int)) && F ((n : Int), t)) := cellsT_ext fun t ht0 ht1 => by
            by_cases e : t = (i : Int)
            · subst e
              have : ((i : Int) < ((i + 1 : Nat) : Int)) := by omega
              rw [if_pos rfl, decide_eq_true this, Bool.true_and]
            · rw [if_neg e]
              have : (t < ((i + 1 : Nat) : Int)) ↔ (t < (i : Int)) := by omega
              simp only [this]
          rw [hst] at hset
          generalize hcf : F ((n : Int), (i : Int)) = fi at hat hset
          generalize hcb : b (i : Int) = bi at hat2 hset
          generalize (fun t => b t || (decide (t < (i : Int)) && F ((n : Int), t))) = S at hat2 hset ⊢
          obtain ⟨S', hS'⟩ : ∃ S', S' = fun t => b t || (decide (t < ((i + 1 : Nat) : Int)) && F ((n : Int), t)) := ⟨_, rfl⟩
          rw [← hS'] at hset
          cases bi with
          | true =>
            rw [Bool.true_or] at hset
            refine wkc (And.intro @hi4 (And.intro @hi3 (And.intro (@get_E _ _ _ _ hat) (And.intro @hat (And.intro (@get_E _ _ _ _ hat2) (And.intro @hat2 (@hset))))))) _ ?_
            refine ⟨i + 1, by omega, by omega, ?_⟩
            dsimp only
            rw [stepi, ← hS']
            exact Cov.ofn (id) rfl (by simp [go_sem, List.take_of_length_le, ren, ren1, ren2, okr, okr1, okr2, ChkT, ChkN, BlkN, nf, cellsT]) (by simp [go_sem, List.take_of_length_le, ren, ren1, ren2, okr, okr1, okr2, ChkT, ChkN, BlkN, nf, cellsT])
          | false =>
            rw [Bool.false_or] at hset
            refine wkc (And.intro @hi4 (And.intro @hi3 (And.intro (@get_E _ _ _ _ hat) (And.intro @hat (And.intro (@get_E _ _ _ _ hat2) (And.intro @hat2 (@hset))))))) _ ?_
            refine ⟨i + 1, by omega, by omega, ?_⟩
            dsimp only
            rw [stepi, ← hS']
            exact Cov.ofn (id) rfl (by simp [go_sem, List.take_of_length_le, ren, ren1, ren2, okr, okr1, okr2, ChkT, ChkN, BlkN, nf, cellsT]) (by simp [go_sem, List.take_of_length_le, ren, ren1, ren2, okr, okr1, okr2, ChkT, ChkN, BlkN, nf, cellsT])
        · have hi4 : i = 4 := by simp at h; omega
          subst hi4
          have hce : (cellsT fun t => b t || (decide (t < ((4 : Nat) : Int)) && F ((n : Int), t))) = cellsT fun t => begT N F (right.take (a + 1)) t := cellsT_ext fun t ht0 ht1 => by
            have e : t < ((4 : Nat) : Int) := by omega
            rw [hnext t, headT, if_neg hx0, decide_eq_true e, Bool.true_and]
          rw [hce]
          have hn1 : ((boxH (headH M N F W)).drop 6)[n]? = some (.v (.bool (N (n : Int)))) := by rw [List.getElem?_drop]; exact hn0
          refine wkc (And.intro @hn6 (And.intro @hn1 (And.intro (@get_E _ _ _ _ hn1) (And.intro @hn0 (@get_E _ _ _ _ hn0))))) _ ?_
          refine Holds.cond rfl (fun h => ?_) (fun h => ?_)
          · have hN : N (n : Int) = false := by simpa using h
            have e1 := hstop2 (by simp [hN])
            have e2 : (fun t => begT N F right t) = fun t => begT N F (right.take (a + 1)) t := by
              funext t
              rw [hstop (by simp [hN]) t, hnext t]
            rw [e1, e2]
            generalize (begT N F (right.take (a + 1))) = b2
            refine wkc (@cellsT.eq_1) _ ?_
            refine Out.mk (xs := ?_) ?_ ?_ (by first | exact .inr rfl | exact .inl rfl)
            rotate_left
            · simp [go_sem, List.take_of_length_le, cellsT] <;> with_reducible rfl
            exact Fz.tuL (.cons (Fz.agL (.cons (.v _) (.cons (.v _) (.cons (.v _) (.cons (.v _) .nil))))) (.cons (.v _) .nil))
          · have hN : N (n : Int) = true := by simpa using h
            rw [hN] at hno
            refine wkc0 _ ?_
            refine ⟨a + 1, ⟨by omega, hno⟩, by omega, ?_⟩
            rw [stepa]
            exact Cov.ofn (id) rfl (by simp [go_sem, List.take_of_length_le, ren, ren1, ren2, okr, okr1, okr2, ChkT, ChkN, BlkN, nf, cellsT]) (by simp [go_sem, List.take_of_length_le, ren, ren1, ren2, okr, okr1, okr2, ChkT, ChkN, BlkN, nf, cellsT])
    · have hae : a = right.length := by simp at h; omega
      subst hae
      rw [List.take_length] at hok ⊢
      rw [hok]
      refine wkc (@cellsT.eq_1) _ ?_
      refine Out.mk (xs := ?_) ?_ ?_ (by first | exact .inr rfl | exact .inl rfl)
      rotate_left
      · simp [go_sem, List.take_of_length_le, cellsT] <;> with_reducible rfl
      exact Fz.tuL (.cons (Fz.agL (.cons (.v _) (.cons (.v _) (.cons (.v _) (.cons (.v _) .nil))))) (.cons (.v _) .nil))
end Go.Proofs.YtkolhcoeifghpaaGreat.En
end
section
namespace Go.Proofs.YtkolhcoeifghpaaGreat.En
open Go.RowKit
set_option linter.unusedSimpArgs false
set_option linter.unusedVariables false
set_option maxHeartbeats 4000000
theorem null1 (S : Int → Bool) (x : Int) (hx : x ≤ 5) : Pure Tryz.prog 136 [.v (.int .i64 x), .pi (cellsN S)] (.v (.bool (decide (x < 0) || !S x))) := by
  refine Pure.mk (rs := [.tmp 3]) (nt := 12) Tryz.func136 (by kernel_rfl) rfl rfl rfl (by simp) ?_
  simp only [sl]
  by_cases h : x < 0
  · rw [decide_eq_true h, Bool.true_or]
    refine wkc (@h) _ ?_
    refine Out.mk (xs := ?_) ?_ ?_ (by first | exact .inr rfl | exact .inl rfl)
    rotate_left
    · simp [go_sem, List.take_of_length_le] <;> with_reducible rfl
    exact .v _
  · obtain ⟨n, rfl⟩ : ∃ n : Nat, x = (n : Int) := ⟨x.toNat, by omega⟩
    have hn6 : n < 6 := by omega
    have hcn := cellsN_at S hn6
    rw [decide_eq_false h, Bool.false_or]
    refine wkc (And.intro @h (And.intro @hn6 (And.intro (@get_E _ _ _ _ hcn) (@hcn)))) _ ?_
    refine Out.mk (xs := ?_) ?_ ?_ (by first | exact .inr rfl | exact .inl rfl)
    rotate_left
    · simp [go_sem, List.take_of_length_le] <;> with_reducible rfl
    exact .v _
theorem okM_false (S : Int → Bool) (right : List Int) : okM false S right = !right.any fun x => decide (x < 0) || !S x := by
  rw [okM, List.not_any_eq_all_not]
  congr 1
  funext x
  by_cases h : x < 0
  · have : ¬ 0 ≤ x := by omega
    simp [h, this]
  · have : 0 ≤ x := by omega
    simp [h, this]
theorem makes0 (g : GrammarT) (hG : OkG g) (r : RuleT) (hr : r ∈ g.2.2) (S : Int → Bool) : Pure Tryz.prog 135 [.ag (ruleC r), .ag (cellsN S)] (.v (.bool (okM false S r.2))) := by
  have h4 := hG.r4 r hr
  have h5 := hG.s1 r hr
  have h6 := hG.n1
  have cf := containsFuncInt 136 [.pi (cellsN S)] (fun x => decide (x < 0) || !S x) r.2 (by omega) rfl (fun x hx => null1 S x (by have := h5 x hx; omega))
  rw [okM_false]
  generalize (r.2.any fun x => decide (x < 0) || !S x) = b at cf ⊢
  refine Pure.mk (rs := [.tmp 4]) (nt := 10) Tryz.func135 (by kernel_rfl) rfl rfl rfl (by simp) ?_
  simp only [sl, ruleC, cellsN]
  refine wkc (And.intro @ruleC.eq_1 (@cellsN.eq_1)) _ ?_
  refine GS.cd (cf) rfl rfl rfl rfl (by simp [go_sem, List.take_of_length_le, ruleC, cellsN] <;> with_reducible rfl) rfl (by exact .cons (.im _ _) (.cons (Fz.fnL (.cons (Fz.box rfl rfl rfl rfl) .nil)) .nil)) rfl ?_
  refine wkc0 _ ?_
  refine Out.mk (xs := ?_) ?_ ?_ (by first | exact .inr rfl | exact .inl rfl)
  rotate_left
  · simp [go_sem, List.take_of_length_le] <;> with_reducible rfl
  exact .v _
theorem nullableG (g : GrammarT) (hG : OkG g) : Pure Tryz.prog 117 [.ag (grammarC g)] (.ag (cellsN (madeS g false))) := by
  have cc := closedG g hG false 135 (fun r hr S => makes0 g hG r hr S)
  refine Pure.mk (rs := [.cell 2 136]) (nt := 5) Tryz.func117 (by kernel_rfl) rfl rfl rfl (by simp) ?_
  simp only [sl, grammarC]
  refine wkc (@grammarC.eq_1) _ ?_
  refine GS.cc (cc) rfl rfl rfl rfl (by simp [go_sem, List.take_of_length_le, grammarC, cellsN] <;> with_reducible rfl) rfl (by simp [go_sem, List.take_of_length_le, grammarC, cellsN]) ?_
  refine wkc (@cellsN.eq_1) _ ?_
  refine Out.mk (xs := ?_) ?_ ?_ (by first | exact .inr rfl | exact .inl rfl)
  rotate_left
  · simp [go_sem, List.take_of_length_le, cellsN] <;> with_reducible rfl
  exact Fz.cl rfl
end Go.Proofs.YtkolhcoeifghpaaGreat.En
end
section
namespace Go.Proofs.YtkolhcoeifghpaaGreat.En
open Go.RowKit
set_option linter.unusedSimpArgs false
set_option linter.unusedVariables false
set_option maxHeartbeats 4000000
theorem ofG (g : GrammarT) (F W : Int × Int → Bool) (right : List Int) (hl : right.length ≤ 4) (h1 : ∀ x ∈ right, x ≤ 5) (h0 : ∀ x ∈ right, -4 ≤ x) :
    Pure Tryz.prog 118 [.pi (boxH (headH (madeS g true) (madeS g false) F W)), .im 1 (ints right)] (.tu [.ag (cellsT fun t => okM true (madeS g true) right && begT (madeS g false) F right t), .v (.bool (nullS g right))]) := by
  have h := ofH (madeS g true) (madeS g false) F W right hl h1 h0
  have e : (okM true (madeS g true) right && okM false (madeS g false) right) = nullS g right := by
    cases hn : nullS g right with
    | false => rw [nullS] at hn; rw [hn, Bool.and_false]
    | true =>
      have h3 := nullS_made hn
      rw [nullS] at hn
      rw [h3, hn]; rfl
  rwa [e] at h
theorem boxH_none (M N : Int → Bool) : boxH (headH M N (fun _ => false) (fun _ => false)) = cellsN M ++ cellsN N ++ List.replicate 54 (.v (.bool false)) := rfl
theorem filt_ext {ε : Type} {S T : ε → Bool} {U : List ε} (h : ∀ x ∈ U, S x = T x) : U.filter S = U.filter T := List.filter_congr h
theorem heads_neF {L K : List (Imp (Int × Int))} {F0 F W M N} {more : Bool} (h : ClI L univP F0 F more K) : (!decide (boolsH (headH M N F W) = boolsH (headH M N F0 W))) = more := by
  cases more with
  | false => rw [(h.no rfl).1]; simp
  | true =>
    rw [Bool.not_eq_true', decide_eq_false_iff_not]
    intro e
    have hlt := h.yes rfl
    rw [filt_ext (S := F0) (T := F) fun p hp => ?_] at hlt
    · exact absurd hlt (Nat.lt_irrefl _)
    · obtain ⟨⟨h1, h2⟩, h3, h4⟩ := mem_univP.1 hp
      obtain ⟨a, b⟩ := p
      dsimp only at h1 h2 h3 h4
      obtain ⟨n, rfl⟩ : ∃ n : Nat, a = (n : Int) := ⟨a.toNat, by omega⟩
      obtain ⟨t, rfl⟩ : ∃ t : Nat, b = (t : Int) := ⟨b.toNat, by omega⟩
      have := boolsH_inj e (i := 12 + n * 4 + t) (by omega)
      rw [headH_F _ _ _ _ (by omega) (by omega), headH_F _ _ _ _ (by omega) (by omega)] at this
      exact this.symm
theorem heads_neW {L K : List (Imp (Int × Int))} {F W0 W M N} {more : Bool} (h : ClI L univQ W0 W more K) : (!decide (boolsH (headH M N F W) = boolsH (headH M N F W0))) = more := by
  cases more with
  | false => rw [(h.no rfl).1]; simp
  | true =>
    rw [Bool.not_eq_true', decide_eq_false_iff_not]
    intro e
    have hlt := h.yes rfl
    rw [filt_ext (S := W0) (T := W) fun p hp => ?_] at hlt
    · exact absurd hlt (Nat.lt_irrefl _)
    · obtain ⟨⟨h1, h2⟩, h3, h4⟩ := mem_univQ.1 hp
      obtain ⟨a, b⟩ := p
      dsimp only at h1 h2 h3 h4
      obtain ⟨n, rfl⟩ : ∃ n : Nat, a = (n : Int) := ⟨a.toNat, by omega⟩
      by_cases hb : b = -1
      · subst hb
        have := boolsH_inj e (i := 60 + n) (by omega)
        rw [headH_L _ _ _ _ (by omega), headH_L _ _ _ _ (by omega)] at this
        exact this.symm
      · obtain ⟨t, rfl⟩ : ∃ t : Nat, b = (t : Int) := ⟨b.toNat, by omega⟩
        have := boolsH_inj e (i := 36 + n * 4 + t) (by omega)
        rw [headH_W _ _ _ _ (by omega) (by omega), headH_W _ _ _ _ (by omega) (by omega)] at this
        exact this.symm
theorem ClI.upd {L M : List (Imp (Int × Int))} {U : List (Int × Int)} {S0 S : Int × Int → Bool} {more : Bool} (h : ClI L U S0 S more M) {p : Imp (Int × Int)} (hp : p ∈ L) (hm : MonI p) (hU : p.2 ∈ U) :
    (∃ more, ClI L U S0 (updP S p.2 (S p.2 || p.1 S)) more M) ∧ (∀ q, S q = true → updP S p.2 (S p.2 || p.1 S) q = true) ∧ (p.1 S = true → updP S p.2 (S p.2 || p.1 S) p.2 = true) := by
  cases hS : S p.2 with
  | true =>
    rw [Bool.true_or, updP_self S hS]
    exact ⟨⟨more, h⟩, fun _ g => g, fun _ => hS⟩
  | false =>
    rw [Bool.false_or]
    cases h1 : p.1 S with
    | false =>
      rw [updP_self S hS]
      exact ⟨⟨more, h⟩, fun _ g => g, fun e => by cases e⟩
    | true =>
      rw [updP_true]
      exact ⟨⟨true, h.add hp hm h1 hS hU M⟩, fun q hq => insI_le _ _ _ hq, fun _ => insI_self _ _⟩
theorem headsG (g : GrammarT) (hG : OkG g) : Fn Tryz.prog 85 0 [.ag (grammarC g)] [] (.pb 0 66 0 0) 1 [(0, ⟨141, 66, [boxH (headH (madeS g true) (madeS g false) (firstS g) (followS g))]⟩)] := by
  have hlen := hG.len
  have hn1 := hG.n1
  have cp := productiveG g hG
  have cn := nullableG g hG
  refine Fn.mk (rs := [.tmp 2]) (nt := 182) Tryz.func85 (by kernel_rfl) rfl rfl rfl (by simp) ?_
  simp only [sl, grammarC]
  refine wkdsc (@grammarC.eq_1) _ ?_
  refine Holds.anx [1004, 1005] [] (fun n => decide (1 ≤ n)) mixed ?_ ?_ ?_; (· kernel_rfl); (· kernel_rfl)
  refine wkdac (@grammarC.eq_1) _ ?_
  first | refine GS.cc (cp) rfl rfl rfl rfl (by simp [go_sem, List.take_of_length_le, grammarC] <;> with_reducible rfl) rfl (by simp [go_sem, List.take_of_length_le, grammarC]) ?_ | refine Gd.cc (cp) rfl rfl rfl rfl (by simp [go_sem, List.take_of_length_le, grammarC] <;> with_reducible rfl) rfl (by simp [go_sem, List.take_of_length_le, grammarC]) ?_ | refine Gx.cc (cp) rfl rfl rfl rfl rfl (by simp [go_sem, List.take_of_length_le, grammarC] <;> with_reducible rfl) rfl (by simp [go_sem, List.take_of_length_le, grammarC]) ?_ | refine Gx.cch (cp) rfl rfl rfl rfl rfl (by simp [go_sem, List.take_of_length_le, grammarC] <;> with_reducible rfl) rfl (by simp [go_sem, List.take_of_length_le, grammarC]) ?_
  refine wkdac (@grammarC.eq_1) _ ?_
  first | refine GS.cc (cn) rfl rfl rfl rfl (by simp [go_sem, List.take_of_length_le, grammarC] <;> with_reducible rfl) rfl (by simp [go_sem, List.take_of_length_le, grammarC]) ?_ | refine Gd.cc (cn) rfl rfl rfl rfl (by simp [go_sem, List.take_of_length_le, grammarC] <;> with_reducible rfl) rfl (by simp [go_sem, List.take_of_length_le, grammarC]) ?_ | refine Gx.cc (cn) rfl rfl rfl rfl rfl (by simp [go_sem, List.take_of_length_le, grammarC] <;> with_reducible rfl) rfl (by simp [go_sem, List.take_of_length_le, grammarC]) ?_ | refine Gx.cch (cn) rfl rfl rfl rfl rfl (by simp [go_sem, List.take_of_length_le, grammarC] <;> with_reducible rfl) rfl (by simp [go_sem, List.take_of_length_le, grammarC]) ?_
  refine wkdac (And.intro @grammarC.eq_1 (@cellsN.eq_1)) _ ?_
  refine Holds.loop (ι := (Int × Int → Bool) × Bool) (fun i => ⟨[(1, .pb 0 3 0 0), (3, .pb 1 66 0 0), (4, .v (.bool i.2))], [(1, ⟨141, 66, [boxH (headH (madeS g true) (madeS g false) i.1 (fun _ => false))]⟩), (0, ⟨31, 3, [grammarC g]⟩)], 2⟩)
    (fun i => LowI (impsB g g.2.2) i.1 ∧ (i.2 = false → i.1 = firstS g)) (fun i => 2 * (24 - (univP.filter i.1).length) + if i.2 then 1 else 0) (fun _ => false, true) ⟨fun T hT x hx => absurd hx (by simp), fun e => (by cases e)⟩ ?_ ?_
  · rw [boxH_none]
    exact Cov.ofn (id) rfl (by simp [go_sem, List.take_of_length_le, ren, ren1, ren2, okr, okr1, okr2, ChkT, ChkN, BlkN, nf, grammarC, cellsN]) (by simp [go_sem, List.take_of_length_le, ren, ren1, ren2, okr, okr1, okr2, ChkT, ChkN, BlkN, nf, grammarC, cellsN])
  rintro ⟨F0, more0⟩ ⟨hlow0, hfin⟩
  dsimp only at hlow0 hfin ⊢
  refine wkdac0 _ ?_
  refine Holds.cond rfl (fun h => ?_) (fun h => ?_)
  · subst h
    have hc0 := card_leP F0
    refine wkdac (@grammarC.eq_1) _ ?_
    refine GS.stA (s' := ?_) rfl rfl rfl rfl rfl ti141 rfl rfl rfl (by simp) rfl rfl (by simp) (by simp) ?_ ?_
    rotate_left
    · simp only [st]
      with_reducible rfl
    refine wkdac (@grammarC.eq_1) _ ?_
    refine Holds.loop (ι := Nat × (Int × Int → Bool)) (fun i => ⟨[(1, .pb 0 3 0 0), (3, .pb 1 66 0 0), (4, .v (.bool true)), (5, .pb 2 66 0 0), (33, .im 2 (rules g.2.2)), (34, .v (.int .i64 g.2.2.length)), (35, .v (.int .i64 i.1))], [(2, ⟨141, 66, [boxH (headH (madeS g true) (madeS g false) F0 (fun _ => false))]⟩), (1, ⟨141, 66, [boxH (headH (madeS g true) (madeS g false) i.2 (fun _ => false))]⟩), (0, ⟨31, 3, [grammarC g]⟩)], 3⟩)
      (fun i => i.1 ≤ g.2.2.length ∧ ∃ more, ClI (impsB g g.2.2) univP F0 i.2 more (impsB g (g.2.2.take i.1))) (fun i => g.2.2.length - i.1) (0, F0) ⟨Nat.zero_le _, false, ClI.start _ hlow0⟩ ?_ ?_
    · exact Cov.ofn (id) rfl (by simp [go_sem, List.take_of_length_le, ren, ren1, ren2, okr, okr1, okr2, ChkT, ChkN, BlkN, nf, grammarC]) (by simp [go_sem, List.take_of_length_le, ren, ren1, ren2, okr, okr1, okr2, ChkT, ChkN, BlkN, nf, grammarC])
    rintro ⟨k, F⟩ ⟨hk, more, hC⟩
    dsimp only at hk hC ⊢
    have stepk : wr64 ((k : Int) + 1) = ((k + 1 : Nat) : Int) := wr64_id (by omega) (by omega)
    refine wkdac0 _ ?_
    refine Holds.cond rfl (fun h => ?_) (fun h => ?_)
    · have hlt : k < g.2.2.length := by simp at h; omega
      have hrk : g.2.2[k]? = some g.2.2[k] := List.getElem?_eq_getElem hlt
      have hmem := List.getElem_mem hlt
      generalize g.2.2[k] = r at hrk hmem
      have hr0 := hG.l0 r hmem
      have hr1 := hG.l1 r hmem
      have hr4 := hG.r4 r hmem
      have hs0 := hG.s0 r hmem
      have hs1 := hG.s1 r hmem
      have ht1 := hG.t1
      obtain ⟨n, hn⟩ : ∃ n : Nat, r.1 = (n : Int) := ⟨r.1.toNat, by omega⟩
      have hn6 : n < 6 := by omega
      have cof := ofG g F (fun _ => false) r.2 hr4 (fun x hx => by have := hs1 x hx; omega) (fun x hx => by have := hs0 x hx; omega)
      obtain ⟨S, hS⟩ : ∃ S, S = fun t => okM true (madeS g true) r.2 && begT (madeS g false) F r.2 t := ⟨_, rfl⟩
      rw [← hS] at cof
      refine wkdac (And.intro (@get_E _ _ _ _ hrk) (And.intro @hrk (And.intro @hlt (@ruleC.eq_1)))) _ ?_
      first | refine GS.cd (cof) rfl rfl rfl rfl (by simp [go_sem, List.take_of_length_le] <;> with_reducible rfl) rfl (by exact .cons (Fz.box rfl rfl rfl (boxH_clA _)) (.cons (.im _ _) .nil)) rfl ?_ | refine Gd.cd (cof) rfl rfl rfl rfl (by simp [go_sem, List.take_of_length_le] <;> with_reducible rfl) rfl (by exact .cons (Fz.box rfl rfl rfl (boxH_clA _)) (.cons (.im _ _) .nil)) rfl ?_ | refine Gx.cd (cof) rfl rfl rfl rfl rfl (by simp [go_sem, List.take_of_length_le] <;> with_reducible rfl) rfl (by exact .cons (Fz.box rfl rfl rfl (boxH_clA _)) (.cons (.im _ _) .nil)) rfl ?_
      refine wkdac (@cellsT.eq_1) _ ?_
      refine Holds.loop (ι := Nat × (Int × Int → Bool)) (fun i => ⟨[(1, .pb 0 3 0 0), (3, .pb 1 66 0 0), (4, .v (.bool true)), (5, .pb 2 66 0 0), (7, .pb 3 2 0 0), (33, .im 2 (rules g.2.2)), (34, .v (.int .i64 g.2.2.length)), (35, .v (.int .i64 k)), (46, .ag (cellsT S)), (47, .v (.int .i64 i.1))], [(3, ⟨66, 2, [ruleC r]⟩), (2, ⟨141, 66, [boxH (headH (madeS g true) (madeS g false) F0 (fun _ => false))]⟩), (1, ⟨141, 66, [boxH (headH (madeS g true) (madeS g false) i.2 (fun _ => false))]⟩), (0, ⟨31, 3, [grammarC g]⟩)], 4⟩)
        (fun i => i.1 ≤ 4 ∧ (∃ more, ClI (impsB g g.2.2) univP F0 i.2 more (impsB g (g.2.2.take k))) ∧ (∀ p, F p = true → i.2 p = true) ∧ ∀ t : Nat, t < i.1 → S t = true → i.2 (r.1, t) = true) (fun i => 4 - i.1) (0, F) ⟨Nat.zero_le _, ⟨more, hC⟩, fun _ h => h, fun t ht => absurd ht (Nat.not_lt_zero _)⟩ ?_ ?_
      · exact Cov.ofn (id) rfl (by simp [go_sem, List.take_of_length_le, ren, ren1, ren2, okr, okr1, okr2, ChkT, ChkN, BlkN, nf, grammarC, ruleC, cellsT]) (by simp [go_sem, List.take_of_length_le, ren, ren1, ren2, okr, okr1, okr2, ChkT, ChkN, BlkN, nf, grammarC, ruleC, cellsT])
      have hle0 := hC.le
      clear hC
      rintro ⟨i, F1⟩ ⟨hi, ⟨more, hC⟩, hle, hset⟩
      dsimp only at hi hC hle hset ⊢
      have stepi : wr64 ((i : Int) + 1) = ((i + 1 : Nat) : Int) := wr64_id (by omega) (by omega)
      refine wkdac0 _ ?_
      refine Holds.cond rfl (fun h => ?_) (fun h => ?_)
      · have hi4 : i < 4 := by simp at h; omega
        have hi3 : i ≤ 3 := by omega
        have hbd : 12 + n * 4 + i ≤ 65 := by omega
        have hSi := cellsT_at S hi4
        have hget := boxH_at (headH (madeS g true) (madeS g false) F1 (fun _ => false)) (i := 12 + n * 4 + i) (by omega)
        rw [headH_F _ _ _ _ hn6 hi4] at hget
        have hput := headH_setF (madeS g true) (madeS g false) F1 (fun _ => false) hn6 hi4 (F1 ((n : Int), (i : Int)) || S i)
        have hnew : (∃ more, ClI (impsB g g.2.2) univP F0 (updP F1 ((n : Int), (i : Int)) (F1 ((n : Int), (i : Int)) || S i)) more (impsB g (g.2.2.take k))) ∧ (∀ p, F p = true → updP F1 ((n : Int), (i : Int)) (F1 ((n : Int), (i : Int)) || S i) p = true) ∧ ∀ t : Nat, t < i + 1 → S t = true → updP F1 ((n : Int), (i : Int)) (F1 ((n : Int), (i : Int)) || S i) (r.1, t) = true := by
          have last : ∀ F2 : Int × Int → Bool, (∀ p, F1 p = true → F2 p = true) → (S i = true → F2 ((n : Int), (i : Int)) = true) → ∀ t : Nat, t < i + 1 → S t = true → F2 (r.1, t) = true := fun F2 h2 h3 t ht hs => by
            by_cases e : t = i
            · subst e; rw [hn]; exact h3 hs
            · exact h2 _ (hset t (by omega) hs)
          cases hF : F1 ((n : Int), (i : Int)) with
          | true =>
            rw [Bool.true_or, updP_self F1 hF]
            exact ⟨⟨more, hC⟩, hle, last F1 (fun _ h => h) fun _ => hF⟩
          | false =>
            rw [Bool.false_or]
            cases hs : S (i : Int) with
            | false =>
              rw [updP_self F1 hF]
              exact ⟨⟨more, hC⟩, hle, last F1 (fun _ h => h) fun e => by rw [hs] at e; cases e⟩
            | true =>
              rw [updP_true]
              have hp := impB_mem (g := g) hmem (t := (i : Int)) (by omega)
              have hpr : (impB g r (i : Int)).1 F1 = true := impB_mono g r _ F F1 hle (by have := hs; rw [hS] at this; exact this)
              have hc2 : (impB g r (i : Int)).2 = ((n : Int), (i : Int)) := by rw [← hn]; rfl
              have := hC.add hp (impB_mono g r _) hpr (by rw [hc2]; exact hF) (by rw [hc2]; exact mem_univP.2 ⟨⟨by dsimp only; omega, by dsimp only; omega⟩, ⟨by dsimp only; omega, by dsimp only; omega⟩⟩) (impsB g (g.2.2.take k))
              rw [hc2] at this
              exact ⟨⟨true, this⟩, fun p hp => insI_le _ _ _ (hle p hp), last _ (fun p hp => insI_le _ _ _ hp) fun _ => insI_self _ _⟩
        obtain ⟨F2, hF2⟩ : ∃ F2, F2 = updP F1 ((n : Int), (i : Int)) (F1 ((n : Int), (i : Int)) || S i) := ⟨_, rfl⟩
        rw [← hF2] at hnew hput
        clear hF2
        generalize F1 ((n : Int), (i : Int)) = b1 at hget hput
        cases b1 with
        | true =>
          rw [Bool.true_or] at hput
          refine wkdasc (And.intro @hi4 (And.intro @hi3 (And.intro (@get_E _ _ _ _ hSi) (And.intro @hSi (@ruleC.eq_1))))) _ ?_
          refine Holds.anx [1020] [] (fun n => decide (n = 1)) mixed ?_ ?_ ?_; (· kernel_rfl); (· kernel_rfl)
          refine wkdac (And.intro @hi4 (And.intro @hi3 (And.intro @hn6 (And.intro @hn (And.intro (@get_E _ _ _ _ hget) (And.intro @hget (And.intro @hput (And.intro @hbd (@ruleC.eq_1))))))))) _ ?_
          refine ⟨(i + 1, F2), ⟨by dsimp only; omega, hnew⟩, by dsimp only; omega, ?_⟩
          rw [stepi]
          exact Cov.ofn (id) rfl (by simp [go_sem, List.take_of_length_le, ren, ren1, ren2, okr, okr1, okr2, ChkT, ChkN, BlkN, nf, grammarC, ruleC, cellsT, hn]) (by simp [go_sem, List.take_of_length_le, ren, ren1, ren2, okr, okr1, okr2, ChkT, ChkN, BlkN, nf, grammarC, ruleC, cellsT, hn])
        | false =>
          rw [Bool.false_or] at hput
          refine wkdasc (And.intro @hi4 (And.intro @hi3 (And.intro (@get_E _ _ _ _ hSi) (And.intro @hSi (@ruleC.eq_1))))) _ ?_
          refine Holds.anx [1020] [] (fun n => decide (n = 1)) mixed ?_ ?_ ?_; (· kernel_rfl); (· kernel_rfl)
          refine wkdac (And.intro @hi4 (And.intro @hi3 (And.intro @hn6 (And.intro @hn (And.intro (@get_E _ _ _ _ hget) (And.intro @hget (And.intro @hput (And.intro @hbd (@ruleC.eq_1))))))))) _ ?_
          refine ⟨(i + 1, F2), ⟨by dsimp only; omega, hnew⟩, by dsimp only; omega, ?_⟩
          rw [stepi]
          exact Cov.ofn (id) rfl (by simp [go_sem, List.take_of_length_le, ren, ren1, ren2, okr, okr1, okr2, ChkT, ChkN, BlkN, nf, grammarC, ruleC, cellsT, hn]) (by simp [go_sem, List.take_of_length_le, ren, ren1, ren2, okr, okr1, okr2, ChkT, ChkN, BlkN, nf, grammarC, ruleC, cellsT, hn])
      · have hi4 : i = 4 := by simp at h; omega
        subst hi4
        refine wkdac0 _ ?_
        refine ⟨(k + 1, F1), ⟨by dsimp only; omega, more, ?_⟩, by dsimp only; omega, ?_⟩
        · dsimp only
          rw [impsB_snoc g hrk]
          refine hC.ext _ fun e1 e2 p hp h1 => ?_
          obtain ⟨t, ht, rfl⟩ := List.mem_map.1 hp
          have ht := mem_univT.1 ht
          obtain ⟨m, rfl⟩ : ∃ m : Nat, t = (m : Int) := ⟨t.toNat, by omega⟩
          refine hset m (by omega) ?_
          have hFF : F = F1 := by
            funext q
            rw [Bool.eq_iff_iff]
            exact ⟨hle q, fun h => hle0 q (by rw [← e2]; exact h)⟩
          rw [hS, hFF]
          exact h1
        rw [stepk]
        exact Cov.ofn (id) rfl (by simp [go_sem, List.take_of_length_le, ren, ren1, ren2, okr, okr1, okr2, ChkT, ChkN, BlkN, nf, grammarC]) (by simp [go_sem, List.take_of_length_le, ren, ren1, ren2, okr, okr1, okr2, ChkT, ChkN, BlkN, nf, grammarC])
    · have hke : k = g.2.2.length := by simp at h; omega
      subst hke
      rw [List.take_length] at hC
      refine wkdac0 _ ?_
      refine Gd.calm rfl rfl (.neB (xs := boolsH (headH (madeS g true) (madeS g false) F (fun _ => false))) (ys := boolsH (headH (madeS g true) (madeS g false) F0 (fun _ => false))) rfl eqHeads rfl rfl (boolsH_len _) (boolsH_len _) (congrArg (fun b => AV.v (.bool b)) (heads_neF hC).symm)) ?_
      refine wkdac0 _ ?_
      refine ⟨(F, more), ⟨hC.low, fun e => ?_⟩, ?_, ?_⟩
      · dsimp only at e ⊢
        subst e
        exact hC.done
      · dsimp only
        have hc := card_leP F
        cases more with
        | true => have := hC.yes rfl; simp only [if_true]; omega
        | false => rw [(hC.no rfl).1]; simp
      exact Cov.ofn (id) rfl (by simp [go_sem, List.take_of_length_le, ren, ren1, ren2, okr, okr1, okr2, ChkT, ChkN, BlkN, nf, grammarC]) (by simp [go_sem, List.take_of_length_le, ren, ren1, ren2, okr, okr1, okr2, ChkT, ChkN, BlkN, nf, grammarC])
  · have h : more0 = false := by simpa using h
    have := hfin h
    subst this
    clear hfin hlow0
    have hset0 := headH_setL (madeS g true) (madeS g false) (firstS g) (fun _ => false) (n := 0) (by decide) true
    have hup : updP (fun _ => false) (((0 : Nat) : Int), -1) true = fun p : Int × Int => decide (p = (0, -1)) := by
      funext p
      simp [updP]
    rw [hup] at hset0
    refine wkdac (@hset0) _ ?_
    clear hset0 hup
    have hz : LowI (impsW g) (fun p => decide (p = (0, -1))) := low_W g
    refine Holds.loop (ι := (Int × Int → Bool) × Bool) (fun i => ⟨[(1, .pb 0 3 0 0), (3, .pb 1 66 0 0), (12, .v (.bool i.2))], [(1, ⟨141, 66, [boxH (headH (madeS g true) (madeS g false) (firstS g) i.1)]⟩), (0, ⟨31, 3, [grammarC g]⟩)], 2⟩)
      (fun i => i.1 (0, -1) = true ∧ LowI (impsW g) i.1 ∧ (i.2 = false → i.1 = followS g)) (fun i => 2 * (30 - (univQ.filter i.1).length) + if i.2 then 1 else 0) (fun p => decide (p = (0, -1)), true) ⟨rfl, hz, fun e => (by cases e)⟩ ?_ ?_
    · exact Cov.ofn (id) rfl (by simp [go_sem, List.take_of_length_le, ren, ren1, ren2, okr, okr1, okr2, ChkT, ChkN, BlkN, nf, grammarC]) (by simp [go_sem, List.take_of_length_le, ren, ren1, ren2, okr, okr1, okr2, ChkT, ChkN, BlkN, nf, grammarC])
    clear hz
    rintro ⟨W0, more1⟩ ⟨hz0, hlow0, hfin⟩
    dsimp only at hz0 hlow0 hfin ⊢
    refine wkdac0 _ ?_
    refine Holds.cond rfl (fun h => ?_) (fun h => ?_)
    · subst h
      have hc0 := card_leQ W0
      refine wkdac (@grammarC.eq_1) _ ?_
      refine GS.stA (s' := ?_) rfl rfl rfl rfl rfl ti141 rfl rfl rfl (by simp) rfl rfl (by simp) (by simp) ?_ ?_
      rotate_left
      · simp only [st]
        with_reducible rfl
      refine wkdac (@grammarC.eq_1) _ ?_
      refine Holds.loop (ι := Nat × (Int × Int → Bool)) (fun i => ⟨[(1, .pb 0 3 0 0), (3, .pb 1 66 0 0), (12, .v (.bool true)), (13, .pb 2 66 0 0), (87, .im 2 (rules g.2.2)), (88, .v (.int .i64 g.2.2.length)), (89, .v (.int .i64 i.1))], [(2, ⟨141, 66, [boxH (headH (madeS g true) (madeS g false) (firstS g) W0)]⟩), (1, ⟨141, 66, [boxH (headH (madeS g true) (madeS g false) (firstS g) i.2)]⟩), (0, ⟨31, 3, [grammarC g]⟩)], 3⟩)
        (fun i => i.1 ≤ g.2.2.length ∧ ∃ more, ClI (impsW g) univQ W0 i.2 more (impWz :: (g.2.2.take i.1).flatMap (impsWf g))) (fun i => g.2.2.length - i.1) (0, W0) ⟨Nat.zero_le _, false, (ClI.start _ hlow0).ext [impWz] (fun _ _ p hp _ => by rw [List.mem_singleton] at hp; subst hp; exact hz0)⟩ ?_ ?_
      · exact Cov.ofn (id) rfl (by simp [go_sem, List.take_of_length_le, ren, ren1, ren2, okr, okr1, okr2, ChkT, ChkN, BlkN, nf, grammarC]) (by simp [go_sem, List.take_of_length_le, ren, ren1, ren2, okr, okr1, okr2, ChkT, ChkN, BlkN, nf, grammarC])
      rintro ⟨k, W⟩ ⟨hk, more, hC⟩
      dsimp only at hk hC ⊢
      have stepk : wr64 ((k : Int) + 1) = ((k + 1 : Nat) : Int) := wr64_id (by omega) (by omega)
      refine wkdac0 _ ?_
      refine Holds.cond rfl (fun h => ?_) (fun h => ?_)
      · have hlt : k < g.2.2.length := by simp at h; omega
        have hrk : g.2.2[k]? = some g.2.2[k] := List.getElem?_eq_getElem hlt
        have hmem := List.getElem_mem hlt
        generalize g.2.2[k] = r at hrk hmem
        have hr0 := hG.l0 r hmem
        have hr1 := hG.l1 r hmem
        have hr4 := hG.r4 r hmem
        have hs0 := hG.s0 r hmem
        have hs1 := hG.s1 r hmem
        have ht1 := hG.t1
        obtain ⟨n, hn⟩ : ∃ n : Nat, r.1 = (n : Int) := ⟨r.1.toNat, by omega⟩
        have hn6 : n < 6 := by omega
        refine wkdac (And.intro (@get_E _ _ _ _ hrk) (And.intro @hrk (And.intro @hlt (@ruleC.eq_1)))) _ ?_
        refine Holds.loop (ι := Nat × (Int × Int → Bool)) (fun i => ⟨[(1, .pb 0 3 0 0), (3, .pb 1 66 0 0), (12, .v (.bool true)), (13, .pb 2 66 0 0), (15, .pb 3 2 0 0), (87, .im 2 (rules g.2.2)), (88, .v (.int .i64 g.2.2.length)), (89, .v (.int .i64 k)), (94, .im 1 (ints r.2)), (95, .v (.int .i64 r.2.length)), (96, .v (.int .i64 i.1))], [(3, ⟨66, 2, [ruleC r]⟩), (2, ⟨141, 66, [boxH (headH (madeS g true) (madeS g false) (firstS g) W0)]⟩), (1, ⟨141, 66, [boxH (headH (madeS g true) (madeS g false) (firstS g) i.2)]⟩), (0, ⟨31, 3, [grammarC g]⟩)], 4⟩)
          (fun i => i.1 ≤ r.2.length ∧ ∃ more, ClI (impsW g) univQ W0 i.2 more (seenW g k r i.1)) (fun i => r.2.length - i.1) (0, W) ⟨Nat.zero_le _, more, by rw [seenW_zero]; exact hC⟩ ?_ ?_
        · exact Cov.ofn (id) rfl (by simp [go_sem, List.take_of_length_le, ren, ren1, ren2, okr, okr1, okr2, ChkT, ChkN, BlkN, nf, grammarC, ruleC]) (by simp [go_sem, List.take_of_length_le, ren, ren1, ren2, okr, okr1, okr2, ChkT, ChkN, BlkN, nf, grammarC, ruleC])
        clear hC more
        rintro ⟨a, W⟩ ⟨ha, more, hC⟩
        dsimp only at ha hC ⊢
        have stepa : wr64 ((a : Int) + 1) = ((a + 1 : Nat) : Int) := wr64_id (by omega) (by omega)
        refine wkdac0 _ ?_
        refine Holds.cond rfl (fun h => ?_) (fun h => ?_)
        · have hla : a < r.2.length := by simp at h; omega
          have hxa : r.2[a]? = some r.2[a] := List.getElem?_eq_getElem hla
          have hxm := List.getElem_mem hla
          generalize r.2[a] = x at hxa hxm
          have hx5 := hs1 x hxm
          have hx4 := hs0 x hxm
          by_cases hx0 : x < 0
          · have hsn : seenW g k r (a + 1) = seenW g k r a := by
              rw [seenW_snoc, impsWr, hxa]
              simp only [if_pos hx0, List.append_nil]
            refine wkdac (And.intro (@get_E _ _ _ _ hxa) (And.intro @hxa (And.intro @hla (@hx0)))) _ ?_
            refine ⟨(a + 1, W), ⟨by dsimp only; omega, more, by rw [hsn]; exact hC⟩, by dsimp only; omega, ?_⟩
            rw [stepa]
            exact Cov.ofn (id) rfl (by simp [go_sem, List.take_of_length_le, ren, ren1, ren2, okr, okr1, okr2, ChkT, ChkN, BlkN, nf, grammarC, ruleC]) (by simp [go_sem, List.take_of_length_le, ren, ren1, ren2, okr, okr1, okr2, ChkT, ChkN, BlkN, nf, grammarC, ruleC])
          · have hsn : seenW g k r (a + 1) = seenW g k r a ++ univL.map (impW g r.1 x (r.2.drop (a + 1))) := by
              rw [seenW_snoc, impsWr, hxa]
              simp only [if_neg hx0]
            obtain ⟨m, rfl⟩ : ∃ m : Nat, x = (m : Int) := ⟨x.toNat, by omega⟩
            have hm6 : m < 6 := by omega
            have hdl : (r.2.drop (a + 1)).length ≤ 4 := by rw [List.length_drop]; omega
            have cof := ofG g (firstS g) W (r.2.drop (a + 1)) hdl (fun x hx => by have := hs1 x (List.mem_of_mem_drop hx); omega) (fun x hx => by have := hs0 x (List.mem_of_mem_drop hx); omega)
            change Pure _ _ _ (.tu [.ag (cellsT (begS g (r.2.drop (a + 1)))), _]) at cof
            have himp := fun t ht => impW_mem (g := g) hmem hxa hx0 (t := t) ht
            have hwa : wr64 ((a : Int) + 1) = ((a + 1 : Nat) : Int) := stepa
            have hal : a + 1 ≤ r.2.length := by omega
            have hdr : (ints r.2).drop (a + 1) = ints (r.2.drop (a + 1)) := by simp [ints]
            have hrs : ∀ x ∈ r.2.drop (a + 1), -4 ≤ x := fun x hx => by have := hs0 x (List.mem_of_mem_drop hx); omega
            generalize r.2.drop (a + 1) = rest at cof hsn himp hdr hrs
            obtain ⟨S, hS⟩ : ∃ S, S = begS g rest := ⟨_, rfl⟩
            obtain ⟨e0, hE⟩ : ∃ e0, e0 = nullS g rest := ⟨_, rfl⟩
            rw [← hS, ← hE] at cof
            refine wkdac (And.intro (@get_E _ _ _ _ hxa) (And.intro @hxa (And.intro @hla (And.intro @hx0 (And.intro @ruleC.eq_1 (And.intro @hwa (And.intro @hal (And.intro ((show (0 : Int) ≤ (a : Int) + 1 by omega)) (@hdr))))))))) _ ?_
            first | refine GS.cd (cof) rfl rfl rfl rfl (by simp [go_sem, List.take_of_length_le] <;> with_reducible rfl) rfl (by exact .cons (Fz.box rfl rfl rfl (boxH_clA _)) (.cons (.im _ _) .nil)) rfl ?_ | refine Gd.cd (cof) rfl rfl rfl rfl (by simp [go_sem, List.take_of_length_le] <;> with_reducible rfl) rfl (by exact .cons (Fz.box rfl rfl rfl (boxH_clA _)) (.cons (.im _ _) .nil)) rfl ?_ | refine Gx.cd (cof) rfl rfl rfl rfl rfl (by simp [go_sem, List.take_of_length_le] <;> with_reducible rfl) rfl (by exact .cons (Fz.box rfl rfl rfl (boxH_clA _)) (.cons (.im _ _) .nil)) rfl ?_
            refine wkdac (@cellsT.eq_1) _ ?_
            refine Holds.loop (ι := Nat × (Int × Int → Bool)) (fun i => ⟨[(1, .pb 0 3 0 0), (3, .pb 1 66 0 0), (12, .v (.bool true)), (13, .pb 2 66 0 0), (15, .pb 3 2 0 0), (17, .v (.int .i64 m)), (19, .v (.bool (e0))), (87, .im 2 (rules g.2.2)), (88, .v (.int .i64 g.2.2.length)), (89, .v (.int .i64 k)), (94, .im 1 (ints r.2)), (95, .v (.int .i64 r.2.length)), (96, .v (.int .i64 a)), (113, .ag (cellsT S)), (114, .v (.int .i64 i.1))], [(3, ⟨66, 2, [ruleC r]⟩), (2, ⟨141, 66, [boxH (headH (madeS g true) (madeS g false) (firstS g) W0)]⟩), (1, ⟨141, 66, [boxH (headH (madeS g true) (madeS g false) (firstS g) i.2)]⟩), (0, ⟨31, 3, [grammarC g]⟩)], 4⟩)
              (fun i => i.1 ≤ 4 ∧ (∃ more, ClI (impsW g) univQ W0 i.2 more (seenW g k r a)) ∧ (∀ p, W p = true → i.2 p = true) ∧ ∀ t : Nat, t < i.1 → (S t || (e0 && W (r.1, t))) = true → i.2 (m, t) = true) (fun i => 4 - i.1) (0, W) ⟨Nat.zero_le _, ⟨more, hC⟩, fun _ h => h, fun t ht => absurd ht (Nat.not_lt_zero _)⟩ ?_ ?_
            · exact Cov.ofn (id) rfl (by simp [go_sem, List.take_of_length_le, ren, ren1, ren2, okr, okr1, okr2, ChkT, ChkN, BlkN, nf, grammarC, ruleC, cellsT]) (by simp [go_sem, List.take_of_length_le, ren, ren1, ren2, okr, okr1, okr2, ChkT, ChkN, BlkN, nf, grammarC, ruleC, cellsT])
            have hle0 := hC.le
            clear hC
            rintro ⟨i, W2⟩ ⟨hi, ⟨more, hC⟩, hle, hset⟩
            dsimp only at hi hC hle hset ⊢
            have stepi : wr64 ((i : Int) + 1) = ((i + 1 : Nat) : Int) := wr64_id (by omega) (by omega)
            refine wkdac0 _ ?_
            refine Holds.cond rfl (fun h => ?_) (fun h => ?_)
            · have hi4 : i < 4 := by simp at h; omega
              have hi3 : i ≤ 3 := by omega
              have hbd : 36 + m * 4 + i ≤ 65 := by omega
              have hSi := cellsT_at S hi4
              have hget := boxH_at (headH (madeS g true) (madeS g false) (firstS g) W2) (i := 36 + m * 4 + i) (by omega)
              rw [headH_W _ _ _ _ hm6 hi4] at hget
              have hget2 := boxH_at (headH (madeS g true) (madeS g false) (firstS g) W2) (i := 36 + n * 4 + i) (by omega)
              rw [headH_W _ _ _ _ hn6 hi4] at hget2
              have hput := headH_setW (madeS g true) (madeS g false) (firstS g) W2 hm6 hi4 (W2 ((m : Int), (i : Int)) || (S i || (e0 && W2 ((n : Int), (i : Int)))))
              have hup := hC.upd (himp (i : Int) (by omega)) (impW_mono g r.1 m rest i) (mem_univQ.2 ⟨⟨by show (0 : Int) ≤ m; omega, by show (m : Int) ≤ 5; omega⟩, ⟨by show (-1 : Int) ≤ i; omega, by show (i : Int) ≤ 3; omega⟩⟩)
              have e1 : (impW g r.1 (m : Int) rest (i : Int)).1 W2 = (S i || (e0 && W2 ((n : Int), (i : Int)))) := by rw [← hn, hS, hE]; rfl
              have e2 : (impW g r.1 (m : Int) rest (i : Int)).2 = ((m : Int), (i : Int)) := rfl
              rw [e1, e2] at hup
              have hnew : ∀ t : Nat, t < i + 1 → (S t || (e0 && W (r.1, t))) = true → updP W2 ((m : Int), (i : Int)) (W2 ((m : Int), (i : Int)) || (S i || (e0 && W2 ((n : Int), (i : Int))))) (m, t) = true := fun t ht hs => by
                by_cases e : t = i
                · subst e
                  refine hup.2.2 ?_
                  rw [Bool.or_eq_true, Bool.and_eq_true] at hs ⊢
                  exact hs.imp id fun h => ⟨h.1, by rw [← hn]; exact hle _ h.2⟩
                · exact hup.2.1 _ (hset t (by omega) hs)
              obtain ⟨⟨more', hC'⟩, hle', _⟩ := hup
              obtain ⟨W3, hW3⟩ : ∃ W3, W3 = updP W2 ((m : Int), (i : Int)) (W2 ((m : Int), (i : Int)) || (S i || (e0 && W2 ((n : Int), (i : Int))))) := ⟨_, rfl⟩
              rw [← hW3] at hnew hput hC' hle'
              have hinv : (∃ more, ClI (impsW g) univQ W0 W3 more (seenW g k r a)) ∧ (∀ p, W p = true → W3 p = true) ∧ ∀ t : Nat, t < i + 1 → (S t || (e0 && W (r.1, t))) = true → W3 (m, t) = true := ⟨⟨more', hC'⟩, fun p hp => hle' p (hle p hp), hnew⟩
              clear hW3 e1 hC' hle' hnew
              generalize W2 ((m : Int), (i : Int)) = b1 at hget hput
              generalize hq2 : W2 ((n : Int), (i : Int)) = b2 at hget2 hput
              generalize hqs : S (i : Int) = s1 at hSi hput
              refine wkdasc (And.intro @hi4 (And.intro @hi3 (And.intro (@get_E _ _ _ _ hSi) (And.intro @hSi (@ruleC.eq_1))))) _ ?_
              cases b1 with
              | true =>
                rw [Bool.true_or] at hput
                refine Holds.anx [1032] [] (fun n => decide (n = 1)) mixed ?_ ?_ ?_; (· kernel_rfl); (· kernel_rfl)
                refine wkdac (And.intro @hi4 (And.intro @hi3 (And.intro @hn6 (And.intro @hm6 (And.intro @hn (And.intro (@get_E _ _ _ _ hget) (And.intro @hget (And.intro (@get_E _ _ _ _ hget2) (And.intro @hget2 (And.intro @hput (And.intro @hbd (@ruleC.eq_1)))))))))))) _ ?_
                refine ⟨(i + 1, W3), ⟨by dsimp only; omega, hinv⟩, by dsimp only; omega, ?_⟩
                rw [stepi]
                exact Cov.ofn (id) rfl (by simp [go_sem, List.take_of_length_le, ren, ren1, ren2, okr, okr1, okr2, ChkT, ChkN, BlkN, nf, grammarC, ruleC, cellsT, hn]) (by simp [go_sem, List.take_of_length_le, ren, ren1, ren2, okr, okr1, okr2, ChkT, ChkN, BlkN, nf, grammarC, ruleC, cellsT, hn])
              | false =>
                rw [Bool.false_or] at hput
                cases s1 with
                | true =>
                  rw [Bool.true_or] at hput
                  refine Holds.anx [1032] [] (fun n => decide (n = 1)) mixed ?_ ?_ ?_; (· kernel_rfl); (· kernel_rfl)
                  refine wkdac (And.intro @hi4 (And.intro @hi3 (And.intro @hn6 (And.intro @hm6 (And.intro @hn (And.intro (@get_E _ _ _ _ hget) (And.intro @hget (And.intro (@get_E _ _ _ _ hget2) (And.intro @hget2 (And.intro @hput (And.intro @hbd (@ruleC.eq_1)))))))))))) _ ?_
                  refine ⟨(i + 1, W3), ⟨by dsimp only; omega, hinv⟩, by dsimp only; omega, ?_⟩
                  rw [stepi]
                  exact Cov.ofn (id) rfl (by simp [go_sem, List.take_of_length_le, ren, ren1, ren2, okr, okr1, okr2, ChkT, ChkN, BlkN, nf, grammarC, ruleC, cellsT, hn]) (by simp [go_sem, List.take_of_length_le, ren, ren1, ren2, okr, okr1, okr2, ChkT, ChkN, BlkN, nf, grammarC, ruleC, cellsT, hn])
                | false =>
                  rw [Bool.false_or] at hput
                  cases e0 with
                  | false =>
                    rw [Bool.false_and] at hput
                    refine Holds.anx [1032] [] (fun n => decide (n = 1)) mixed ?_ ?_ ?_; (· kernel_rfl); (· kernel_rfl)
                    refine wkdac (And.intro @hi4 (And.intro @hi3 (And.intro @hn6 (And.intro @hm6 (And.intro @hn (And.intro (@get_E _ _ _ _ hget) (And.intro @hget (And.intro (@get_E _ _ _ _ hget2) (And.intro @hget2 (And.intro @hput (And.intro @hbd (@ruleC.eq_1)))))))))))) _ ?_
                    refine ⟨(i + 1, W3), ⟨by dsimp only; omega, hinv⟩, by dsimp only; omega, ?_⟩
                    rw [stepi]
                    exact Cov.ofn (id) rfl (by simp [go_sem, List.take_of_length_le, ren, ren1, ren2, okr, okr1, okr2, ChkT, ChkN, BlkN, nf, grammarC, ruleC, cellsT, hn]) (by simp [go_sem, List.take_of_length_le, ren, ren1, ren2, okr, okr1, okr2, ChkT, ChkN, BlkN, nf, grammarC, ruleC, cellsT, hn])
                  | true =>
                    rw [Bool.true_and] at hput
                    refine Holds.anx [1032] [] (fun n => decide (n = 1)) mixed ?_ ?_ ?_; (· kernel_rfl); (· kernel_rfl)
                    refine wkdac (And.intro @hi4 (And.intro @hi3 (And.intro @hn6 (And.intro @hm6 (And.intro @hn (And.intro (@get_E _ _ _ _ hget) (And.intro @hget (And.intro (@get_E _ _ _ _ hget2) (And.intro @hget2 (And.intro @hput (And.intro @hbd (@ruleC.eq_1)))))))))))) _ ?_
                    refine ⟨(i + 1, W3), ⟨by dsimp only; omega, hinv⟩, by dsimp only; omega, ?_⟩
                    rw [stepi]
                    exact Cov.ofn (id) rfl (by simp [go_sem, List.take_of_length_le, ren, ren1, ren2, okr, okr1, okr2, ChkT, ChkN, BlkN, nf, grammarC, ruleC, cellsT, hn]) (by simp [go_sem, List.take_of_length_le, ren, ren1, ren2, okr, okr1, okr2, ChkT, ChkN, BlkN, nf, grammarC, ruleC, cellsT, hn])
            · have hi4 : i = 4 := by simp at h; omega
              subst hi4
              have hbd : 60 + m ≤ 65 := by omega
              have hget := boxH_at (headH (madeS g true) (madeS g false) (firstS g) W2) (i := 60 + m) (by omega)
              rw [headH_L _ _ _ _ hm6] at hget
              have hget2 := boxH_at (headH (madeS g true) (madeS g false) (firstS g) W2) (i := 60 + n) (by omega)
              rw [headH_L _ _ _ _ hn6] at hget2
              have hput := headH_setL (madeS g true) (madeS g false) (firstS g) W2 hm6 (W2 ((m : Int), -1) || (e0 && W2 ((n : Int), -1)))
              have hup := hC.upd (himp (-1) (by omega)) (impW_mono g r.1 m rest (-1)) (mem_univQ.2 ⟨⟨by show (0 : Int) ≤ m; omega, by show (m : Int) ≤ 5; omega⟩, ⟨by show (-1 : Int) ≤ -1; omega, by show (-1 : Int) ≤ 3; omega⟩⟩)
              have hb1 : begS g rest (-1) = false := by
                cases hb : begS g rest (-1) with
                | false => rfl
                | true => have := begS_univ hG hrs hb; omega
              have e1 : (impW g r.1 (m : Int) rest (-1)).1 W2 = (e0 && W2 ((n : Int), -1)) := by
                show (begS g rest (-1) || (nullS g rest && W2 (r.1, -1))) = _
                rw [hb1, Bool.false_or, hE, hn]
              have e2 : (impW g r.1 (m : Int) rest (-1)).2 = ((m : Int), -1) := rfl
              rw [e1, e2] at hup
              obtain ⟨⟨more', hC'⟩, hle', hlast⟩ := hup
              obtain ⟨W3, hW3⟩ : ∃ W3, W3 = updP W2 ((m : Int), -1) (W2 ((m : Int), -1) || (e0 && W2 ((n : Int), -1))) := ⟨_, rfl⟩
              rw [← hW3] at hput hC' hle' hlast
              have hinv : ∃ more, ClI (impsW g) univQ W0 W3 more (seenW g k r (a + 1)) := by
                refine ⟨more', ?_⟩
                rw [hsn]
                refine hC'.ext _ fun f1 f2 p hp h1 => ?_
                obtain ⟨t, ht, rfl⟩ := List.mem_map.1 hp
                have ht := mem_univL.1 ht
                have hWW : ∀ q, W3 q = true → W q = true := fun q hq => hle0 q (by rw [← f2]; exact hq)
                have h1 : (begS g rest t || (nullS g rest && W3 (r.1, t))) = true := h1
                by_cases ht1 : t = -1
                · subst ht1
                  rw [hb1, Bool.false_or, Bool.and_eq_true] at h1
                  refine hlast ?_
                  rw [Bool.and_eq_true]
                  exact ⟨by rw [hE]; exact h1.1, by rw [← hn]; exact hle _ (hWW _ h1.2)⟩
                · obtain ⟨u, rfl⟩ : ∃ u : Nat, t = (u : Int) := ⟨t.toNat, by omega⟩
                  refine hle' _ (hset u (by omega) ?_)
                  rw [hS, hE]
                  rw [Bool.or_eq_true, Bool.and_eq_true] at h1 ⊢
                  exact h1.imp id fun h => ⟨h.1, hWW _ h.2⟩
              clear hW3 e1 hC' hle' hlast
              generalize W2 ((m : Int), -1) = b1 at hget hput
              generalize W2 ((n : Int), -1) = b2 at hget2 hput
              refine wkdasc0 _ ?_
              cases b1 with
              | true =>
                rw [Bool.true_or] at hput
                refine Holds.anx [1023] [] (fun n => decide (n = 1)) mixed ?_ ?_ ?_; (· kernel_rfl); (· kernel_rfl)
                refine wkdac (And.intro @hn6 (And.intro @hm6 (And.intro @hn (And.intro (@get_E _ _ _ _ hget) (And.intro @hget (And.intro (@get_E _ _ _ _ hget2) (And.intro @hget2 (And.intro @hput (And.intro @hbd (@ruleC.eq_1)))))))))) _ ?_
                refine ⟨(a + 1, W3), ⟨by dsimp only; omega, hinv⟩, by dsimp only; omega, ?_⟩
                rw [stepa]
                exact Cov.ofn (id) rfl (by simp [go_sem, List.take_of_length_le, ren, ren1, ren2, okr, okr1, okr2, ChkT, ChkN, BlkN, nf, grammarC, ruleC, cellsT, hn]) (by simp [go_sem, List.take_of_length_le, ren, ren1, ren2, okr, okr1, okr2, ChkT, ChkN, BlkN, nf, grammarC, ruleC, cellsT, hn])
              | false =>
                rw [Bool.false_or] at hput
                cases e0 with
                | false =>
                  rw [Bool.false_and] at hput
                  refine Holds.anx [1023] [] (fun n => decide (n = 1)) mixed ?_ ?_ ?_; (· kernel_rfl); (· kernel_rfl)
                  refine wkdac (And.intro @hn6 (And.intro @hm6 (And.intro @hn (And.intro (@get_E _ _ _ _ hget) (And.intro @hget (And.intro (@get_E _ _ _ _ hget2) (And.intro @hget2 (And.intro @hput (And.intro @hbd (@ruleC.eq_1)))))))))) _ ?_
                  refine ⟨(a + 1, W3), ⟨by dsimp only; omega, hinv⟩, by dsimp only; omega, ?_⟩
                  rw [stepa]
                  exact Cov.ofn (id) rfl (by simp [go_sem, List.take_of_length_le, ren, ren1, ren2, okr, okr1, okr2, ChkT, ChkN, BlkN, nf, grammarC, ruleC, cellsT, hn]) (by simp [go_sem, List.take_of_length_le, ren, ren1, ren2, okr, okr1, okr2, ChkT, ChkN, BlkN, nf, grammarC, ruleC, cellsT, hn])
                | true =>
                  rw [Bool.true_and] at hput
                  refine Holds.anx [1023] [] (fun n => decide (n = 1)) mixed ?_ ?_ ?_; (· kernel_rfl); (· kernel_rfl)
                  refine wkdac (And.intro @hn6 (And.intro @hm6 (And.intro @hn (And.intro (@get_E _ _ _ _ hget) (And.intro @hget (And.intro (@get_E _ _ _ _ hget2) (And.intro @hget2 (And.intro @hput (And.intro @hbd (@ruleC.eq_1)))))))))) _ ?_
                  refine ⟨(a + 1, W3), ⟨by dsimp only; omega, hinv⟩, by dsimp only; omega, ?_⟩
                  rw [stepa]
                  exact Cov.ofn (id) rfl (by simp [go_sem, List.take_of_length_le, ren, ren1, ren2, okr, okr1, okr2, ChkT, ChkN, BlkN, nf, grammarC, ruleC, cellsT, hn]) (by simp [go_sem, List.take_of_length_le, ren, ren1, ren2, okr, okr1, okr2, ChkT, ChkN, BlkN, nf, grammarC, ruleC, cellsT, hn])
        · have hae : a = r.2.length := by simp at h; omega
          subst hae
          rw [seenW_all g hrk] at hC
          refine wkdac0 _ ?_
          refine ⟨(k + 1, W), ⟨by dsimp only; omega, more, hC⟩, by dsimp only; omega, ?_⟩
          rw [stepk]
          exact Cov.ofn (id) rfl (by simp [go_sem, List.take_of_length_le, ren, ren1, ren2, okr, okr1, okr2, ChkT, ChkN, BlkN, nf, grammarC]) (by simp [go_sem, List.take_of_length_le, ren, ren1, ren2, okr, okr1, okr2, ChkT, ChkN, BlkN, nf, grammarC])
      · have hke : k = g.2.2.length := by simp at h; omega
        subst hke
        rw [List.take_length] at hC
        change ClI _ _ _ _ _ (impsW g) at hC
        refine wkdac0 _ ?_
        refine Gd.calm rfl rfl (.neB (xs := boolsH (headH (madeS g true) (madeS g false) (firstS g) W)) (ys := boolsH (headH (madeS g true) (madeS g false) (firstS g) W0)) rfl eqHeads rfl rfl (boolsH_len _) (boolsH_len _) (congrArg (fun b => AV.v (.bool b)) (heads_neW hC).symm)) ?_
        refine wkdac0 _ ?_
        refine ⟨(W, more), ⟨hC.le _ hz0, hC.low, fun e => ?_⟩, ?_, ?_⟩
        · dsimp only at e ⊢
          subst e
          exact hC.done
        · dsimp only
          have hc := card_leQ W
          cases more with
          | true => have := hC.yes rfl; simp only [if_true]; omega
          | false => rw [(hC.no rfl).1]; simp
        exact Cov.ofn (id) rfl (by simp [go_sem, List.take_of_length_le, ren, ren1, ren2, okr, okr1, okr2, ChkT, ChkN, BlkN, nf, grammarC]) (by simp [go_sem, List.take_of_length_le, ren, ren1, ren2, okr, okr1, okr2, ChkT, ChkN, BlkN, nf, grammarC])
    · have h : more1 = false := by simpa using h
      have := hfin h
      subst this
      refine wkdac0 _ ?_
      refine OutF.mkn (xs := ?_) (nm [1]) ?_ ?_ ?_ ?_ ?_ (by first | exact .inr rfl | exact .inl rfl)
      rotate_left
      · simp [go_sem, List.take_of_length_le] <;> with_reducible rfl
      · simp [go_sem, List.take_of_length_le, ren, ren1, ren2, okr, okr1, okr2, ChkN, BlkN, List.range_succ, nf]
      · simp [go_sem, List.take_of_length_le, ren, ren1, ren2, okr, okr1, okr2, ChkN, BlkN, List.range_succ, nf]
      · simp [go_sem, List.take_of_length_le, ren, ren1, ren2, okr, okr1, okr2, ChkN, BlkN, List.range_succ, nf]
      · rfl
end Go.Proofs.YtkolhcoeifghpaaGreat.En
end
section
namespace Go.Proofs.YtkolhcoeifghpaaGreat.En
open Go.RowKit
set_option linter.unusedSimpArgs false
set_option linter.unusedVariables false
set_option maxHeartbeats 4000000
end Go.Proofs.YtkolhcoeifghpaaGreat.En
end
section
namespace Go.Proofs.YtkolhcoeifghpaaGreat.En
open Go.RowKit Go.Shelf Go.Sort
set_option linter.unusedSimpArgs false
set_option linter.unusedVariables false
set_option maxHeartbeats 4000000
abbrev ChT := Int × Int × Int
def lessC (a b : ChT) : Bool := if a.1 = b.1 then (if a.2.1 = b.2.1 then decide (a.2.2 < b.2.2) else decide (a.2.1 < b.2.1)) else decide (a.1 < b.1)
def sortCh (xs : List ChT) : List ChT := xs.mergeSort fun x y => !lessC y x
@[simp] theorem sortCh_len (xs : List ChT) : (sortCh xs).length = xs.length := by simp [sortCh]
end Go.Proofs.YtkolhcoeifghpaaGreat.En
end
section
namespace Go.Proofs.YtkolhcoeifghpaaGreat.En
open Go.RowKit
set_option linter.unusedSimpArgs false
set_option linter.unusedVariables false
set_option maxHeartbeats 4000000
@[simp] theorem nfr_nodesA (l : List Node3) : nfr (nodes l) := fun row hr x hx => by
  simp only [nodes, List.mem_map] at hr
  obtain ⟨c, _, rfl⟩ := hr
  simp only [nodeC, List.mem_cons, List.not_mem_nil, or_false] at hx
  rcases hx with rfl | rfl | rfl <;> rfl
end Go.Proofs.YtkolhcoeifghpaaGreat.En
end
section
namespace Go.Proofs.YtkolhcoeifghpaaGreat.En
open Go.RowKit
set_option linter.unusedSimpArgs false
set_option linter.unusedVariables false
set_option maxHeartbeats 4000000
end Go.Proofs.YtkolhcoeifghpaaGreat.En
end
section
namespace Go.Proofs.YtkolhcoeifghpaaGreat.En
open Go.RowKit
set_option linter.unusedSimpArgs false
set_option linter.unusedVariables false
set_option maxHeartbeats 4000000
def stAt (L : LrT) (s : Nat) : List Item3 := L.1.getD s []
def leadsX (g : GrammarT) (L : LrT) (s : Nat) (x : Int) : Int := (L.2.getD s []).getD (x + g.2.1).toNat (-1)
def isEnd (g : GrammarT) (z : Item3) : Bool := decide (z.1 < (g.2.2.length : Int)) && decide (z.2.1 = ((ruleN g z.1.toNat).2.length : Int))
def endsX (g : GrammarT) (L : LrT) (s : Nat) : List Int := ((stAt L s).filter (isEnd g)).map fun z => z.1
def overX (g : GrammarT) (L : LrT) (s : Nat) : Bool := decide (((g.2.2.length : Int), (1 : Int), (0 : Int)) ∈ stAt L s)
noncomputable def endsAtX (g : GrammarT) (L : LrT) (s : Nat) (t : Int) : List Int := (endsX g L s).filter fun r => followS g ((ruleN g r.toNat).1, t)
noncomputable def manyX (g : GrammarT) (L : LrT) (s : Nat) (t : Int) : Nat := (endsAtX g L s t).length + if (decide (t < 0) && overX g L s) || (decide (0 ≤ t) && decide (0 ≤ leadsX g L s (-1 - t))) then 1 else 0
noncomputable def clashAt (g : GrammarT) (L : LrT) (s : Nat) (k : Nat) : Bool := (List.range k).any fun i => decide (1 < manyX g L s ((i : Int) - 1))
noncomputable def lrClash (g : GrammarT) (L : LrT) (k : Nat) : List Int := ((List.range k).filter fun s => clashAt g L s (g.2.1 + 1).toNat).map fun s : Nat => (s : Int)
theorem closX_dot {G : GrammarT} {K : List Item3} {z : Item3} (h : closX G K z = true) : z ∈ K ∨ z.2.1 = 0 := by
  have := lfpI_low (impsX G K) (fun z => decide (z ∈ K ∨ z.2.1 = 0)) (fun q hq _ => by
    rcases List.mem_append.1 hq with h | h
    · obtain ⟨z, hz, rfl⟩ := List.mem_map.1 h
      exact decide_eq_true (.inl hz)
    · obtain ⟨z, _, h⟩ := List.mem_flatMap.1 h
      simp only [impsZ] at h
      split at h
      · split at h
        · obtain ⟨r, _, rfl⟩ := List.mem_map.1 h
          exact decide_eq_true (.inr rfl)
        · cases h
      · cases h) z h
  exact of_decide_eq_true this
theorem closX_from {G : GrammarT} {K : List Item3} {z : Item3} (h : closX G K z = true) : z ∈ K ∨ ∃ y, closX G K y = true ∧ ∃ n : Nat, z = itemN n 0 0 ∧ symAt G y = some (ruleN G n).1 := by
  have := lfpI_low (impsX G K) (fun z => closX G K z && @decide (z ∈ K ∨ ∃ y, closX G K y = true ∧ ∃ n : Nat, z = itemN n 0 0 ∧ symAt G y = some (ruleN G n).1) (Classical.propDecidable _)) (fun q hq h1 => by
    have hm := impsX_mono hq
    have hc : closX G K q.2 = true := lfpI_clo (fun p hp => impsX_mono hp) q hq (hm _ _ (fun x hx => (Bool.and_eq_true _ _ ▸ hx).1) h1)
    rw [Bool.and_eq_true]
    refine ⟨hc, @decide_eq_true _ (Classical.propDecidable _) ?_⟩
    rcases List.mem_append.1 hq with h | h
    · obtain ⟨z, hz, rfl⟩ := List.mem_map.1 h
      exact .inl hz
    · obtain ⟨y, _, h⟩ := List.mem_flatMap.1 h
      simp only [impsZ] at h
      split at h
      · rename_i u hu
        split at h
        · obtain ⟨r, hr, rfl⟩ := List.mem_map.1 h
          obtain ⟨n, rfl, _, hl⟩ := rulesOf_iffX.1 hr
          exact .inr ⟨y, (Bool.and_eq_true _ _ ▸ h1).1, n, rfl, by rw [hu, hl]⟩
        · cases h
      · cases h) z h
  rw [Bool.and_eq_true] at this
  exact @of_decide_eq_true _ (Classical.propDecidable _) this.2
end Go.Proofs.YtkolhcoeifghpaaGreat.En
end
section
namespace Go.Proofs.YtkolhcoeifghpaaGreat.En
open Go.RowKit
set_option linter.unusedSimpArgs false
set_option linter.unusedVariables false
set_option maxHeartbeats 4000000
structure LrG (g : GrammarT) (L : LrT) : Prop where
  p : LrP g L
  ln : L.2.length = L.1.length
  few : L.1.length ≤ 60
theorem LrG.st {g : GrammarT} {L : LrT} (h : LrG g L) {s : Nat} (hs : s < L.1.length) : L.1[s]? = some (stAt L s) := by
  rw [stAt, List.getD_eq_getElem?_getD, List.getElem?_eq_getElem hs]; rfl
theorem LrG.ok {g : GrammarT} {L : LrT} (h : LrG g L) {s : Nat} (hs : s < L.1.length) : SortI (stAt L s) ∧ stAt L s ≠ [] ∧ (∀ z ∈ stAt L s, z ∈ univX (gX g)) ∧ (stAt L s).length ≤ 85 := h.p.ok.st _ (List.mem_of_getElem? (h.st hs))
theorem isEnd_N {g : GrammarT} {r d : Nat} : isEnd g (itemN r d 0) = (decide (r < g.2.2.length) && decide (d = (ruleN g r).2.length)) := by
  simp only [isEnd, itemN, Int.toNat_natCast]
  congr 1
  · exact decide_eq_decide.2 (by omega)
  · exact decide_eq_decide.2 (by omega)
def endsF (g : GrammarT) (S : List Item3) : List Int := (S.filter (isEnd g)).map fun z => z.1
theorem endsF_snoc {g : GrammarT} {S : List Item3} {i : Nat} {z : Item3} (hz : S[i]? = some z) : endsF g (S.take (i + 1)) = endsF g (S.take i) ++ if isEnd g z = true then [z.1] else [] := by
  rw [endsF, List.take_add_one, hz, Option.toList_some, List.filter_append, List.map_append]
  by_cases h : isEnd g z = true <;> simp [h, endsF]
theorem endsF_len (g : GrammarT) (S : List Item3) : (endsF g S).length ≤ S.length := by
  simp only [endsF, List.length_map]
  exact List.length_filter_le _ _
theorem endsF_lt {g : GrammarT} {S : List Item3} (hs : SortI S) (hu : ∀ z ∈ S, z ∈ univX (gX g)) {i : Nat} {z : Item3} (hz : S[i]? = some z) (he : isEnd g z = true) : ∀ x ∈ endsF g (S.take i), x < z.1 := fun x hx => by
  obtain ⟨y, hy, rfl⟩ := List.mem_map.1 hx
  obtain ⟨h1, h2⟩ := List.mem_filter.1 hy
  obtain ⟨j, hj, e⟩ := List.mem_iff_getElem.1 h1
  rw [List.length_take] at hj
  rw [List.getElem_take] at e
  have hlt := (List.getElem?_eq_some_iff.1 hz).1
  have hzi := (List.getElem?_eq_some_iff.1 hz).2
  have hless := List.pairwise_iff_getElem.1 hs j i (by omega) hlt (by omega)
  rw [e, hzi] at hless
  obtain ⟨r, d, hr, hd, e1⟩ := mem_univX.1 (hu _ (List.mem_of_getElem? hz))
  obtain ⟨r2, d2, hr2, hd2, e2⟩ := mem_univX.1 (hu y (e ▸ List.getElem_mem _))
  subst e1 e2
  rw [isEnd_N, Bool.and_eq_true, decide_eq_true_iff, decide_eq_true_iff] at he h2
  rw [lessI_iff] at hless
  simp only [itemN] at hless ⊢
  by_cases e3 : r2 = r
  · subst e3
    omega
  · omega
theorem l15Ends (g : GrammarT) (hG : OkG g) (L : LrT) (hL : LrG g L) (s : Nat) (hs : s < L.1.length) : Pure Tryz.prog 58 [.ag (grammarC g), .ag (lrC L), .v (.int .i64 s)] (.im 1 (ints (endsX g L s))) := by
  have hS := hL.st hs
  obtain ⟨hso, _, hun, hsl⟩ := hL.ok hs
  rw [show endsX g L s = endsF g (stAt L s) from rfl]
  generalize stAt L s = S at hS hso hun hsl ⊢
  refine Pure.mk (rs := [.tmp 6]) (nt := 42) Tryz.func58 (by kernel_rfl) rfl rfl rfl (by simp) ?_
  simp only [sl, grammarC, lrC]
  refine wkc (And.intro @hs (And.intro @hS (And.intro (@get_E _ _ _ _ hS) (@itemssC.eq_1)))) _ ?_
  refine Holds.frz [] [(7, .im 1 (ints []))] (.cons rfl (Fz.nl _) .nil) ?_
  refine Holds.loop (ι := Nat) (fun i => ⟨[(3, .pb 0 3 0 0), (7, .im 1 (ints (endsF g (S.take i)))), (16, .im 3 (nodes S)), (17, .v (.int .i64 S.length)), (18, .v (.int .i64 i))], [(0, ⟨31, 3, [grammarC g]⟩)], 1⟩)
    (fun i => i ≤ S.length) (fun i => S.length - i) 0 (Nat.zero_le _) ?_ ?_
  · exact Cov.ofn (id) rfl (by simp [go_sem, List.take_of_length_le, ren, ren1, ren2, okr, okr1, okr2, ChkT, ChkN, BlkN, nf, grammarC, frz, show endsF g [] = [] from rfl]) (by simp [go_sem, List.take_of_length_le, ren, ren1, ren2, okr, okr1, okr2, ChkT, ChkN, BlkN, nf, grammarC, frz, show endsF g [] = [] from rfl])
  intro i hi
  have stepi : wr64 ((i : Int) + 1) = ((i + 1 : Nat) : Int) := wr64_id (by omega) (by omega)
  refine wkc0 _ ?_
  refine Holds.cond rfl (fun h => ?_) (fun h => ?_)
  · have hlt : i < S.length := by simp at h; omega
    have hzi : S[i]? = some S[i] := List.getElem?_eq_getElem hlt
    have hnx := endsF_snoc (g := g) hzi
    have hlts := endsF_lt (g := g) hso hun hzi
    obtain ⟨r, d, hr, hd, hz⟩ := mem_univX.1 (hun _ (List.getElem_mem hlt))
    have hel := endsF_len g (S.take i)
    rw [List.length_take] at hel
    rw [hz] at hzi hnx hlts
    clear hz
    rw [gX_len] at hr
    rw [isEnd_N] at hnx hlts
    generalize endsF g (S.take i) = E at hnx hlts hel ⊢
    by_cases hrl : r = g.2.2.length
    · have hri : ((r : Int) == (g.2.2.length : Int)) = true := by simp [hrl]
      rw [decide_eq_false (show ¬ r < g.2.2.length by omega), Bool.false_and, if_neg (by simp), List.append_nil] at hnx
      refine wkc (And.intro @hlt (And.intro @hzi (And.intro (@get_E _ _ _ _ hzi) (And.intro @nodeC.eq_1 (And.intro @itemN.eq_1 (And.intro @grammarC.eq_1 (@hri))))))) _ ?_
      refine ⟨i + 1, by omega, by omega, ?_⟩
      rw [stepi, hnx]
      exact Cov.ofn (id) rfl (by simp [go_sem, List.take_of_length_le, ren, ren1, ren2, okr, okr1, okr2, ChkT, ChkN, BlkN, nf, grammarC]) (by simp [go_sem, List.take_of_length_le, ren, ren1, ren2, okr, okr1, okr2, ChkT, ChkN, BlkN, nf, grammarC])
    · have hrlt : r < g.2.2.length := by omega
      have hri : ((r : Int) == (g.2.2.length : Int)) = false := by rw [beq_eq_false_iff_ne]; omega
      rw [ruleX_lt hrlt] at hd
      have ca := l13At g r d 0 hrlt hd
      rw [decide_eq_true hrlt, Bool.true_and] at hnx hlts
      rw [symAt_N] at ca
      simp only [itemN, nodeC] at ca
      generalize (ruleN g r).2 = R at hd ca hnx hlts
      refine wkc (And.intro @hlt (And.intro @hzi (And.intro (@get_E _ _ _ _ hzi) (And.intro @nodeC.eq_1 (And.intro @itemN.eq_1 (And.intro @grammarC.eq_1 (@hri))))))) _ ?_
      by_cases hdl : d = R.length
      · rw [List.getElem?_eq_none (by omega)] at ca
        simp only [symV] at ca
        rw [if_pos (decide_eq_true hdl)] at hnx
        have cp := l1PutD E (r : Int) (by omega)
        have hlt2 : ∀ x ∈ E, x < (r : Int) := hlts (decide_eq_true hdl)
        rw [putD_end _ _ hlt2] at cp
        refine GS.cc (ca) rfl rfl rfl rfl (by simp [go_sem, List.take_of_length_le, grammarC] <;> with_reducible rfl) rfl (by simp [go_sem, List.take_of_length_le, grammarC]) ?_
        refine wkc (And.intro @nodeC.eq_1 (@itemN.eq_1)) _ ?_
        refine GS.cc (cp) rfl rfl rfl rfl (by simp [go_sem, List.take_of_length_le] <;> with_reducible rfl) rfl (by simp [go_sem, List.take_of_length_le]) ?_
        refine wkc0 _ ?_
        refine ⟨i + 1, by omega, by omega, ?_⟩
        rw [stepi, hnx]
        exact Cov.ofn (id) rfl (by simp [go_sem, List.take_of_length_le, ren, ren1, ren2, okr, okr1, okr2, ChkT, ChkN, BlkN, nf, grammarC, itemN]) (by simp [go_sem, List.take_of_length_le, ren, ren1, ren2, okr, okr1, okr2, ChkT, ChkN, BlkN, nf, grammarC, itemN])
      · obtain ⟨y, hy⟩ : ∃ y, R[d]? = some y := ⟨R[d]'(by omega), List.getElem?_eq_getElem _⟩
        rw [hy] at ca
        simp only [symV] at ca
        rw [if_neg (by simp [hdl]), List.append_nil] at hnx
        refine GS.cc (ca) rfl rfl rfl rfl (by simp [go_sem, List.take_of_length_le, grammarC] <;> with_reducible rfl) rfl (by simp [go_sem, List.take_of_length_le, grammarC]) ?_
        refine wkc0 _ ?_
        refine ⟨i + 1, by omega, by omega, ?_⟩
        rw [stepi, hnx]
        exact Cov.ofn (id) rfl (by simp [go_sem, List.take_of_length_le, ren, ren1, ren2, okr, okr1, okr2, ChkT, ChkN, BlkN, nf, grammarC]) (by simp [go_sem, List.take_of_length_le, ren, ren1, ren2, okr, okr1, okr2, ChkT, ChkN, BlkN, nf, grammarC])
  · have hie : i = S.length := by simp at h; omega
    subst hie
    rw [List.take_length]
    refine wkc0 _ ?_
    refine Out.mk (xs := ?_) ?_ ?_ (by first | exact .inr rfl | exact .inl rfl)
    rotate_left
    · simp [go_sem, List.take_of_length_le] <;> with_reducible rfl
    exact .im _ _
theorem l15Over (g : GrammarT) (hG : OkG g) (L : LrT) (hL : LrG g L) (s : Nat) (hs : s < L.1.length) : Pure Tryz.prog 72 [.ag (grammarC g), .ag (lrC L), .v (.int .i64 s)] (.v (.bool (overX g L s))) := by
  have hS := hL.st hs
  obtain ⟨hso, _, hun, hsl⟩ := hL.ok hs
  unfold overX
  generalize stAt L s = S at hS hso hun hsl ⊢
  refine Pure.mk (rs := [.tmp 6]) (nt := 31) Tryz.func72 (by kernel_rfl) rfl rfl rfl (by simp) ?_
  simp only [sl, grammarC, lrC]
  refine wkc (And.intro @hs (And.intro @hS (And.intro (@get_E _ _ _ _ hS) (@itemssC.eq_1)))) _ ?_
  refine Holds.loop (ι := Nat) (fun i => ⟨[(3, .pb 0 3 0 0), (13, .im 3 (nodes S)), (14, .v (.int .i64 S.length)), (15, .v (.int .i64 i))], [(0, ⟨31, 3, [grammarC g]⟩)], 1⟩)
    (fun i => i ≤ S.length ∧ ∀ j z, j < i → S[j]? = some z → z ≠ ((g.2.2.length : Int), 1, 0)) (fun i => S.length - i) 0 ⟨Nat.zero_le _, fun j z hj => absurd hj (Nat.not_lt_zero j)⟩ ?_ ?_
  · exact Cov.ofn (id) rfl (by simp [go_sem, List.take_of_length_le, ren, ren1, ren2, okr, okr1, okr2, ChkT, ChkN, BlkN, nf, grammarC]) (by simp [go_sem, List.take_of_length_le, ren, ren1, ren2, okr, okr1, okr2, ChkT, ChkN, BlkN, nf, grammarC])
  rintro i ⟨hi, hno⟩
  have stepi : wr64 ((i : Int) + 1) = ((i + 1 : Nat) : Int) := wr64_id (by omega) (by omega)
  refine wkc0 _ ?_
  refine Holds.cond rfl (fun h => ?_) (fun h => ?_)
  · have hlt : i < S.length := by simp at h; omega
    have hzi : S[i]? = some S[i] := List.getElem?_eq_getElem hlt
    obtain ⟨r, d, hr, hd, hz⟩ := mem_univX.1 (hun _ (List.getElem_mem hlt))
    rw [hz] at hzi
    clear hz
    have hnext : ¬ (r = g.2.2.length ∧ d = 1) → ∀ j z, j < i + 1 → S[j]? = some z → z ≠ ((g.2.2.length : Int), 1, 0) := fun hn j z hj hz e => by
      by_cases e2 : j = i
      · subst e2
        rw [hzi] at hz
        cases hz
        simp only [itemN, Prod.mk.injEq] at e
        exact hn ⟨by omega, by omega⟩
      · exact hno j z (by omega) hz e
    by_cases hrl : r = g.2.2.length
    · have hri : ((r : Int) == (g.2.2.length : Int)) = true := by simp [hrl]
      by_cases hd1 : d = 1
      · have hdi : ((d : Int) == 1) = true := by simp [hd1]
        rw [decide_eq_true (show ((g.2.2.length : Int), (1 : Int), (0 : Int)) ∈ S by
          have := List.mem_of_getElem? hzi
          rw [hrl, hd1] at this
          exact this)]
        refine wkc (And.intro @hlt (And.intro @hzi (And.intro (@get_E _ _ _ _ hzi) (And.intro @nodeC.eq_1 (And.intro @itemN.eq_1 (And.intro @grammarC.eq_1 (And.intro @hri (@hdi)))))))) _ ?_
        refine Out.mk (xs := ?_) ?_ ?_ (by first | exact .inr rfl | exact .inl rfl)
        rotate_left
        · simp [go_sem, List.take_of_length_le] <;> with_reducible rfl
        exact .v _
      · have hdi : ((d : Int) == 1) = false := by rw [beq_eq_false_iff_ne]; omega
        refine wkc (And.intro @hlt (And.intro @hzi (And.intro (@get_E _ _ _ _ hzi) (And.intro @nodeC.eq_1 (And.intro @itemN.eq_1 (And.intro @grammarC.eq_1 (And.intro @hri (@hdi)))))))) _ ?_
        refine ⟨i + 1, ⟨by omega, hnext fun h => hd1 h.2⟩, by omega, ?_⟩
        rw [stepi]
        exact Cov.ofn (id) rfl (by simp [go_sem, List.take_of_length_le, ren, ren1, ren2, okr, okr1, okr2, ChkT, ChkN, BlkN, nf, grammarC]) (by simp [go_sem, List.take_of_length_le, ren, ren1, ren2, okr, okr1, okr2, ChkT, ChkN, BlkN, nf, grammarC])
    · have hri : ((r : Int) == (g.2.2.length : Int)) = false := by rw [beq_eq_false_iff_ne]; omega
      refine wkc (And.intro @hlt (And.intro @hzi (And.intro (@get_E _ _ _ _ hzi) (And.intro @nodeC.eq_1 (And.intro @itemN.eq_1 (And.intro @grammarC.eq_1 (@hri))))))) _ ?_
      refine ⟨i + 1, ⟨by omega, hnext fun h => hrl h.1⟩, by omega, ?_⟩
      rw [stepi]
      exact Cov.ofn (id) rfl (by simp [go_sem, List.take_of_length_le, ren, ren1, ren2, okr, okr1, okr2, ChkT, ChkN, BlkN, nf, grammarC]) (by simp [go_sem, List.take_of_length_le, ren, ren1, ren2, okr, okr1, okr2, ChkT, ChkN, BlkN, nf, grammarC])
  · have hie : i = S.length := by simp at h; omega
    subst hie
    rw [decide_eq_false (show ((g.2.2.length : Int), (1 : Int), (0 : Int)) ∉ S from fun hm => by
      obtain ⟨j, hj⟩ := List.mem_iff_getElem?.1 hm
      exact hno j _ (List.getElem?_eq_some_iff.1 hj).1 hj rfl)]
    refine wkc0 _ ?_
    refine Out.mk (xs := ?_) ?_ ?_ (by first | exact .inr rfl | exact .inl rfl)
    rotate_left
    · simp [go_sem, List.take_of_length_le] <;> with_reducible rfl
    exact .v _
end Go.Proofs.YtkolhcoeifghpaaGreat.En
end
