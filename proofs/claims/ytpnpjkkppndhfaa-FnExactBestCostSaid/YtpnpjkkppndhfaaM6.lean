/- Own words and walks of this claim, part 6: what the program's functions compute, for all the arguments that are named; no further conditions. -/
import Derived.Test.YtpnpjkkppndhfaaM5
section
namespace Go.Proofs.Ytpnpjkkppndhfaa.En
open Go.RowKit
set_option linter.unusedSimpArgs false
set_option linter.unusedVariables false
set_option maxHeartbeats 8000000
theorem map_intssO (l : List (List Int)) (k : Nat) (r : List Int) : (intssO l).set k [.ow 3 1 (ints r)] = intssO (l.set k r) := by simp [intssO, intsO1]
theorem set_selfE {α : Type} {l : List α} {i : Nat} {a : α} (h : l[i]? = some a) : l.set i a = l := by
  obtain ⟨h1, h2⟩ := List.getElem?_eq_some_iff.1 h
  rw [← h2]; exact List.set_getElem_self h1
theorem l12Table {N n : Nat} (g : GrammarT) (hg : OkG g) (cs w : List Int) (hN : (N : Int) = g.1) (hw : w.length = n) (hn : n ≤ 10) (hwk : ∀ x ∈ w, 0 ≤ x ∧ x ≤ 100) (hcl : cs.length = g.2.2.length) (hck : ∀ c ∈ cs, 1 ≤ c ∧ c ≤ 100) :
    Pure Try.prog 43 [.ag (grammarC g), .im 1 (ints cs), .im 1 (ints w)] (.im 1 (intss (tabF (n + 1) N (endO N n w (rulesQ g cs) noO)))) := by
  have hN6 : N ≤ 6 := by have := hg.n1; omega
  have hQ := rulesQ_ok hg hcl hck hN
  refine Pure.mk (rs := [.tmp 6]) (nt := 119) Try.func43 (by kernel_rfl) rfl rfl rfl (by simp) ?_
  simp only [sl, grammarC]
  obtain ⟨g1, gt, gr⟩ := g
  dsimp only at hN hg hcl hck hQ ⊢
  subst hN
  have hN0 := hg.n0
  dsimp only at hN0
  obtain ⟨n1, hn1⟩ : ∃ n1, n1 = n + 1 := ⟨_, rfl⟩
  have hm1 : wr64 ((w.length : Int) + 1) = (n1 : Int) := by rw [hw, hn1]; exact wr64_id (by omega) (by omega)
  have hm0 : wr64 ((n : Int) + 1) = (n1 : Int) := by rw [hn1]; exact wr64_id (by omega) (by omega)
  obtain ⟨p, hp⟩ : ∃ p, p = n1 * n1 := ⟨_, rfl⟩
  have hp100 : p ≤ 121 := by rw [hp]; have : n1 * n1 ≤ 11 * 11 := Nat.mul_le_mul (by omega) (by omega); omega
  have hm2 : wr64 ((n1 : Int) * (n1 : Int)) = (p : Int) := by rw [show (n1 : Int) * (n1 : Int) = (p : Int) by rw [hp]; simp]; exact wr64_id (by omega) (by omega)
  have hF : (intssO (tabF n1 N noO)).length = N := by rw [intssO_len, tabF_len]
  rw [← hn1]
  repeat' first
    | (refine Holds.condT ?_ ?_; (· (simp [go_sem, List.take_of_length_le, grammarC, hw, hm0, hm1, (show (0:Int) ≤ (N : Int) by omega), (show (24:Int) * N ≤ 281474976710656 by omega), (show (N : Int) ≤ 281474976710656 by omega)] <;> with_reducible rfl)))
    | (refine Holds.condF ?_ ?_; (· (simp [go_sem, List.take_of_length_le, grammarC, hw, hm0, hm1, (show (0:Int) ≤ (N : Int) by omega), (show (24:Int) * N ≤ 281474976710656 by omega), (show (N : Int) ≤ 281474976710656 by omega)] <;> with_reducible rfl)))
    | refine Holds.seq ?_
    | refine Holds.skip ?_
    | refine Holds.exit ?_
    | refine Holds.ret ?_
    | refine thenA_normal ?_
    | refine thenA_exit ?_
    | refine thenA_ret ?_
    | refine inB_normal ?_
    | refine inB_ret ?_
    | refine inB_here ?_
    | (refine inB_past ?_ ?_; (· exact rfl))
    | refine Holds.reg ?_
    | refine Holds.block ?_
    | refine GS.nil ?_
    | refine Gd.nil ?_
    | (refine Holds.any mixed ?_ ?_; (· kernel_rfl))
    | (refine GS.step (s' := ?_) ?_ ?_ ?_; rotate_left; (· exact rfl); (· (simp [go_sem, List.take_of_length_le, grammarC, hw, hm0, hm1, (show (0:Int) ≤ (N : Int) by omega), (show (24:Int) * N ≤ 281474976710656 by omega), (show (N : Int) ≤ 281474976710656 by omega)] <;> with_reducible rfl)))
    | (refine GS.skip ?_ ?_ ?_; (· exact rfl); (· exact rfl))
    | (refine Gd.go (s' := ?_) ?_ ?_ ?_; rotate_left; (· exact rfl); (· (simp [go_sem, List.take_of_length_le, grammarC, hw, hm0, hm1, (show (0:Int) ≤ (N : Int) by omega), (show (24:Int) * N ≤ 281474976710656 by omega), (show (N : Int) ≤ 281474976710656 by omega)] <;> with_reducible rfl)))
    | (refine Gd.skip ?_ ?_ ?_; (· exact rfl); (· exact rfl))
    | fail
  refine Holds.loop (ι := Nat) (fun k => ⟨[(1, .im 1 (ints cs)), (2, .im 1 (ints w)), (3, .pb 0 3 0 0), (7, .v (.int .i64 n1)), (8, .own 1 1 0 N), (24, .v (.int .i64 k)), (23, .v (.int .i64 N))], [(1, ⟨25, 1, half (intssO (tabF n1 N noO)) [.v (.slice none 0 0)] k⟩), (0, ⟨31, 3, [grammarC ((N : Int), gt, gr)]⟩)], 2⟩) (fun k => k ≤ N) (fun k => N - k) 0 (Nat.zero_le _) ?_ ?_
  · have hnf0 : nfr (List.replicate N ([.v (.slice none 0 0)] : List AV)) := .rep (by simp [nf])
    have hh : half (intssO (tabF n1 N noO)) [.v (.slice none 0 0)] 0 = List.replicate N [.v (.slice none 0 0)] := by rw [← half_zero, hF]
    exact Cov.ofn (id) rfl (by simp [go_sem, List.take_of_length_le, ren, ren1, okr, okr1, ChkT, ChkN, BlkN, nf, grammarC, hnf0, hh, hw]) (by simp [go_sem, List.take_of_length_le, ren, ren1, okr, okr1, ChkT, ChkN, BlkN, nf, grammarC, hnf0, hh, hw])
  intro k hk
  have stepk : wr64 ((k : Int) + 1) = ((k + 1 : Nat) : Int) := wr64_id (by omega) (by omega)
  repeat' first
    | (refine Holds.condT ?_ ?_; (· (simp [go_sem, List.take_of_length_le] <;> with_reducible rfl)))
    | (refine Holds.condF ?_ ?_; (· (simp [go_sem, List.take_of_length_le] <;> with_reducible rfl)))
    | refine Holds.seq ?_
    | refine Holds.skip ?_
    | refine Holds.exit ?_
    | refine Holds.ret ?_
    | refine thenA_normal ?_
    | refine thenA_exit ?_
    | refine thenA_ret ?_
    | refine inB_normal ?_
    | refine inB_ret ?_
    | refine inB_here ?_
    | (refine inB_past ?_ ?_; (· exact rfl))
    | refine Holds.reg ?_
    | refine Holds.block ?_
    | refine GS.nil ?_
    | refine Gd.nil ?_
    | (refine Holds.any mixed ?_ ?_; (· kernel_rfl))
    | (refine GS.step (s' := ?_) ?_ ?_ ?_; rotate_left; (· exact rfl); (· (simp [go_sem, List.take_of_length_le] <;> with_reducible rfl)))
    | (refine GS.skip ?_ ?_ ?_; (· exact rfl); (· exact rfl))
    | (refine Gd.go (s' := ?_) ?_ ?_ ?_; rotate_left; (· exact rfl); (· (simp [go_sem, List.take_of_length_le] <;> with_reducible rfl)))
    | (refine Gd.skip ?_ ?_ ?_; (· exact rfl); (· exact rfl))
    | fail
  refine Holds.cond rfl (fun h => ?_) (fun h => ?_)
  · have hlt : k < N := by simp at h; omega
    have hhi := half_get (intssO (tabF n1 N noO)) [.v (.slice none 0 0)] k (by rw [hF]; exact hlt)
    have hrow : (tabF n1 N noO)[k]? = some (List.replicate p 0) := by rw [tabF_none, List.getElem?_replicate, if_pos hlt, hp]
    have hhs := half_set (intssO (tabF n1 N noO)) [.v (.slice none 0 0)] k (by rw [hF]; exact hlt) (intsO1 (List.replicate p 0)) (by rw [intssO_get, hrow]; rfl)
    have hnf : nfr (half (intssO (tabF n1 N noO)) [.v (.slice none 0 0)] k) := nfr_half (by simp) (by simp [nf])
    have hnf1 : nfr (half (intssO (tabF n1 N noO)) [.v (.slice none 0 0)] (k + 1)) := nfr_half (by simp) (by simp [nf])
    simp only [intsO1] at hhs
    repeat' first
      | (refine Holds.condT ?_ ?_; (· (simp [go_sem, List.take_of_length_le, hm2, hlt, hhi, get_E hhi, (show (0:Int) ≤ (p : Int) by omega), (show (8:Int) * p ≤ 281474976710656 by omega), (show (p : Int) ≤ 281474976710656 by omega)] <;> with_reducible rfl)))
      | (refine Holds.condF ?_ ?_; (· (simp [go_sem, List.take_of_length_le, hm2, hlt, hhi, get_E hhi, (show (0:Int) ≤ (p : Int) by omega), (show (8:Int) * p ≤ 281474976710656 by omega), (show (p : Int) ≤ 281474976710656 by omega)] <;> with_reducible rfl)))
      | refine Holds.seq ?_
      | refine Holds.skip ?_
      | refine Holds.exit ?_
      | refine Holds.ret ?_
      | refine thenA_normal ?_
      | refine thenA_exit ?_
      | refine thenA_ret ?_
      | refine inB_normal ?_
      | refine inB_ret ?_
      | refine inB_here ?_
      | (refine inB_past ?_ ?_; (· exact rfl))
      | refine Holds.reg ?_
      | refine Holds.block ?_
      | refine GS.nil ?_
      | refine Gd.nil ?_
      | (refine Holds.any mixed ?_ ?_; (· kernel_rfl))
      | (refine GS.step (s' := ?_) ?_ ?_ ?_; rotate_left; (· exact rfl); (· (simp [go_sem, List.take_of_length_le, hm2, hlt, hhi, get_E hhi, (show (0:Int) ≤ (p : Int) by omega), (show (8:Int) * p ≤ 281474976710656 by omega), (show (p : Int) ≤ 281474976710656 by omega)] <;> with_reducible rfl)))
      | (refine GS.skip ?_ ?_ ?_; (· exact rfl); (· exact rfl))
      | (refine Gd.go (s' := ?_) ?_ ?_ ?_; rotate_left; (· exact rfl); (· (simp [go_sem, List.take_of_length_le, hm2, hlt, hhi, get_E hhi, (show (0:Int) ≤ (p : Int) by omega), (show (8:Int) * p ≤ 281474976710656 by omega), (show (p : Int) ≤ 281474976710656 by omega)] <;> with_reducible rfl)))
      | (refine Gd.skip ?_ ?_ ?_; (· exact rfl); (· exact rfl))
      | fail
    refine ⟨k + 1, by omega, by omega, ?_⟩
    rw [stepk]
    refine Cov.trans ?_ (Cov.close 1 k 0 rfl (set_get hhi) rfl rfl rfl rfl (by first | rfl | simp) (by simp))
    simp only [rm, st, List.set_set, List.set_cons_zero, List.set_cons_succ]
    exact Cov.ofn (id) rfl (by simp [go_sem, List.take_of_length_le, ren, ren1, okr, okr1, ChkT, ChkN, BlkN, nf, hhs, hnf, hnf1, grammarC]) (by simp [go_sem, List.take_of_length_le, ren, ren1, okr, okr1, ChkT, ChkN, BlkN, nf, hhs, hnf, hnf1, grammarC])
  · have hlt : N = k := by simp at h; omega
    subst hlt
    rw [show half (intssO (tabF n1 N noO)) [.v (.slice none 0 0)] N = intssO (tabF n1 N noO) by have := half_all (intssO (tabF n1 N noO)) ([.v (.slice none 0 0)] : List AV); rwa [hF] at this]
    repeat' first
      | (refine Holds.condT ?_ ?_; (· (simp [go_sem, List.take_of_length_le] <;> with_reducible rfl)))
      | (refine Holds.condF ?_ ?_; (· (simp [go_sem, List.take_of_length_le] <;> with_reducible rfl)))
      | refine Holds.seq ?_
      | refine Holds.skip ?_
      | refine Holds.exit ?_
      | refine Holds.ret ?_
      | refine thenA_normal ?_
      | refine thenA_exit ?_
      | refine thenA_ret ?_
      | refine inB_normal ?_
      | refine inB_ret ?_
      | refine inB_here ?_
      | (refine inB_past ?_ ?_; (· exact rfl))
      | refine Holds.reg ?_
      | refine Holds.block ?_
      | refine GS.nil ?_
      | refine Gd.nil ?_
      | (refine Holds.any mixed ?_ ?_; (· kernel_rfl))
      | (refine GS.step (s' := ?_) ?_ ?_ ?_; rotate_left; (· exact rfl); (· (simp [go_sem, List.take_of_length_le] <;> with_reducible rfl)))
      | (refine GS.skip ?_ ?_ ?_; (· exact rfl); (· exact rfl))
      | (refine Gd.go (s' := ?_) ?_ ?_ ?_; rotate_left; (· exact rfl); (· (simp [go_sem, List.take_of_length_le] <;> with_reducible rfl)))
      | (refine Gd.skip ?_ ?_ ?_; (· exact rfl); (· exact rfl))
      | fail
    generalize hE : endO N n w (rulesQ ((N : Int), gt, gr) cs) noO = E
    refine Holds.loop (ι := Tab × Bool) (fun s => ⟨[(1, .im 1 (ints cs)), (2, .im 1 (ints w)), (3, .pb 0 3 0 0), (7, .v (.int .i64 n1)), (8, .own 1 1 0 N), (10, .v (.bool s.2))], [(1, ⟨25, 1, intssO (tabF n1 N s.1)⟩), (0, ⟨31, 3, [grammarC ((N : Int), gt, gr)]⟩)], 2⟩)
      (fun s => GoodT N s.1 ∧ (if s.2 = true then endO N n w (rulesQ ((N : Int), gt, gr) cs) s.1 else s.1) = E) (fun s => 2 * muO 70000000 N n s.1 + (if s.2 = true then 1 else 0)) (noO, true) ⟨noO_good N, by dsimp only; rw [if_pos rfl]; exact hE⟩ ?_ ?_
    · exact Cov.ofn (id) rfl (by simp [go_sem, List.take_of_length_le, ren, ren1, okr, okr1, ChkT, ChkN, BlkN, nf, grammarC]) (by simp [go_sem, List.take_of_length_le, ren, ren1, okr, okr1, ChkT, ChkN, BlkN, nf, grammarC])
    rintro ⟨T, b⟩ ⟨hT, hend⟩
    dsimp only at hT hend ⊢
    cases b with
    | false =>
      rw [if_neg (by decide)] at hend
      subst hend
      repeat' first
        | (refine Holds.condT ?_ ?_; (· (simp [go_sem, List.take_of_length_le] <;> with_reducible rfl)))
        | (refine Holds.condF ?_ ?_; (· (simp [go_sem, List.take_of_length_le] <;> with_reducible rfl)))
        | refine Holds.seq ?_
        | refine Holds.skip ?_
        | refine Holds.exit ?_
        | refine Holds.ret ?_
        | refine thenA_normal ?_
        | refine thenA_exit ?_
        | refine thenA_ret ?_
        | refine inB_normal ?_
        | refine inB_ret ?_
        | refine inB_here ?_
        | (refine inB_past ?_ ?_; (· exact rfl))
        | refine Holds.reg ?_
        | refine Holds.block ?_
        | refine GS.nil ?_
        | refine Gd.nil ?_
        | (refine Holds.any mixed ?_ ?_; (· kernel_rfl))
        | (refine GS.step (s' := ?_) ?_ ?_ ?_; rotate_left; (· exact rfl); (· (simp [go_sem, List.take_of_length_le] <;> with_reducible rfl)))
        | (refine GS.skip ?_ ?_ ?_; (· exact rfl); (· exact rfl))
        | (refine Gd.go (s' := ?_) ?_ ?_ ?_; rotate_left; (· exact rfl); (· (simp [go_sem, List.take_of_length_le] <;> with_reducible rfl)))
        | (refine Gd.skip ?_ ?_ ?_; (· exact rfl); (· exact rfl))
        | fail
      refine Out.mk (xs := ?_) ?_ ?_ (by first | exact .inr rfl | exact .inl rfl)
      rotate_left
      · simp [go_sem, List.take_of_length_le] <;> with_reducible rfl
      exact fz_intssO _ rfl (by rw [tabF_len])
    | true =>
      rw [if_pos rfl, endO_step hN6 hn hQ hT] at hend
      rw [← hn1] at hend
      repeat' first
        | (refine Holds.condT ?_ ?_; (· (simp [go_sem, List.take_of_length_le, grammarC] <;> with_reducible rfl)))
        | (refine Holds.condF ?_ ?_; (· (simp [go_sem, List.take_of_length_le, grammarC] <;> with_reducible rfl)))
        | refine Holds.seq ?_
        | refine Holds.skip ?_
        | refine Holds.exit ?_
        | refine Holds.ret ?_
        | refine thenA_normal ?_
        | refine thenA_exit ?_
        | refine thenA_ret ?_
        | refine inB_normal ?_
        | refine inB_ret ?_
        | refine inB_here ?_
        | (refine inB_past ?_ ?_; (· exact rfl))
        | refine Holds.reg ?_
        | refine Holds.block ?_
        | refine GS.nil ?_
        | refine Gd.nil ?_
        | (refine Holds.any mixed ?_ ?_; (· kernel_rfl))
        | (refine GS.step (s' := ?_) ?_ ?_ ?_; rotate_left; (· exact rfl); (· (simp [go_sem, List.take_of_length_le, grammarC] <;> with_reducible rfl)))
        | (refine GS.skip ?_ ?_ ?_; (· exact rfl); (· exact rfl))
        | (refine Gd.go (s' := ?_) ?_ ?_ ?_; rotate_left; (· exact rfl); (· (simp [go_sem, List.take_of_length_le, grammarC] <;> with_reducible rfl)))
        | (refine Gd.skip ?_ ?_ ?_; (· exact rfl); (· exact rfl))
        | fail
      refine Holds.loop (ι := Nat × (Tab × Bool)) (fun s => ⟨[(1, .im 1 (ints cs)), (2, .im 1 (ints w)), (3, .pb 0 3 0 0), (7, .v (.int .i64 n1)), (8, .own 1 1 0 N), (10, .v (.bool s.2.2)), (37, .im 2 (rules gr)), (38, .v (.int .i64 gr.length)), (39, .v (.int .i64 s.1))], [(1, ⟨25, 1, intssO (tabF n1 N s.2.1)⟩), (0, ⟨31, 3, [grammarC ((N : Int), gt, gr)]⟩)], 2⟩)
        (fun s => s.1 ≤ gr.length ∧ Swp N n (muO 70000000 N n T) s.2 ∧ ((rulesQ ((N : Int), gt, gr) cs).drop s.1).foldl (fun s q => swI w n1 q s) s.2 = swQ w n1 (rulesQ ((N : Int), gt, gr) cs) (T, false)) (fun s => gr.length - s.1) (0, (T, false)) ⟨Nat.zero_le _, hT.swp, rfl⟩ ?_ ?_
      · exact Cov.ofn (id) rfl (by simp [go_sem, List.take_of_length_le, ren, ren1, okr, okr1, ChkT, ChkN, BlkN, nf, grammarC]) (by simp [go_sem, List.take_of_length_le, ren, ren1, okr, okr1, ChkT, ChkN, BlkN, nf, grammarC])
      rintro ⟨k, s⟩ ⟨hk, hsw, hfold⟩
      dsimp only at hk hsw hfold ⊢
      have hgl := hg.len
      dsimp only at hgl
      have stepk : wr64 ((k : Int) + 1) = ((k + 1 : Nat) : Int) := wr64_id (by omega) (by omega)
      repeat' first
        | (refine Holds.condT ?_ ?_; (· (simp [go_sem, List.take_of_length_le, grammarC] <;> with_reducible rfl)))
        | (refine Holds.condF ?_ ?_; (· (simp [go_sem, List.take_of_length_le, grammarC] <;> with_reducible rfl)))
        | refine Holds.seq ?_
        | refine Holds.skip ?_
        | refine Holds.exit ?_
        | refine Holds.ret ?_
        | refine thenA_normal ?_
        | refine thenA_exit ?_
        | refine thenA_ret ?_
        | refine inB_normal ?_
        | refine inB_ret ?_
        | refine inB_here ?_
        | (refine inB_past ?_ ?_; (· exact rfl))
        | refine Holds.reg ?_
        | refine Holds.block ?_
        | refine GS.nil ?_
        | refine Gd.nil ?_
        | (refine Holds.any mixed ?_ ?_; (· kernel_rfl))
        | (refine GS.step (s' := ?_) ?_ ?_ ?_; rotate_left; (· exact rfl); (· (simp [go_sem, List.take_of_length_le, grammarC] <;> with_reducible rfl)))
        | (refine GS.skip ?_ ?_ ?_; (· exact rfl); (· exact rfl))
        | (refine Gd.go (s' := ?_) ?_ ?_ ?_; rotate_left; (· exact rfl); (· (simp [go_sem, List.take_of_length_le, grammarC] <;> with_reducible rfl)))
        | (refine Gd.skip ?_ ?_ ?_; (· exact rfl); (· exact rfl))
        | fail
      refine Holds.cond rfl (fun h => ?_) (fun h => ?_)
      · have hkl : k < gr.length := by simp at h; omega
        obtain ⟨ln, right, cn, hr, hc, hq, hqk, hsym⟩ := rulesQ_at hg hcl hck rfl hkl
        dsimp only at hr
        have hql : k < (rulesQ ((N : Int), gt, gr) cs).length := by rw [rulesQ_len _ _ hcl]; exact hkl
        rw [List.drop_eq_getElem_cons hql, List.foldl_cons, (Option.some.inj ((List.getElem?_eq_getElem hql).symm.trans hq))] at hfold
        repeat' first
          | (refine Holds.condT ?_ ?_; (· (simp [go_sem, List.take_of_length_le, hr, ruleC] <;> with_reducible rfl)))
          | (refine Holds.condF ?_ ?_; (· (simp [go_sem, List.take_of_length_le, hr, ruleC] <;> with_reducible rfl)))
          | refine Holds.seq ?_
          | refine Holds.skip ?_
          | refine Holds.exit ?_
          | refine Holds.ret ?_
          | refine thenA_normal ?_
          | refine thenA_exit ?_
          | refine thenA_ret ?_
          | refine inB_normal ?_
          | refine inB_ret ?_
          | refine inB_here ?_
          | (refine inB_past ?_ ?_; (· exact rfl))
          | refine Holds.reg ?_
          | refine Holds.block ?_
          | refine GS.nil ?_
          | refine Gd.nil ?_
          | (refine Holds.any mixed ?_ ?_; (· kernel_rfl))
          | (refine GS.step (s' := ?_) ?_ ?_ ?_; rotate_left; (· exact rfl); (· (simp [go_sem, List.take_of_length_le, hr, ruleC] <;> with_reducible rfl)))
          | (refine GS.skip ?_ ?_ ?_; (· exact rfl); (· exact rfl))
          | (refine Gd.go (s' := ?_) ?_ ?_ ?_; rotate_left; (· exact rfl); (· (simp [go_sem, List.take_of_length_le, hr, ruleC] <;> with_reducible rfl)))
          | (refine Gd.skip ?_ ?_ ?_; (· exact rfl); (· exact rfl))
          | fail
        refine Holds.loop (ι := Nat × (Tab × Bool)) (fun s => ⟨[(1, .im 1 (ints cs)), (2, .im 1 (ints w)), (3, .pb 0 3 0 0), (7, .v (.int .i64 n1)), (8, .own 1 1 0 N), (10, .v (.bool s.2.2)), (11, .v (.int .i64 k)), (12, .pb 2 2 0 0), (13, .v (.int .i64 s.1)), (37, .im 2 (rules gr)), (38, .v (.int .i64 gr.length)), (39, .v (.int .i64 k))], (2, ⟨68, 2, [[.v (.int .i64 ln), .im 1 (ints right)]]⟩) :: [(1, ⟨25, 1, intssO (tabF n1 N s.2.1)⟩), (0, ⟨31, 3, [grammarC ((N : Int), gt, gr)]⟩)], 3⟩)
          (fun u => u.1 ≤ n1 ∧ Swp N n (muO 70000000 N n T) u.2 ∧ (List.range' u.1 (n1 - u.1)).foldl (fun s i => swJ w n1 (ln, right, cn) i s) u.2 = swI w n1 (ln, right, cn) s) (fun u => n1 - u.1) (0, s) ⟨Nat.zero_le _, hsw, rfl⟩ ?_ ?_
        · exact Cov.ofn (id) rfl (by simp [go_sem, List.take_of_length_le, ren, ren1, okr, okr1, ChkT, ChkN, BlkN, nf, grammarC]) (by simp [go_sem, List.take_of_length_le, ren, ren1, okr, okr1, ChkT, ChkN, BlkN, nf, grammarC])
        rintro ⟨i, s1⟩ ⟨hi, hsw1, hfold1⟩
        dsimp only at hi hsw1 hfold1 ⊢
        have stepi : wr64 ((i : Int) + 1) = ((i + 1 : Nat) : Int) := wr64_id (by omega) (by omega)
        repeat' first
          | (refine Holds.condT ?_ ?_; (· (simp [go_sem, List.take_of_length_le] <;> with_reducible rfl)))
          | (refine Holds.condF ?_ ?_; (· (simp [go_sem, List.take_of_length_le] <;> with_reducible rfl)))
          | refine Holds.seq ?_
          | refine Holds.skip ?_
          | refine Holds.exit ?_
          | refine Holds.ret ?_
          | refine thenA_normal ?_
          | refine thenA_exit ?_
          | refine thenA_ret ?_
          | refine inB_normal ?_
          | refine inB_ret ?_
          | refine inB_here ?_
          | (refine inB_past ?_ ?_; (· exact rfl))
          | refine Holds.reg ?_
          | refine Holds.block ?_
          | refine GS.nil ?_
          | refine Gd.nil ?_
          | (refine Holds.any mixed ?_ ?_; (· kernel_rfl))
          | (refine GS.step (s' := ?_) ?_ ?_ ?_; rotate_left; (· exact rfl); (· (simp [go_sem, List.take_of_length_le] <;> with_reducible rfl)))
          | (refine GS.skip ?_ ?_ ?_; (· exact rfl); (· exact rfl))
          | (refine Gd.go (s' := ?_) ?_ ?_ ?_; rotate_left; (· exact rfl); (· (simp [go_sem, List.take_of_length_le] <;> with_reducible rfl)))
          | (refine Gd.skip ?_ ?_ ?_; (· exact rfl); (· exact rfl))
          | fail
        refine Holds.cond rfl (fun h => ?_) (fun h => ?_)
        · have hil : i < n1 := by simp at h; omega
          rw [range'_next hil, List.foldl_cons] at hfold1
          repeat' first
            | (refine Holds.condT ?_ ?_; (· (simp [go_sem, List.take_of_length_le] <;> with_reducible rfl)))
            | (refine Holds.condF ?_ ?_; (· (simp [go_sem, List.take_of_length_le] <;> with_reducible rfl)))
            | refine Holds.seq ?_
            | refine Holds.skip ?_
            | refine Holds.exit ?_
            | refine Holds.ret ?_
            | refine thenA_normal ?_
            | refine thenA_exit ?_
            | refine thenA_ret ?_
            | refine inB_normal ?_
            | refine inB_ret ?_
            | refine inB_here ?_
            | (refine inB_past ?_ ?_; (· exact rfl))
            | refine Holds.reg ?_
            | refine Holds.block ?_
            | refine GS.nil ?_
            | refine Gd.nil ?_
            | (refine Holds.any mixed ?_ ?_; (· kernel_rfl))
            | (refine GS.step (s' := ?_) ?_ ?_ ?_; rotate_left; (· exact rfl); (· (simp [go_sem, List.take_of_length_le] <;> with_reducible rfl)))
            | (refine GS.skip ?_ ?_ ?_; (· exact rfl); (· exact rfl))
            | (refine Gd.go (s' := ?_) ?_ ?_ ?_; rotate_left; (· exact rfl); (· (simp [go_sem, List.take_of_length_le] <;> with_reducible rfl)))
            | (refine Gd.skip ?_ ?_ ?_; (· exact rfl); (· exact rfl))
            | fail
          refine Holds.loop (ι := Nat × (Tab × Bool)) (fun s => ⟨[(1, .im 1 (ints cs)), (2, .im 1 (ints w)), (3, .pb 0 3 0 0), (7, .v (.int .i64 n1)), (8, .own 1 1 0 N), (10, .v (.bool s.2.2)), (11, .v (.int .i64 k)), (12, .pb 2 2 0 0), (13, .v (.int .i64 i)), (14, .v (.int .i64 s.1)), (37, .im 2 (rules gr)), (38, .v (.int .i64 gr.length)), (39, .v (.int .i64 k))], (2, ⟨68, 2, [[.v (.int .i64 ln), .im 1 (ints right)]]⟩) :: [(1, ⟨25, 1, intssO (tabF n1 N s.2.1)⟩), (0, ⟨31, 3, [grammarC ((N : Int), gt, gr)]⟩)], 3⟩)
            (fun u => i ≤ u.1 ∧ u.1 ≤ n1 ∧ Swp N n (muO 70000000 N n T) u.2 ∧ (List.range' u.1 (n1 - u.1)).foldl (fun s j => st1 w (ln, right, cn) i j s) u.2 = swJ w n1 (ln, right, cn) i s1) (fun u => n1 - u.1) (i, s1) ⟨Nat.le_refl _, hi, hsw1, rfl⟩ ?_ ?_
          · exact Cov.ofn (id) rfl (by simp [go_sem, List.take_of_length_le, ren, ren1, okr, okr1, ChkT, ChkN, BlkN, nf, grammarC]) (by simp [go_sem, List.take_of_length_le, ren, ren1, okr, okr1, ChkT, ChkN, BlkN, nf, grammarC])
          rintro ⟨j, s2⟩ ⟨hij, hj, hsw2, hfold2⟩
          dsimp only at hij hj hsw2 hfold2 ⊢
          have stepj : wr64 ((j : Int) + 1) = ((j + 1 : Nat) : Int) := wr64_id (by omega) (by omega)
          repeat' first
            | (refine Holds.condT ?_ ?_; (· (simp [go_sem, List.take_of_length_le] <;> with_reducible rfl)))
            | (refine Holds.condF ?_ ?_; (· (simp [go_sem, List.take_of_length_le] <;> with_reducible rfl)))
            | refine Holds.seq ?_
            | refine Holds.skip ?_
            | refine Holds.exit ?_
            | refine Holds.ret ?_
            | refine thenA_normal ?_
            | refine thenA_exit ?_
            | refine thenA_ret ?_
            | refine inB_normal ?_
            | refine inB_ret ?_
            | refine inB_here ?_
            | (refine inB_past ?_ ?_; (· exact rfl))
            | refine Holds.reg ?_
            | refine Holds.block ?_
            | refine GS.nil ?_
            | refine Gd.nil ?_
            | (refine Holds.any mixed ?_ ?_; (· kernel_rfl))
            | (refine GS.step (s' := ?_) ?_ ?_ ?_; rotate_left; (· exact rfl); (· (simp [go_sem, List.take_of_length_le] <;> with_reducible rfl)))
            | (refine GS.skip ?_ ?_ ?_; (· exact rfl); (· exact rfl))
            | (refine Gd.go (s' := ?_) ?_ ?_ ?_; rotate_left; (· exact rfl); (· (simp [go_sem, List.take_of_length_le] <;> with_reducible rfl)))
            | (refine Gd.skip ?_ ?_ ?_; (· exact rfl); (· exact rfl))
            | fail
          refine Holds.cond rfl (fun h => ?_) (fun h => ?_)
          · have hjl : j < n1 := by simp at h; omega
            rw [range'_next hjl, List.foldl_cons] at hfold2
            have hnext := hsw2.st1 (w := w) hN6 hn hqk hij (by omega)
            obtain ⟨T2, b2⟩ := s2
            have hG := hsw2.good
            dsimp only at hG
            have c1 := l10Best hG hN6 w hw hn hwk right hqk.2.1 hsym i j hij (by omega)
            rw [← hn1] at c1
            have hlN : ln < N := hqk.1
            have htx : (tabF n1 N T2)[ln]? = some (rowF n1 T2 ln) := tabF_get T2 hlN
            have htx' : (intssO (tabF n1 N T2))[ln]? = some [.ow 3 1 (ints (rowF n1 T2 ln))] := by rw [intssO_get, htx]; rfl
            obtain ⟨q, hqq⟩ : ∃ q, q = i * n1 + j := ⟨_, rfl⟩
            obtain ⟨q0, hq0⟩ : ∃ q0, q0 = i * n1 := ⟨_, rfl⟩
            have hq0l : q0 ≤ 121 := by rw [hq0]; have : i * n1 ≤ 11 * 11 := Nat.mul_le_mul (by omega) (by omega); omega
            have hm3 : wr64 ((i : Int) * (n1 : Int)) = (q0 : Int) := by rw [show (i : Int) * (n1 : Int) = (q0 : Int) by rw [hq0]; simp]; exact wr64_id (by omega) (by omega)
            have hm4 : wr64 ((q0 : Int) + (j : Int)) = (q : Int) := by rw [show (q0 : Int) + (j : Int) = (q : Int) by rw [hqq, hq0]; simp]; exact wr64_id (by omega) (by omega)
            have hrx : (rowF n1 T2 ln)[q]? = some (sV (T2 ln i j)) := by rw [hqq]; exact rowF_get T2 ln hil hjl
            have hql2 := (List.getElem?_eq_some_iff.1 hrx).1
            have htop := rowO_top (w := w) hG hN6 right i j
            have hr4 := hqk.2.1
            have hc1 := hqk.2.2.1
            have hc2 := hqk.2.2.2
            dsimp only at hr4 hc1 hc2
            have hput := fun v => tabF_put (n := n1) (N := N) T2 (A := ln) (i := i) (j := j) (v := v) hlN hil hjl
            rw [← hqq] at hput
            have hself : (tabF n1 N T2).set ln (rowF n1 T2 ln) = tabF n1 N T2 := set_selfE htx
            cases hR : rowO T2 w right i j with
            | none =>
              have hst : st1 w (ln, right, cn) i j (T2, b2) = (T2, b2) := by simp only [st1, hR]
              rw [hst] at hnext hfold2
              rw [hR, encO_none] at c1
              repeat' first
                | (refine Holds.condT ?_ ?_; (· (simp [go_sem, List.take_of_length_le] <;> with_reducible rfl)))
                | (refine Holds.condF ?_ ?_; (· (simp [go_sem, List.take_of_length_le] <;> with_reducible rfl)))
                | refine Holds.seq ?_
                | refine Holds.skip ?_
                | refine Holds.exit ?_
                | refine Holds.ret ?_
                | refine thenA_normal ?_
                | refine thenA_exit ?_
                | refine thenA_ret ?_
                | refine inB_normal ?_
                | refine inB_ret ?_
                | refine inB_here ?_
                | (refine inB_past ?_ ?_; (· exact rfl))
                | refine Holds.reg ?_
                | refine Holds.block ?_
                | refine GS.nil ?_
                | refine Gd.nil ?_
                | (refine Holds.any mixed ?_ ?_; (· kernel_rfl))
                | (refine GS.step (s' := ?_) ?_ ?_ ?_; rotate_left; (· exact rfl); (· (simp [go_sem, List.take_of_length_le] <;> with_reducible rfl)))
                | (refine GS.skip ?_ ?_ ?_; (· exact rfl); (· exact rfl))
                | (refine Gd.go (s' := ?_) ?_ ?_ ?_; rotate_left; (· exact rfl); (· (simp [go_sem, List.take_of_length_le] <;> with_reducible rfl)))
                | (refine Gd.skip ?_ ?_ ?_; (· exact rfl); (· exact rfl))
                | fail
              first | refine GS.cd (c1) rfl rfl rfl rfl (by simp [go_sem, List.take_of_length_le] <;> with_reducible rfl) rfl (by exact .cons (fz_intssO _ rfl (by rw [tabF_len])) (.cons (.im _ _) (.cons (.im _ _) (.cons (.v _) (.cons (.v _) .nil))))) rfl ?_ | refine Gd.cd (c1) rfl rfl rfl rfl (by simp [go_sem, List.take_of_length_le] <;> with_reducible rfl) rfl (by exact .cons (fz_intssO _ rfl (by rw [tabF_len])) (.cons (.im _ _) (.cons (.im _ _) (.cons (.v _) (.cons (.v _) .nil))))) rfl ?_
              repeat' first
                | (refine Holds.condT ?_ ?_; (· (simp [go_sem, List.take_of_length_le] <;> with_reducible rfl)))
                | (refine Holds.condF ?_ ?_; (· (simp [go_sem, List.take_of_length_le] <;> with_reducible rfl)))
                | refine Holds.seq ?_
                | refine Holds.skip ?_
                | refine Holds.exit ?_
                | refine Holds.ret ?_
                | refine thenA_normal ?_
                | refine thenA_exit ?_
                | refine thenA_ret ?_
                | refine inB_normal ?_
                | refine inB_ret ?_
                | refine inB_here ?_
                | (refine inB_past ?_ ?_; (· exact rfl))
                | refine Holds.reg ?_
                | refine Holds.block ?_
                | refine GS.nil ?_
                | refine Gd.nil ?_
                | (refine Holds.any mixed ?_ ?_; (· kernel_rfl))
                | (refine GS.step (s' := ?_) ?_ ?_ ?_; rotate_left; (· exact rfl); (· (simp [go_sem, List.take_of_length_le] <;> with_reducible rfl)))
                | (refine GS.skip ?_ ?_ ?_; (· exact rfl); (· exact rfl))
                | (refine Gd.go (s' := ?_) ?_ ?_ ?_; rotate_left; (· exact rfl); (· (simp [go_sem, List.take_of_length_le] <;> with_reducible rfl)))
                | (refine Gd.skip ?_ ?_ ?_; (· exact rfl); (· exact rfl))
                | fail
              refine ⟨(j + 1, (T2, b2)), ⟨by dsimp only; omega, by dsimp only; omega, hnext, hfold2⟩, by dsimp only; omega, ?_⟩
              rw [stepj]
              exact Cov.ofn (id) rfl (by simp [go_sem, List.take_of_length_le, ren, ren1, okr, okr1, ChkT, ChkN, BlkN, nf, grammarC]) (by simp [go_sem, List.take_of_length_le, ren, ren1, okr, okr1, ChkT, ChkN, BlkN, nf, grammarC])
            | some v =>
              have hv := htop v (by omega) hR
              have hv1 : (0 : Int) ≤ (v : Int) := by omega
              rw [hR, encO_some] at c1
              obtain ⟨sm, hsm⟩ : ∃ sm, sm = v + cn := ⟨_, rfl⟩
              have hws : wr64 ((v : Int) + (cn : Int)) = (sm : Int) := by rw [show (v : Int) + (cn : Int) = (sm : Int) by rw [hsm]; simp]; exact wr64_id (by omega) (by omega)
              cases hP : T2 ln i j with
              | none =>
                have hst : st1 w (ln, right, cn) i j (T2, b2) = (putO T2 ln i j (some sm), true) := by simp only [st1, hR, hP, hsm]
                rw [hst] at hnext hfold2
                rw [hP, show sV none = 0 from rfl] at hrx
                repeat' first
                  | (refine Holds.condT ?_ ?_; (· (simp [go_sem, List.take_of_length_le] <;> with_reducible rfl)))
                  | (refine Holds.condF ?_ ?_; (· (simp [go_sem, List.take_of_length_le] <;> with_reducible rfl)))
                  | refine Holds.seq ?_
                  | refine Holds.skip ?_
                  | refine Holds.exit ?_
                  | refine Holds.ret ?_
                  | refine thenA_normal ?_
                  | refine thenA_exit ?_
                  | refine thenA_ret ?_
                  | refine inB_normal ?_
                  | refine inB_ret ?_
                  | refine inB_here ?_
                  | (refine inB_past ?_ ?_; (· exact rfl))
                  | refine Holds.reg ?_
                  | refine Holds.block ?_
                  | refine GS.nil ?_
                  | refine Gd.nil ?_
                  | (refine Holds.any mixed ?_ ?_; (· kernel_rfl))
                  | (refine GS.step (s' := ?_) ?_ ?_ ?_; rotate_left; (· exact rfl); (· (simp [go_sem, List.take_of_length_le] <;> with_reducible rfl)))
                  | (refine GS.skip ?_ ?_ ?_; (· exact rfl); (· exact rfl))
                  | (refine Gd.go (s' := ?_) ?_ ?_ ?_; rotate_left; (· exact rfl); (· (simp [go_sem, List.take_of_length_le] <;> with_reducible rfl)))
                  | (refine Gd.skip ?_ ?_ ?_; (· exact rfl); (· exact rfl))
                  | fail
                first | refine GS.cd (c1) rfl rfl rfl rfl (by simp [go_sem, List.take_of_length_le] <;> with_reducible rfl) rfl (by exact .cons (fz_intssO _ rfl (by rw [tabF_len])) (.cons (.im _ _) (.cons (.im _ _) (.cons (.v _) (.cons (.v _) .nil))))) rfl ?_ | refine Gd.cd (c1) rfl rfl rfl rfl (by simp [go_sem, List.take_of_length_le] <;> with_reducible rfl) rfl (by exact .cons (fz_intssO _ rfl (by rw [tabF_len])) (.cons (.im _ _) (.cons (.im _ _) (.cons (.v _) (.cons (.v _) .nil))))) rfl ?_
                refine GS.open 1 ln 0 rfl htx' rfl rfl ?_
                repeat' first
                  | (refine Holds.condT ?_ ?_; (· (simp [go_sem, List.take_of_length_le] <;> with_reducible rfl)))
                  | (refine Holds.condF ?_ ?_; (· (simp [go_sem, List.take_of_length_le] <;> with_reducible rfl)))
                  | refine Holds.seq ?_
                  | refine Holds.skip ?_
                  | refine Holds.exit ?_
                  | refine Holds.ret ?_
                  | refine thenA_normal ?_
                  | refine thenA_exit ?_
                  | refine thenA_ret ?_
                  | refine inB_normal ?_
                  | refine inB_ret ?_
                  | refine inB_here ?_
                  | (refine inB_past ?_ ?_; (· exact rfl))
                  | refine Holds.reg ?_
                  | refine Holds.block ?_
                  | refine GS.nil ?_
                  | refine Gd.nil ?_
                  | (refine GS.step (s' := ?_) ?_ ?_ ?_; rotate_left; (· exact rfl); (· (simp [go_sem, List.take_of_length_le] <;> with_reducible rfl)))
                  | (refine GS.skip ?_ ?_ ?_; (· exact rfl); (· exact rfl))
                  | (refine Gd.go (s' := ?_) ?_ ?_ ?_; rotate_left; (· exact rfl); (· (simp [go_sem, List.take_of_length_le] <;> with_reducible rfl)))
                  | (refine Gd.skip ?_ ?_ ?_; (· exact rfl); (· exact rfl))
                  | fail
                (refine Holds.any mixed ?_ ?_; (· kernel_rfl))
                repeat' first
                  | (refine Holds.condT ?_ ?_; (· (simp [go_sem, List.take_of_length_le, hm3, hm4, hlN, get_E htx', htx', hrx, get_E hrx, hql2, hv1, hc, hws, tabF_len] <;> with_reducible rfl)))
                  | (refine Holds.condF ?_ ?_; (· (simp [go_sem, List.take_of_length_le, hm3, hm4, hlN, get_E htx', htx', hrx, get_E hrx, hql2, hv1, hc, hws, tabF_len] <;> with_reducible rfl)))
                  | refine Holds.seq ?_
                  | refine Holds.skip ?_
                  | refine Holds.exit ?_
                  | refine Holds.ret ?_
                  | refine thenA_normal ?_
                  | refine thenA_exit ?_
                  | refine thenA_ret ?_
                  | refine inB_normal ?_
                  | refine inB_ret ?_
                  | refine inB_here ?_
                  | (refine inB_past ?_ ?_; (· exact rfl))
                  | refine Holds.reg ?_
                  | refine Holds.block ?_
                  | refine GS.nil ?_
                  | refine Gd.nil ?_
                  | (refine GS.step (s' := ?_) ?_ ?_ ?_; rotate_left; (· exact rfl); (· (simp [go_sem, List.take_of_length_le, hm3, hm4, hlN, get_E htx', htx', hrx, get_E hrx, hql2, hv1, hc, hws, tabF_len] <;> with_reducible rfl)))
                  | (refine GS.skip ?_ ?_ ?_; (· exact rfl); (· exact rfl))
                  | (refine Gd.go (s' := ?_) ?_ ?_ ?_; rotate_left; (· exact rfl); (· (simp [go_sem, List.take_of_length_le, hm3, hm4, hlN, get_E htx', htx', hrx, get_E hrx, hql2, hv1, hc, hws, tabF_len] <;> with_reducible rfl)))
                  | (refine Gd.skip ?_ ?_ ?_; (· exact rfl); (· exact rfl))
                  | fail
                refine Holds.anx [1017] [] (fun n => true) mixed ?_ ?_ ?_; (· kernel_rfl); (· kernel_rfl)
                repeat' first
                  | (refine Holds.condT ?_ ?_; (· (simp [go_sem, List.take_of_length_le, hm3, hm4, hlN, get_E htx', htx', hrx, get_E hrx, hql2, hv1, hc, hws, tabF_len] <;> with_reducible rfl)))
                  | (refine Holds.condF ?_ ?_; (· (simp [go_sem, List.take_of_length_le, hm3, hm4, hlN, get_E htx', htx', hrx, get_E hrx, hql2, hv1, hc, hws, tabF_len] <;> with_reducible rfl)))
                  | refine Holds.seq ?_
                  | refine Holds.skip ?_
                  | refine Holds.exit ?_
                  | refine Holds.ret ?_
                  | refine thenA_normal ?_
                  | refine thenA_exit ?_
                  | refine thenA_ret ?_
                  | refine inB_normal ?_
                  | refine inB_ret ?_
                  | refine inB_here ?_
                  | (refine inB_past ?_ ?_; (· exact rfl))
                  | refine Holds.reg ?_
                  | refine Holds.block ?_
                  | refine GS.nil ?_
                  | refine Gd.nil ?_
                  | (refine Holds.any mixed ?_ ?_; (· kernel_rfl))
                  | (refine GS.step (s' := ?_) ?_ ?_ ?_; rotate_left; (· exact rfl); (· (simp [go_sem, List.take_of_length_le, hm3, hm4, hlN, get_E htx', htx', hrx, get_E hrx, hql2, hv1, hc, hws, tabF_len] <;> with_reducible rfl)))
                  | (refine GS.skip ?_ ?_ ?_; (· exact rfl); (· exact rfl))
                  | (refine Gd.go (s' := ?_) ?_ ?_ ?_; rotate_left; (· exact rfl); (· (simp [go_sem, List.take_of_length_le, hm3, hm4, hlN, get_E htx', htx', hrx, get_E hrx, hql2, hv1, hc, hws, tabF_len] <;> with_reducible rfl)))
                  | (refine Gd.skip ?_ ?_ ?_; (· exact rfl); (· exact rfl))
                  | refine Gx.nil ?_
                  | (refine Gx.go (s' := ?_) rfl ?_ ?_ ?_; rotate_left; (· exact rfl); (· (simp [go_sem, List.take_of_length_le, hm3, hm4, hlN, get_E htx', htx', hrx, get_E hrx, hql2, hv1, hc, hws, tabF_len] <;> with_reducible rfl)))
                  | (refine Gx.skip rfl ?_ ?_ ?_; (· exact rfl); (· exact rfl))
                  | (refine Gx.skipO rfl ?_ ?_ ?_; (· exact rfl); (· exact rfl))
                  | (refine Gx.wo (s' := ?_) rfl ?_ ?_ ?_; rotate_left; (· exact rfl); (· (simp [go_sem, List.take_of_length_le, hm3, hm4, hlN, get_E htx', htx', hrx, get_E hrx, hql2, hv1, hc, hws, tabF_len] <;> with_reducible rfl)))
                  | (refine Gx.skipW rfl ?_ ?_ ?_; (· exact rfl); (· exact rfl))
                  | (refine Gx.skipH rfl ?_ ?_ ?_; (· exact rfl); (· exact rfl))
                  | (refine Gx.hid (r := ?_) rfl ?_ ?_ ?_ ?_; rotate_left; (· exact rfl); (· exact rfl); (· (simp [go_sem, List.take_of_length_le, hm3, hm4, hlN, get_E htx', htx', hrx, get_E hrx, hql2, hv1, hc, hws, tabF_len] <;> with_reducible rfl)))
                  | (refine Gx.wr (s' := ?_) rfl ?_ ?_ ?_ ?_; rotate_left; (· exact rfl); (· (simp [go_sem, List.take_of_length_le, hm3, hm4, hlN, get_E htx', htx', hrx, get_E hrx, hql2, hv1, hc, hws, tabF_len] <;> with_reducible rfl)); (· (simp [go_sem, List.take_of_length_le, hm3, hm4, hlN, get_E htx', htx', hrx, get_E hrx, hql2, hv1, hc, hws, tabF_len])))
                  | fail
                refine ⟨(j + 1, (putO T2 ln i j (some sm), true)), ⟨by dsimp only; omega, by dsimp only; omega, hnext, hfold2⟩, by dsimp only; omega, ?_⟩
                rw [stepj]
                refine Cov.trans ?_ (Cov.close 1 ln 0 rfl (set_get htx') rfl rfl rfl rfl (by first | rfl | simp) (by simp))
                simp only [rm, st, List.set_set, List.set_cons_zero, List.set_cons_succ]
                exact Cov.ofn (id) rfl (by simp [go_sem, List.take_of_length_le, ren, ren1, okr, okr1, ChkT, ChkN, BlkN, nf, grammarC, map_intssO, hput]) (by simp [go_sem, List.take_of_length_le, ren, ren1, okr, okr1, ChkT, ChkN, BlkN, nf, grammarC, map_intssO, hput])
              | some o =>
                rw [hP, show sV (some o) = (o : Int) from rfl] at hrx
                have ho := hG.pos _ _ _ _ hP
                have ho0 : ¬ ((o : Int) = 0) := by omega
                have ho1 : ((o : Int) == 0) = false := by simpa using ho0
                have ho2 : ¬ o = 0 := by omega
                by_cases hlo : v + cn < o
                · have hst : st1 w (ln, right, cn) i j (T2, b2) = (putO T2 ln i j (some sm), true) := by simp only [st1, hR, hP, if_pos hlo, hsm]
                  have hl2 : (sm : Int) < (o : Int) := by omega
                  have hl3 : sm < o := by omega
                  rw [hst] at hnext hfold2
                  repeat' first
                    | (refine Holds.condT ?_ ?_; (· (simp [go_sem, List.take_of_length_le] <;> with_reducible rfl)))
                    | (refine Holds.condF ?_ ?_; (· (simp [go_sem, List.take_of_length_le] <;> with_reducible rfl)))
                    | refine Holds.seq ?_
                    | refine Holds.skip ?_
                    | refine Holds.exit ?_
                    | refine Holds.ret ?_
                    | refine thenA_normal ?_
                    | refine thenA_exit ?_
                    | refine thenA_ret ?_
                    | refine inB_normal ?_
                    | refine inB_ret ?_
                    | refine inB_here ?_
                    | (refine inB_past ?_ ?_; (· exact rfl))
                    | refine Holds.reg ?_
                    | refine Holds.block ?_
                    | refine GS.nil ?_
                    | refine Gd.nil ?_
                    | (refine Holds.any mixed ?_ ?_; (· kernel_rfl))
                    | (refine GS.step (s' := ?_) ?_ ?_ ?_; rotate_left; (· exact rfl); (· (simp [go_sem, List.take_of_length_le] <;> with_reducible rfl)))
                    | (refine GS.skip ?_ ?_ ?_; (· exact rfl); (· exact rfl))
                    | (refine Gd.go (s' := ?_) ?_ ?_ ?_; rotate_left; (· exact rfl); (· (simp [go_sem, List.take_of_length_le] <;> with_reducible rfl)))
                    | (refine Gd.skip ?_ ?_ ?_; (· exact rfl); (· exact rfl))
                    | refine Gx.nil ?_
                    | (refine Gx.go (s' := ?_) rfl ?_ ?_ ?_; rotate_left; (· exact rfl); (· (simp [go_sem, List.take_of_length_le] <;> with_reducible rfl)))
                    | (refine Gx.skip rfl ?_ ?_ ?_; (· exact rfl); (· exact rfl))
                    | (refine Gx.skipO rfl ?_ ?_ ?_; (· exact rfl); (· exact rfl))
                    | (refine Gx.wo (s' := ?_) rfl ?_ ?_ ?_; rotate_left; (· exact rfl); (· (simp [go_sem, List.take_of_length_le] <;> with_reducible rfl)))
                    | (refine Gx.skipW rfl ?_ ?_ ?_; (· exact rfl); (· exact rfl))
                    | (refine Gx.skipH rfl ?_ ?_ ?_; (· exact rfl); (· exact rfl))
                    | (refine Gx.hid (r := ?_) rfl ?_ ?_ ?_ ?_; rotate_left; (· exact rfl); (· exact rfl); (· (simp [go_sem, List.take_of_length_le] <;> with_reducible rfl)))
                    | (refine Gx.wr (s' := ?_) rfl ?_ ?_ ?_ ?_; rotate_left; (· exact rfl); (· (simp [go_sem, List.take_of_length_le] <;> with_reducible rfl)); (· (simp [go_sem, List.take_of_length_le])))
                    | fail
                  first | refine GS.cd (c1) rfl rfl rfl rfl (by simp [go_sem, List.take_of_length_le] <;> with_reducible rfl) rfl (by exact .cons (fz_intssO _ rfl (by rw [tabF_len])) (.cons (.im _ _) (.cons (.im _ _) (.cons (.v _) (.cons (.v _) .nil))))) rfl ?_ | refine Gd.cd (c1) rfl rfl rfl rfl (by simp [go_sem, List.take_of_length_le] <;> with_reducible rfl) rfl (by exact .cons (fz_intssO _ rfl (by rw [tabF_len])) (.cons (.im _ _) (.cons (.im _ _) (.cons (.v _) (.cons (.v _) .nil))))) rfl ?_ | refine Gx.cd (c1) rfl rfl rfl rfl rfl (by simp [go_sem, List.take_of_length_le] <;> with_reducible rfl) rfl (by exact .cons (fz_intssO _ rfl (by rw [tabF_len])) (.cons (.im _ _) (.cons (.im _ _) (.cons (.v _) (.cons (.v _) .nil))))) rfl ?_
                  refine GS.open 1 ln 0 rfl htx' rfl rfl ?_
                  repeat' first
                    | (refine Holds.condT ?_ ?_; (· (simp [go_sem, List.take_of_length_le] <;> with_reducible rfl)))
                    | (refine Holds.condF ?_ ?_; (· (simp [go_sem, List.take_of_length_le] <;> with_reducible rfl)))
                    | refine Holds.seq ?_
                    | refine Holds.skip ?_
                    | refine Holds.exit ?_
                    | refine Holds.ret ?_
                    | refine thenA_normal ?_
                    | refine thenA_exit ?_
                    | refine thenA_ret ?_
                    | refine inB_normal ?_
                    | refine inB_ret ?_
                    | refine inB_here ?_
                    | (refine inB_past ?_ ?_; (· exact rfl))
                    | refine Holds.reg ?_
                    | refine Holds.block ?_
                    | refine GS.nil ?_
                    | refine Gd.nil ?_
                    | (refine GS.step (s' := ?_) ?_ ?_ ?_; rotate_left; (· exact rfl); (· (simp [go_sem, List.take_of_length_le] <;> with_reducible rfl)))
                    | (refine GS.skip ?_ ?_ ?_; (· exact rfl); (· exact rfl))
                    | (refine Gd.go (s' := ?_) ?_ ?_ ?_; rotate_left; (· exact rfl); (· (simp [go_sem, List.take_of_length_le] <;> with_reducible rfl)))
                    | (refine Gd.skip ?_ ?_ ?_; (· exact rfl); (· exact rfl))
                    | refine Gx.nil ?_
                    | (refine Gx.go (s' := ?_) rfl ?_ ?_ ?_; rotate_left; (· exact rfl); (· (simp [go_sem, List.take_of_length_le] <;> with_reducible rfl)))
                    | (refine Gx.skip rfl ?_ ?_ ?_; (· exact rfl); (· exact rfl))
                    | (refine Gx.skipO rfl ?_ ?_ ?_; (· exact rfl); (· exact rfl))
                    | (refine Gx.wo (s' := ?_) rfl ?_ ?_ ?_; rotate_left; (· exact rfl); (· (simp [go_sem, List.take_of_length_le] <;> with_reducible rfl)))
                    | (refine Gx.skipW rfl ?_ ?_ ?_; (· exact rfl); (· exact rfl))
                    | (refine Gx.skipH rfl ?_ ?_ ?_; (· exact rfl); (· exact rfl))
                    | (refine Gx.hid (r := ?_) rfl ?_ ?_ ?_ ?_; rotate_left; (· exact rfl); (· exact rfl); (· (simp [go_sem, List.take_of_length_le] <;> with_reducible rfl)))
                    | (refine Gx.wr (s' := ?_) rfl ?_ ?_ ?_ ?_; rotate_left; (· exact rfl); (· (simp [go_sem, List.take_of_length_le] <;> with_reducible rfl)); (· (simp [go_sem, List.take_of_length_le])))
                    | fail
                  (refine Holds.any mixed ?_ ?_; (· kernel_rfl))
                  repeat' first
                    | (refine Holds.condT ?_ ?_; (· (simp [go_sem, List.take_of_length_le, hm3, hm4, hlN, get_E htx', htx', hrx, get_E hrx, hql2, hv1, hc, hws, tabF_len, ho0, ho1, ho2, hl2, hl3] <;> with_reducible rfl)))
                    | (refine Holds.condF ?_ ?_; (· (simp [go_sem, List.take_of_length_le, hm3, hm4, hlN, get_E htx', htx', hrx, get_E hrx, hql2, hv1, hc, hws, tabF_len, ho0, ho1, ho2, hl2, hl3] <;> with_reducible rfl)))
                    | refine Holds.seq ?_
                    | refine Holds.skip ?_
                    | refine Holds.exit ?_
                    | refine Holds.ret ?_
                    | refine thenA_normal ?_
                    | refine thenA_exit ?_
                    | refine thenA_ret ?_
                    | refine inB_normal ?_
                    | refine inB_ret ?_
                    | refine inB_here ?_
                    | (refine inB_past ?_ ?_; (· exact rfl))
                    | refine Holds.reg ?_
                    | refine Holds.block ?_
                    | refine GS.nil ?_
                    | refine Gd.nil ?_
                    | (refine GS.step (s' := ?_) ?_ ?_ ?_; rotate_left; (· exact rfl); (· (simp [go_sem, List.take_of_length_le, hm3, hm4, hlN, get_E htx', htx', hrx, get_E hrx, hql2, hv1, hc, hws, tabF_len, ho0, ho1, ho2, hl2, hl3] <;> with_reducible rfl)))
                    | (refine GS.skip ?_ ?_ ?_; (· exact rfl); (· exact rfl))
                    | (refine Gd.go (s' := ?_) ?_ ?_ ?_; rotate_left; (· exact rfl); (· (simp [go_sem, List.take_of_length_le, hm3, hm4, hlN, get_E htx', htx', hrx, get_E hrx, hql2, hv1, hc, hws, tabF_len, ho0, ho1, ho2, hl2, hl3] <;> with_reducible rfl)))
                    | (refine Gd.skip ?_ ?_ ?_; (· exact rfl); (· exact rfl))
                    | refine Gx.nil ?_
                    | (refine Gx.go (s' := ?_) rfl ?_ ?_ ?_; rotate_left; (· exact rfl); (· (simp [go_sem, List.take_of_length_le, hm3, hm4, hlN, get_E htx', htx', hrx, get_E hrx, hql2, hv1, hc, hws, tabF_len, ho0, ho1, ho2, hl2, hl3] <;> with_reducible rfl)))
                    | (refine Gx.skip rfl ?_ ?_ ?_; (· exact rfl); (· exact rfl))
                    | (refine Gx.skipO rfl ?_ ?_ ?_; (· exact rfl); (· exact rfl))
                    | (refine Gx.wo (s' := ?_) rfl ?_ ?_ ?_; rotate_left; (· exact rfl); (· (simp [go_sem, List.take_of_length_le, hm3, hm4, hlN, get_E htx', htx', hrx, get_E hrx, hql2, hv1, hc, hws, tabF_len, ho0, ho1, ho2, hl2, hl3] <;> with_reducible rfl)))
                    | (refine Gx.skipW rfl ?_ ?_ ?_; (· exact rfl); (· exact rfl))
                    | (refine Gx.skipH rfl ?_ ?_ ?_; (· exact rfl); (· exact rfl))
                    | (refine Gx.hid (r := ?_) rfl ?_ ?_ ?_ ?_; rotate_left; (· exact rfl); (· exact rfl); (· (simp [go_sem, List.take_of_length_le, hm3, hm4, hlN, get_E htx', htx', hrx, get_E hrx, hql2, hv1, hc, hws, tabF_len, ho0, ho1, ho2, hl2, hl3] <;> with_reducible rfl)))
                    | (refine Gx.wr (s' := ?_) rfl ?_ ?_ ?_ ?_; rotate_left; (· exact rfl); (· (simp [go_sem, List.take_of_length_le, hm3, hm4, hlN, get_E htx', htx', hrx, get_E hrx, hql2, hv1, hc, hws, tabF_len, ho0, ho1, ho2, hl2, hl3] <;> with_reducible rfl)); (· (simp [go_sem, List.take_of_length_le, hm3, hm4, hlN, get_E htx', htx', hrx, get_E hrx, hql2, hv1, hc, hws, tabF_len, ho0, ho1, ho2, hl2, hl3])))
                    | fail
                  refine Holds.anx [1017] [] (fun n => true) mixed ?_ ?_ ?_; (· kernel_rfl); (· kernel_rfl)
                  repeat' first
                    | (refine Holds.condT ?_ ?_; (· (simp [go_sem, List.take_of_length_le, hm3, hm4, hlN, get_E htx', htx', hrx, get_E hrx, hql2, hv1, hc, hws, tabF_len, ho0, ho1, ho2, hl2, hl3] <;> with_reducible rfl)))
                    | (refine Holds.condF ?_ ?_; (· (simp [go_sem, List.take_of_length_le, hm3, hm4, hlN, get_E htx', htx', hrx, get_E hrx, hql2, hv1, hc, hws, tabF_len, ho0, ho1, ho2, hl2, hl3] <;> with_reducible rfl)))
                    | refine Holds.seq ?_
                    | refine Holds.skip ?_
                    | refine Holds.exit ?_
                    | refine Holds.ret ?_
                    | refine thenA_normal ?_
                    | refine thenA_exit ?_
                    | refine thenA_ret ?_
                    | refine inB_normal ?_
                    | refine inB_ret ?_
                    | refine inB_here ?_
                    | (refine inB_past ?_ ?_; (· exact rfl))
                    | refine Holds.reg ?_
                    | refine Holds.block ?_
                    | refine GS.nil ?_
                    | refine Gd.nil ?_
                    | (refine Holds.any mixed ?_ ?_; (· kernel_rfl))
                    | (refine GS.step (s' := ?_) ?_ ?_ ?_; rotate_left; (· exact rfl); (· (simp [go_sem, List.take_of_length_le, hm3, hm4, hlN, get_E htx', htx', hrx, get_E hrx, hql2, hv1, hc, hws, tabF_len, ho0, ho1, ho2, hl2, hl3] <;> with_reducible rfl)))
                    | (refine GS.skip ?_ ?_ ?_; (· exact rfl); (· exact rfl))
                    | (refine Gd.go (s' := ?_) ?_ ?_ ?_; rotate_left; (· exact rfl); (· (simp [go_sem, List.take_of_length_le, hm3, hm4, hlN, get_E htx', htx', hrx, get_E hrx, hql2, hv1, hc, hws, tabF_len, ho0, ho1, ho2, hl2, hl3] <;> with_reducible rfl)))
                    | (refine Gd.skip ?_ ?_ ?_; (· exact rfl); (· exact rfl))
                    | refine Gx.nil ?_
                    | (refine Gx.go (s' := ?_) rfl ?_ ?_ ?_; rotate_left; (· exact rfl); (· (simp [go_sem, List.take_of_length_le, hm3, hm4, hlN, get_E htx', htx', hrx, get_E hrx, hql2, hv1, hc, hws, tabF_len, ho0, ho1, ho2, hl2, hl3] <;> with_reducible rfl)))
                    | (refine Gx.skip rfl ?_ ?_ ?_; (· exact rfl); (· exact rfl))
                    | (refine Gx.skipO rfl ?_ ?_ ?_; (· exact rfl); (· exact rfl))
                    | (refine Gx.wo (s' := ?_) rfl ?_ ?_ ?_; rotate_left; (· exact rfl); (· (simp [go_sem, List.take_of_length_le, hm3, hm4, hlN, get_E htx', htx', hrx, get_E hrx, hql2, hv1, hc, hws, tabF_len, ho0, ho1, ho2, hl2, hl3] <;> with_reducible rfl)))
                    | (refine Gx.skipW rfl ?_ ?_ ?_; (· exact rfl); (· exact rfl))
                    | (refine Gx.skipH rfl ?_ ?_ ?_; (· exact rfl); (· exact rfl))
                    | (refine Gx.hid (r := ?_) rfl ?_ ?_ ?_ ?_; rotate_left; (· exact rfl); (· exact rfl); (· (simp [go_sem, List.take_of_length_le, hm3, hm4, hlN, get_E htx', htx', hrx, get_E hrx, hql2, hv1, hc, hws, tabF_len, ho0, ho1, ho2, hl2, hl3] <;> with_reducible rfl)))
                    | (refine Gx.wr (s' := ?_) rfl ?_ ?_ ?_ ?_; rotate_left; (· exact rfl); (· (simp [go_sem, List.take_of_length_le, hm3, hm4, hlN, get_E htx', htx', hrx, get_E hrx, hql2, hv1, hc, hws, tabF_len, ho0, ho1, ho2, hl2, hl3] <;> with_reducible rfl)); (· (simp [go_sem, List.take_of_length_le, hm3, hm4, hlN, get_E htx', htx', hrx, get_E hrx, hql2, hv1, hc, hws, tabF_len, ho0, ho1, ho2, hl2, hl3])))
                    | fail
                  refine ⟨(j + 1, (putO T2 ln i j (some sm), true)), ⟨by dsimp only; omega, by dsimp only; omega, hnext, hfold2⟩, by dsimp only; omega, ?_⟩
                  rw [stepj]
                  refine Cov.trans ?_ (Cov.close 1 ln 0 rfl (set_get htx') rfl rfl rfl rfl (by first | rfl | simp) (by simp))
                  simp only [rm, st, List.set_set, List.set_cons_zero, List.set_cons_succ]
                  exact Cov.ofn (id) rfl (by simp [go_sem, List.take_of_length_le, ren, ren1, okr, okr1, ChkT, ChkN, BlkN, nf, grammarC, map_intssO, hput]) (by simp [go_sem, List.take_of_length_le, ren, ren1, okr, okr1, ChkT, ChkN, BlkN, nf, grammarC, map_intssO, hput])
                · have hst : st1 w (ln, right, cn) i j (T2, b2) = (T2, b2) := by simp only [st1, hR, hP, if_neg hlo]
                  have hl2 : ¬ (sm : Int) < (o : Int) := by omega
                  have hl3 : ¬ sm < o := by omega
                  rw [hst] at hnext hfold2
                  repeat' first
                    | (refine Holds.condT ?_ ?_; (· (simp [go_sem, List.take_of_length_le] <;> with_reducible rfl)))
                    | (refine Holds.condF ?_ ?_; (· (simp [go_sem, List.take_of_length_le] <;> with_reducible rfl)))
                    | refine Holds.seq ?_
                    | refine Holds.skip ?_
                    | refine Holds.exit ?_
                    | refine Holds.ret ?_
                    | refine thenA_normal ?_
                    | refine thenA_exit ?_
                    | refine thenA_ret ?_
                    | refine inB_normal ?_
                    | refine inB_ret ?_
                    | refine inB_here ?_
                    | (refine inB_past ?_ ?_; (· exact rfl))
                    | refine Holds.reg ?_
                    | refine Holds.block ?_
                    | refine GS.nil ?_
                    | refine Gd.nil ?_
                    | (refine Holds.any mixed ?_ ?_; (· kernel_rfl))
                    | (refine GS.step (s' := ?_) ?_ ?_ ?_; rotate_left; (· exact rfl); (· (simp [go_sem, List.take_of_length_le] <;> with_reducible rfl)))
                    | (refine GS.skip ?_ ?_ ?_; (· exact rfl); (· exact rfl))
                    | (refine Gd.go (s' := ?_) ?_ ?_ ?_; rotate_left; (· exact rfl); (· (simp [go_sem, List.take_of_length_le] <;> with_reducible rfl)))
                    | (refine Gd.skip ?_ ?_ ?_; (· exact rfl); (· exact rfl))
                    | refine Gx.nil ?_
                    | (refine Gx.go (s' := ?_) rfl ?_ ?_ ?_; rotate_left; (· exact rfl); (· (simp [go_sem, List.take_of_length_le] <;> with_reducible rfl)))
                    | (refine Gx.skip rfl ?_ ?_ ?_; (· exact rfl); (· exact rfl))
                    | (refine Gx.skipO rfl ?_ ?_ ?_; (· exact rfl); (· exact rfl))
                    | (refine Gx.wo (s' := ?_) rfl ?_ ?_ ?_; rotate_left; (· exact rfl); (· (simp [go_sem, List.take_of_length_le] <;> with_reducible rfl)))
                    | (refine Gx.skipW rfl ?_ ?_ ?_; (· exact rfl); (· exact rfl))
                    | (refine Gx.skipH rfl ?_ ?_ ?_; (· exact rfl); (· exact rfl))
                    | (refine Gx.hid (r := ?_) rfl ?_ ?_ ?_ ?_; rotate_left; (· exact rfl); (· exact rfl); (· (simp [go_sem, List.take_of_length_le] <;> with_reducible rfl)))
                    | (refine Gx.wr (s' := ?_) rfl ?_ ?_ ?_ ?_; rotate_left; (· exact rfl); (· (simp [go_sem, List.take_of_length_le] <;> with_reducible rfl)); (· (simp [go_sem, List.take_of_length_le])))
                    | fail
                  first | refine GS.cd (c1) rfl rfl rfl rfl (by simp [go_sem, List.take_of_length_le] <;> with_reducible rfl) rfl (by exact .cons (fz_intssO _ rfl (by rw [tabF_len])) (.cons (.im _ _) (.cons (.im _ _) (.cons (.v _) (.cons (.v _) .nil))))) rfl ?_ | refine Gd.cd (c1) rfl rfl rfl rfl (by simp [go_sem, List.take_of_length_le] <;> with_reducible rfl) rfl (by exact .cons (fz_intssO _ rfl (by rw [tabF_len])) (.cons (.im _ _) (.cons (.im _ _) (.cons (.v _) (.cons (.v _) .nil))))) rfl ?_ | refine Gx.cd (c1) rfl rfl rfl rfl rfl (by simp [go_sem, List.take_of_length_le] <;> with_reducible rfl) rfl (by exact .cons (fz_intssO _ rfl (by rw [tabF_len])) (.cons (.im _ _) (.cons (.im _ _) (.cons (.v _) (.cons (.v _) .nil))))) rfl ?_
                  refine GS.open 1 ln 0 rfl htx' rfl rfl ?_
                  repeat' first
                    | (refine Holds.condT ?_ ?_; (· (simp [go_sem, List.take_of_length_le] <;> with_reducible rfl)))
                    | (refine Holds.condF ?_ ?_; (· (simp [go_sem, List.take_of_length_le] <;> with_reducible rfl)))
                    | refine Holds.seq ?_
                    | refine Holds.skip ?_
                    | refine Holds.exit ?_
                    | refine Holds.ret ?_
                    | refine thenA_normal ?_
                    | refine thenA_exit ?_
                    | refine thenA_ret ?_
                    | refine inB_normal ?_
                    | refine inB_ret ?_
                    | refine inB_here ?_
                    | (refine inB_past ?_ ?_; (· exact rfl))
                    | refine Holds.reg ?_
                    | refine Holds.block ?_
                    | refine GS.nil ?_
                    | refine Gd.nil ?_
                    | (refine GS.step (s' := ?_) ?_ ?_ ?_; rotate_left; (· exact rfl); (· (simp [go_sem, List.take_of_length_le] <;> with_reducible rfl)))
                    | (refine GS.skip ?_ ?_ ?_; (· exact rfl); (· exact rfl))
                    | (refine Gd.go (s' := ?_) ?_ ?_ ?_; rotate_left; (· exact rfl); (· (simp [go_sem, List.take_of_length_le] <;> with_reducible rfl)))
                    | (refine Gd.skip ?_ ?_ ?_; (· exact rfl); (· exact rfl))
                    | refine Gx.nil ?_
                    | (refine Gx.go (s' := ?_) rfl ?_ ?_ ?_; rotate_left; (· exact rfl); (· (simp [go_sem, List.take_of_length_le] <;> with_reducible rfl)))
                    | (refine Gx.skip rfl ?_ ?_ ?_; (· exact rfl); (· exact rfl))
                    | (refine Gx.skipO rfl ?_ ?_ ?_; (· exact rfl); (· exact rfl))
                    | (refine Gx.wo (s' := ?_) rfl ?_ ?_ ?_; rotate_left; (· exact rfl); (· (simp [go_sem, List.take_of_length_le] <;> with_reducible rfl)))
                    | (refine Gx.skipW rfl ?_ ?_ ?_; (· exact rfl); (· exact rfl))
                    | (refine Gx.skipH rfl ?_ ?_ ?_; (· exact rfl); (· exact rfl))
                    | (refine Gx.hid (r := ?_) rfl ?_ ?_ ?_ ?_; rotate_left; (· exact rfl); (· exact rfl); (· (simp [go_sem, List.take_of_length_le] <;> with_reducible rfl)))
                    | (refine Gx.wr (s' := ?_) rfl ?_ ?_ ?_ ?_; rotate_left; (· exact rfl); (· (simp [go_sem, List.take_of_length_le] <;> with_reducible rfl)); (· (simp [go_sem, List.take_of_length_le])))
                    | fail
                  (refine Holds.any mixed ?_ ?_; (· kernel_rfl))
                  repeat' first
                    | (refine Holds.condT ?_ ?_; (· (simp [go_sem, List.take_of_length_le, hm3, hm4, hlN, get_E htx', htx', hrx, get_E hrx, hql2, hv1, hc, hws, tabF_len, ho0, ho1, ho2, hl2, hl3] <;> with_reducible rfl)))
                    | (refine Holds.condF ?_ ?_; (· (simp [go_sem, List.take_of_length_le, hm3, hm4, hlN, get_E htx', htx', hrx, get_E hrx, hql2, hv1, hc, hws, tabF_len, ho0, ho1, ho2, hl2, hl3] <;> with_reducible rfl)))
                    | refine Holds.seq ?_
                    | refine Holds.skip ?_
                    | refine Holds.exit ?_
                    | refine Holds.ret ?_
                    | refine thenA_normal ?_
                    | refine thenA_exit ?_
                    | refine thenA_ret ?_
                    | refine inB_normal ?_
                    | refine inB_ret ?_
                    | refine inB_here ?_
                    | (refine inB_past ?_ ?_; (· exact rfl))
                    | refine Holds.reg ?_
                    | refine Holds.block ?_
                    | refine GS.nil ?_
                    | refine Gd.nil ?_
                    | (refine GS.step (s' := ?_) ?_ ?_ ?_; rotate_left; (· exact rfl); (· (simp [go_sem, List.take_of_length_le, hm3, hm4, hlN, get_E htx', htx', hrx, get_E hrx, hql2, hv1, hc, hws, tabF_len, ho0, ho1, ho2, hl2, hl3] <;> with_reducible rfl)))
                    | (refine GS.skip ?_ ?_ ?_; (· exact rfl); (· exact rfl))
                    | (refine Gd.go (s' := ?_) ?_ ?_ ?_; rotate_left; (· exact rfl); (· (simp [go_sem, List.take_of_length_le, hm3, hm4, hlN, get_E htx', htx', hrx, get_E hrx, hql2, hv1, hc, hws, tabF_len, ho0, ho1, ho2, hl2, hl3] <;> with_reducible rfl)))
                    | (refine Gd.skip ?_ ?_ ?_; (· exact rfl); (· exact rfl))
                    | refine Gx.nil ?_
                    | (refine Gx.go (s' := ?_) rfl ?_ ?_ ?_; rotate_left; (· exact rfl); (· (simp [go_sem, List.take_of_length_le, hm3, hm4, hlN, get_E htx', htx', hrx, get_E hrx, hql2, hv1, hc, hws, tabF_len, ho0, ho1, ho2, hl2, hl3] <;> with_reducible rfl)))
                    | (refine Gx.skip rfl ?_ ?_ ?_; (· exact rfl); (· exact rfl))
                    | (refine Gx.skipO rfl ?_ ?_ ?_; (· exact rfl); (· exact rfl))
                    | (refine Gx.wo (s' := ?_) rfl ?_ ?_ ?_; rotate_left; (· exact rfl); (· (simp [go_sem, List.take_of_length_le, hm3, hm4, hlN, get_E htx', htx', hrx, get_E hrx, hql2, hv1, hc, hws, tabF_len, ho0, ho1, ho2, hl2, hl3] <;> with_reducible rfl)))
                    | (refine Gx.skipW rfl ?_ ?_ ?_; (· exact rfl); (· exact rfl))
                    | (refine Gx.skipH rfl ?_ ?_ ?_; (· exact rfl); (· exact rfl))
                    | (refine Gx.hid (r := ?_) rfl ?_ ?_ ?_ ?_; rotate_left; (· exact rfl); (· exact rfl); (· (simp [go_sem, List.take_of_length_le, hm3, hm4, hlN, get_E htx', htx', hrx, get_E hrx, hql2, hv1, hc, hws, tabF_len, ho0, ho1, ho2, hl2, hl3] <;> with_reducible rfl)))
                    | (refine Gx.wr (s' := ?_) rfl ?_ ?_ ?_ ?_; rotate_left; (· exact rfl); (· (simp [go_sem, List.take_of_length_le, hm3, hm4, hlN, get_E htx', htx', hrx, get_E hrx, hql2, hv1, hc, hws, tabF_len, ho0, ho1, ho2, hl2, hl3] <;> with_reducible rfl)); (· (simp [go_sem, List.take_of_length_le, hm3, hm4, hlN, get_E htx', htx', hrx, get_E hrx, hql2, hv1, hc, hws, tabF_len, ho0, ho1, ho2, hl2, hl3])))
                    | fail
                  refine ⟨(j + 1, (T2, b2)), ⟨by dsimp only; omega, by dsimp only; omega, hnext, hfold2⟩, by dsimp only; omega, ?_⟩
                  rw [stepj]
                  refine Cov.trans ?_ (Cov.close 1 ln 0 rfl (set_get htx') rfl rfl rfl rfl (by first | rfl | simp) (by simp))
                  simp only [rm, st, List.set_set, List.set_cons_zero, List.set_cons_succ]
                  exact Cov.ofn (id) rfl (by simp [go_sem, List.take_of_length_le, ren, ren1, okr, okr1, ChkT, ChkN, BlkN, nf, grammarC, map_intssO, hself]) (by simp [go_sem, List.take_of_length_le, ren, ren1, okr, okr1, ChkT, ChkN, BlkN, nf, grammarC, map_intssO, hself])
          · have hjl : j = n1 := by simp at h; omega
            subst hjl
            rw [range'_end, List.foldl_nil] at hfold2
            subst hfold2
            repeat' first
              | (refine Holds.condT ?_ ?_; (· (simp [go_sem, List.take_of_length_le] <;> with_reducible rfl)))
              | (refine Holds.condF ?_ ?_; (· (simp [go_sem, List.take_of_length_le] <;> with_reducible rfl)))
              | refine Holds.seq ?_
              | refine Holds.skip ?_
              | refine Holds.exit ?_
              | refine Holds.ret ?_
              | refine thenA_normal ?_
              | refine thenA_exit ?_
              | refine thenA_ret ?_
              | refine inB_normal ?_
              | refine inB_ret ?_
              | refine inB_here ?_
              | (refine inB_past ?_ ?_; (· exact rfl))
              | refine Holds.reg ?_
              | refine Holds.block ?_
              | refine GS.nil ?_
              | refine Gd.nil ?_
              | (refine Holds.any mixed ?_ ?_; (· kernel_rfl))
              | (refine GS.step (s' := ?_) ?_ ?_ ?_; rotate_left; (· exact rfl); (· (simp [go_sem, List.take_of_length_le] <;> with_reducible rfl)))
              | (refine GS.skip ?_ ?_ ?_; (· exact rfl); (· exact rfl))
              | (refine Gd.go (s' := ?_) ?_ ?_ ?_; rotate_left; (· exact rfl); (· (simp [go_sem, List.take_of_length_le] <;> with_reducible rfl)))
              | (refine Gd.skip ?_ ?_ ?_; (· exact rfl); (· exact rfl))
              | refine Gx.nil ?_
              | (refine Gx.go (s' := ?_) rfl ?_ ?_ ?_; rotate_left; (· exact rfl); (· (simp [go_sem, List.take_of_length_le] <;> with_reducible rfl)))
              | (refine Gx.skip rfl ?_ ?_ ?_; (· exact rfl); (· exact rfl))
              | (refine Gx.skipO rfl ?_ ?_ ?_; (· exact rfl); (· exact rfl))
              | (refine Gx.wo (s' := ?_) rfl ?_ ?_ ?_; rotate_left; (· exact rfl); (· (simp [go_sem, List.take_of_length_le] <;> with_reducible rfl)))
              | (refine Gx.skipW rfl ?_ ?_ ?_; (· exact rfl); (· exact rfl))
              | (refine Gx.skipH rfl ?_ ?_ ?_; (· exact rfl); (· exact rfl))
              | (refine Gx.hid (r := ?_) rfl ?_ ?_ ?_ ?_; rotate_left; (· exact rfl); (· exact rfl); (· (simp [go_sem, List.take_of_length_le] <;> with_reducible rfl)))
              | (refine Gx.wr (s' := ?_) rfl ?_ ?_ ?_ ?_; rotate_left; (· exact rfl); (· (simp [go_sem, List.take_of_length_le] <;> with_reducible rfl)); (· (simp [go_sem, List.take_of_length_le])))
              | fail
            refine ⟨(i + 1, swJ w j (ln, right, cn) i s1), ⟨by dsimp only; omega, hsw2, hfold1⟩, by dsimp only; omega, ?_⟩
            rw [stepi]
            exact Cov.ofn (id) rfl (by simp [go_sem, List.take_of_length_le, ren, ren1, okr, okr1, ChkT, ChkN, BlkN, nf, grammarC]) (by simp [go_sem, List.take_of_length_le, ren, ren1, okr, okr1, ChkT, ChkN, BlkN, nf, grammarC])
        · have hil : i = n1 := by simp at h; omega
          subst hil
          rw [range'_end, List.foldl_nil] at hfold1
          subst hfold1
          repeat' first
            | (refine Holds.condT ?_ ?_; (· (simp [go_sem, List.take_of_length_le] <;> with_reducible rfl)))
            | (refine Holds.condF ?_ ?_; (· (simp [go_sem, List.take_of_length_le] <;> with_reducible rfl)))
            | refine Holds.seq ?_
            | refine Holds.skip ?_
            | refine Holds.exit ?_
            | refine Holds.ret ?_
            | refine thenA_normal ?_
            | refine thenA_exit ?_
            | refine thenA_ret ?_
            | refine inB_normal ?_
            | refine inB_ret ?_
            | refine inB_here ?_
            | (refine inB_past ?_ ?_; (· exact rfl))
            | refine Holds.reg ?_
            | refine Holds.block ?_
            | refine GS.nil ?_
            | refine Gd.nil ?_
            | (refine Holds.any mixed ?_ ?_; (· kernel_rfl))
            | (refine GS.step (s' := ?_) ?_ ?_ ?_; rotate_left; (· exact rfl); (· (simp [go_sem, List.take_of_length_le] <;> with_reducible rfl)))
            | (refine GS.skip ?_ ?_ ?_; (· exact rfl); (· exact rfl))
            | (refine Gd.go (s' := ?_) ?_ ?_ ?_; rotate_left; (· exact rfl); (· (simp [go_sem, List.take_of_length_le] <;> with_reducible rfl)))
            | (refine Gd.skip ?_ ?_ ?_; (· exact rfl); (· exact rfl))
            | refine Gx.nil ?_
            | (refine Gx.go (s' := ?_) rfl ?_ ?_ ?_; rotate_left; (· exact rfl); (· (simp [go_sem, List.take_of_length_le] <;> with_reducible rfl)))
            | (refine Gx.skip rfl ?_ ?_ ?_; (· exact rfl); (· exact rfl))
            | (refine Gx.skipO rfl ?_ ?_ ?_; (· exact rfl); (· exact rfl))
            | (refine Gx.wo (s' := ?_) rfl ?_ ?_ ?_; rotate_left; (· exact rfl); (· (simp [go_sem, List.take_of_length_le] <;> with_reducible rfl)))
            | (refine Gx.skipW rfl ?_ ?_ ?_; (· exact rfl); (· exact rfl))
            | (refine Gx.skipH rfl ?_ ?_ ?_; (· exact rfl); (· exact rfl))
            | (refine Gx.hid (r := ?_) rfl ?_ ?_ ?_ ?_; rotate_left; (· exact rfl); (· exact rfl); (· (simp [go_sem, List.take_of_length_le] <;> with_reducible rfl)))
            | (refine Gx.wr (s' := ?_) rfl ?_ ?_ ?_ ?_; rotate_left; (· exact rfl); (· (simp [go_sem, List.take_of_length_le] <;> with_reducible rfl)); (· (simp [go_sem, List.take_of_length_le])))
            | fail
          refine ⟨(k + 1, swI w i (ln, right, cn) s), ⟨by dsimp only; omega, hsw1, hfold⟩, by dsimp only; omega, ?_⟩
          rw [stepk]
          exact Cov.ofn (id) rfl (by simp [go_sem, List.take_of_length_le, ren, ren1, okr, okr1, ChkT, ChkN, BlkN, nf, grammarC]) (by simp [go_sem, List.take_of_length_le, ren, ren1, okr, okr1, ChkT, ChkN, BlkN, nf, grammarC])
      · have hkl : k = gr.length := by simp at h; omega
        subst hkl
        rw [List.drop_eq_nil_of_le (by rw [rulesQ_len _ _ hcl]; exact Nat.le_refl _), List.foldl_nil] at hfold
        rw [← hfold] at hend
        repeat' first
          | (refine Holds.condT ?_ ?_; (· (simp [go_sem, List.take_of_length_le] <;> with_reducible rfl)))
          | (refine Holds.condF ?_ ?_; (· (simp [go_sem, List.take_of_length_le] <;> with_reducible rfl)))
          | refine Holds.seq ?_
          | refine Holds.skip ?_
          | refine Holds.exit ?_
          | refine Holds.ret ?_
          | refine thenA_normal ?_
          | refine thenA_exit ?_
          | refine thenA_ret ?_
          | refine inB_normal ?_
          | refine inB_ret ?_
          | refine inB_here ?_
          | (refine inB_past ?_ ?_; (· exact rfl))
          | refine Holds.reg ?_
          | refine Holds.block ?_
          | refine GS.nil ?_
          | refine Gd.nil ?_
          | (refine Holds.any mixed ?_ ?_; (· kernel_rfl))
          | (refine GS.step (s' := ?_) ?_ ?_ ?_; rotate_left; (· exact rfl); (· (simp [go_sem, List.take_of_length_le] <;> with_reducible rfl)))
          | (refine GS.skip ?_ ?_ ?_; (· exact rfl); (· exact rfl))
          | (refine Gd.go (s' := ?_) ?_ ?_ ?_; rotate_left; (· exact rfl); (· (simp [go_sem, List.take_of_length_le] <;> with_reducible rfl)))
          | (refine Gd.skip ?_ ?_ ?_; (· exact rfl); (· exact rfl))
          | refine Gx.nil ?_
          | (refine Gx.go (s' := ?_) rfl ?_ ?_ ?_; rotate_left; (· exact rfl); (· (simp [go_sem, List.take_of_length_le] <;> with_reducible rfl)))
          | (refine Gx.skip rfl ?_ ?_ ?_; (· exact rfl); (· exact rfl))
          | (refine Gx.skipO rfl ?_ ?_ ?_; (· exact rfl); (· exact rfl))
          | (refine Gx.wo (s' := ?_) rfl ?_ ?_ ?_; rotate_left; (· exact rfl); (· (simp [go_sem, List.take_of_length_le] <;> with_reducible rfl)))
          | (refine Gx.skipW rfl ?_ ?_ ?_; (· exact rfl); (· exact rfl))
          | (refine Gx.skipH rfl ?_ ?_ ?_; (· exact rfl); (· exact rfl))
          | (refine Gx.hid (r := ?_) rfl ?_ ?_ ?_ ?_; rotate_left; (· exact rfl); (· exact rfl); (· (simp [go_sem, List.take_of_length_le] <;> with_reducible rfl)))
          | (refine Gx.wr (s' := ?_) rfl ?_ ?_ ?_ ?_; rotate_left; (· exact rfl); (· (simp [go_sem, List.take_of_length_le] <;> with_reducible rfl)); (· (simp [go_sem, List.take_of_length_le])))
          | fail
        refine ⟨s, ⟨hsw.good, hend⟩, ?_, ?_⟩
        · have h1 := hsw.le
          have h2 := hsw.lt
          obtain ⟨T1, b1⟩ := s
          dsimp only at h1 h2 ⊢
          generalize muO 70000000 N n T = x at h1 h2 ⊢
          generalize muO 70000000 N n T1 = y at h1 h2 ⊢
          cases b1 with
          | true => have := h2 rfl; simp only [if_true]; omega
          | false => simp only [if_true, Bool.false_eq_true, if_false]; omega
        · exact Cov.ofn (id) rfl (by simp [go_sem, List.take_of_length_le, ren, ren1, okr, okr1, ChkT, ChkN, BlkN, nf, grammarC]) (by simp [go_sem, List.take_of_length_le, ren, ren1, okr, okr1, ChkT, ChkN, BlkN, nf, grammarC])
end Go.Proofs.Ytpnpjkkppndhfaa.En
end
section
namespace Go.Proofs.Ytpnpjkkppndhfaa.En
open Go.RowKit
set_option linter.unusedSimpArgs false
set_option linter.unusedVariables false
set_option maxHeartbeats 8000000
def leastV (g : GrammarT) (w : List Int) : Int × Bool :=
  if goodG g && wordV g.2.1 w then (if inR (sV (endO g.1.toNat w.length w (rulesQ g (List.replicate g.2.2.length 1)) noO 0 0 w.length)) 1 40 then (sV (endO g.1.toNat w.length w (rulesQ g (List.replicate g.2.2.length 1)) noO 0 0 w.length), true) else (0, false)) else (0, false)
theorem word_facts {t : Int} {w : List Int} (ht : t ≤ 100) (h : wordV t w = true) : w.length ≤ 10 ∧ ∀ x ∈ w, 0 ≤ x ∧ x ≤ 100 := by
  unfold wordV at h
  simp only [Bool.and_eq_true, decide_eq_true_eq, List.all_eq_true] at h
  refine ⟨h.1, fun x hx => ?_⟩
  have := h.2 x hx
  simp [inR] at this
  omega
theorem specLeast (g : GrammarT) (w : List Int) (hx : g.2.2.length < 4611686018427387904) (hs : ∀ e ∈ g.2.2, e.2.length < 4611686018427387904) (hwl : w.length < 4611686018427387904) : Pure Try.prog 19 [.ag (grammarC g), .im 1 (ints w)] (.tu [.v (.int .i64 (leastV g w).1), .v (.bool (leastV g w).2)]) := by
  have c0 := goodWord g w hx hs hwl
  unfold leastV
  refine Pure.mk (rs := [.tmp 4, .tmp 5]) (nt := 123) Try.func19 (by kernel_rfl) rfl rfl rfl (by simp) ?_
  simp only [sl, grammarC]
  repeat' first
    | (refine Holds.condT ?_ ?_; (· (simp [go_sem, List.take_of_length_le] <;> with_reducible rfl)))
    | (refine Holds.condF ?_ ?_; (· (simp [go_sem, List.take_of_length_le] <;> with_reducible rfl)))
    | refine Holds.seq ?_
    | refine Holds.skip ?_
    | refine Holds.exit ?_
    | refine Holds.ret ?_
    | refine thenA_normal ?_
    | refine thenA_exit ?_
    | refine thenA_ret ?_
    | refine inB_normal ?_
    | refine inB_ret ?_
    | refine inB_here ?_
    | (refine inB_past ?_ ?_; (· exact rfl))
    | refine Holds.reg ?_
    | refine Holds.block ?_
    | refine GS.nil ?_
    | (refine GS.step (s' := ?_) ?_ ?_ ?_; rotate_left; (· exact rfl); (· (simp [go_sem, List.take_of_length_le] <;> with_reducible rfl)))
    | (refine GS.skip ?_ ?_ ?_; (· exact rfl); (· exact rfl))
    | fail
  cases hgw : (goodG g && wordV g.2.1 w) with
  | false =>
    rw [hgw] at c0
    refine GS.cc (c0) rfl rfl rfl rfl (by simp [go_sem, List.take_of_length_le, grammarC] <;> with_reducible rfl) rfl (by simp [go_sem, List.take_of_length_le, grammarC]) ?_
    repeat' first
      | (refine Holds.condT ?_ ?_; (· (simp [go_sem, List.take_of_length_le] <;> with_reducible rfl)))
      | (refine Holds.condF ?_ ?_; (· (simp [go_sem, List.take_of_length_le] <;> with_reducible rfl)))
      | refine Holds.seq ?_
      | refine Holds.skip ?_
      | refine Holds.exit ?_
      | refine Holds.ret ?_
      | refine thenA_normal ?_
      | refine thenA_exit ?_
      | refine thenA_ret ?_
      | refine inB_normal ?_
      | refine inB_ret ?_
      | refine inB_here ?_
      | (refine inB_past ?_ ?_; (· exact rfl))
      | refine Holds.reg ?_
      | refine Holds.block ?_
      | refine GS.nil ?_
      | (refine GS.step (s' := ?_) ?_ ?_ ?_; rotate_left; (· exact rfl); (· (simp [go_sem, List.take_of_length_le] <;> with_reducible rfl)))
      | (refine GS.skip ?_ ?_ ?_; (· exact rfl); (· exact rfl))
      | fail
    refine Out.mk (xs := ?_) ?_ ?_ (by first | exact .inr rfl | exact .inl rfl)
    rotate_left
    · simp [go_sem, List.take_of_length_le] <;> with_reducible rfl
    exact Fz.cl rfl
  | true =>
  rw [hgw] at c0
  simp only [if_true]
  refine GS.cc (c0) rfl rfl rfl rfl (by simp [go_sem, List.take_of_length_le, grammarC] <;> with_reducible rfl) rfl (by simp [go_sem, List.take_of_length_le, grammarC]) ?_
  simp only [Bool.and_eq_true] at hgw
  have hg := goodG_ok hgw.1
  obtain ⟨hn, hwk⟩ := word_facts (by have := hg.t1; omega) hgw.2
  obtain ⟨N, hN⟩ : ∃ N : Nat, (N : Int) = g.1 := ⟨g.1.toNat, Int.toNat_of_nonneg (by have := hg.n0; omega)⟩
  have hNt : g.1.toNat = N := by omega
  rw [hNt]
  generalize hw : w.length = n at hn ⊢
  have hcl : (List.replicate g.2.2.length (1 : Int)).length = g.2.2.length := by simp
  have hck : ∀ c ∈ List.replicate g.2.2.length (1 : Int), 1 ≤ c ∧ c ≤ 100 := fun c hc => by rw [(List.mem_replicate.1 hc).2]; omega
  have hN6 : N ≤ 6 := by have := hg.n1; omega
  have hQ := rulesQ_ok hg hcl hck hN
  obtain ⟨g1, gt, gr⟩ := g
  dsimp only at hN hg hcl hck hQ hgw hwk ⊢
  subst hN
  have hN0 := hg.n0
  dsimp only at hN0
  obtain ⟨n1, hn1⟩ : ∃ n1, n1 = n + 1 := ⟨_, rfl⟩
  have hm1 : wr64 ((w.length : Int) + 1) = (n1 : Int) := by rw [hw, hn1]; exact wr64_id (by omega) (by omega)
  have hm0 : wr64 ((n : Int) + 1) = (n1 : Int) := by rw [hn1]; exact wr64_id (by omega) (by omega)
  obtain ⟨p, hp⟩ : ∃ p, p = n1 * n1 := ⟨_, rfl⟩
  have hp100 : p ≤ 121 := by rw [hp]; have : n1 * n1 ≤ 11 * 11 := Nat.mul_le_mul (by omega) (by omega); omega
  have hm2 : wr64 ((n1 : Int) * (n1 : Int)) = (p : Int) := by rw [show (n1 : Int) * (n1 : Int) = (p : Int) by rw [hp]; simp]; exact wr64_id (by omega) (by omega)
  have hF : (intssO (tabF n1 N noO)).length = N := by rw [intssO_len, tabF_len]
  try rw [← hn1]
  repeat' first
    | (refine Holds.condT ?_ ?_; (· (simp [go_sem, List.take_of_length_le, grammarC, hw, hm0, hm1, (show (0:Int) ≤ (N : Int) by omega), (show (24:Int) * N ≤ 281474976710656 by omega), (show (N : Int) ≤ 281474976710656 by omega)] <;> with_reducible rfl)))
    | (refine Holds.condF ?_ ?_; (· (simp [go_sem, List.take_of_length_le, grammarC, hw, hm0, hm1, (show (0:Int) ≤ (N : Int) by omega), (show (24:Int) * N ≤ 281474976710656 by omega), (show (N : Int) ≤ 281474976710656 by omega)] <;> with_reducible rfl)))
    | refine Holds.seq ?_
    | refine Holds.skip ?_
    | refine Holds.exit ?_
    | refine Holds.ret ?_
    | refine thenA_normal ?_
    | refine thenA_exit ?_
    | refine thenA_ret ?_
    | refine inB_normal ?_
    | refine inB_ret ?_
    | refine inB_here ?_
    | (refine inB_past ?_ ?_; (· exact rfl))
    | refine Holds.reg ?_
    | refine Holds.block ?_
    | refine GS.nil ?_
    | (refine GS.step (s' := ?_) ?_ ?_ ?_; rotate_left; (· exact rfl); (· (simp [go_sem, List.take_of_length_le, grammarC, hw, hm0, hm1, (show (0:Int) ≤ (N : Int) by omega), (show (24:Int) * N ≤ 281474976710656 by omega), (show (N : Int) ≤ 281474976710656 by omega)] <;> with_reducible rfl)))
    | (refine GS.skip ?_ ?_ ?_; (· exact rfl); (· exact rfl))
    | fail
  refine Holds.loop (ι := Nat) (fun k => ⟨[(1, .im 1 (ints w)), (2, .pb 0 3 0 0), (6, .v (.int .i64 n1)), (7, .own 1 1 0 N), (28, .v (.int .i64 k)), (27, .v (.int .i64 N))], [(1, ⟨25, 1, half (intssO (tabF n1 N noO)) [.v (.slice none 0 0)] k⟩), (0, ⟨31, 3, [grammarC ((N : Int), gt, gr)]⟩)], 2⟩) (fun k => k ≤ N) (fun k => N - k) 0 (Nat.zero_le _) ?_ ?_
  · have hnf0 : nfr (List.replicate N ([.v (.slice none 0 0)] : List AV)) := .rep (by simp [nf])
    have hh : half (intssO (tabF n1 N noO)) [.v (.slice none 0 0)] 0 = List.replicate N [.v (.slice none 0 0)] := by rw [← half_zero, hF]
    exact Cov.ofn (id) rfl (by simp [go_sem, List.take_of_length_le, ren, ren1, okr, okr1, ChkT, ChkN, BlkN, nf, grammarC, hnf0, hh, hw]) (by simp [go_sem, List.take_of_length_le, ren, ren1, okr, okr1, ChkT, ChkN, BlkN, nf, grammarC, hnf0, hh, hw])
  intro k hk
  have stepk : wr64 ((k : Int) + 1) = ((k + 1 : Nat) : Int) := wr64_id (by omega) (by omega)
  repeat' first
    | (refine Holds.condT ?_ ?_; (· (simp [go_sem, List.take_of_length_le] <;> with_reducible rfl)))
    | (refine Holds.condF ?_ ?_; (· (simp [go_sem, List.take_of_length_le] <;> with_reducible rfl)))
    | refine Holds.seq ?_
    | refine Holds.skip ?_
    | refine Holds.exit ?_
    | refine Holds.ret ?_
    | refine thenA_normal ?_
    | refine thenA_exit ?_
    | refine thenA_ret ?_
    | refine inB_normal ?_
    | refine inB_ret ?_
    | refine inB_here ?_
    | (refine inB_past ?_ ?_; (· exact rfl))
    | refine Holds.reg ?_
    | refine Holds.block ?_
    | refine GS.nil ?_
    | (refine GS.step (s' := ?_) ?_ ?_ ?_; rotate_left; (· exact rfl); (· (simp [go_sem, List.take_of_length_le] <;> with_reducible rfl)))
    | (refine GS.skip ?_ ?_ ?_; (· exact rfl); (· exact rfl))
    | fail
  refine Holds.cond rfl (fun h => ?_) (fun h => ?_)
  · have hlt : k < N := by simp at h; omega
    have hhi := half_get (intssO (tabF n1 N noO)) [.v (.slice none 0 0)] k (by rw [hF]; exact hlt)
    have hrow : (tabF n1 N noO)[k]? = some (List.replicate p 0) := by rw [tabF_none, List.getElem?_replicate, if_pos hlt, hp]
    have hhs := half_set (intssO (tabF n1 N noO)) [.v (.slice none 0 0)] k (by rw [hF]; exact hlt) (intsO1 (List.replicate p 0)) (by rw [intssO_get, hrow]; rfl)
    have hnf : nfr (half (intssO (tabF n1 N noO)) [.v (.slice none 0 0)] k) := nfr_half (by simp) (by simp [nf])
    have hnf1 : nfr (half (intssO (tabF n1 N noO)) [.v (.slice none 0 0)] (k + 1)) := nfr_half (by simp) (by simp [nf])
    simp only [intsO1] at hhs
    repeat' first
      | (refine Holds.condT ?_ ?_; (· (simp [go_sem, List.take_of_length_le, hm2, hlt, hhi, get_E hhi, (show (0:Int) ≤ (p : Int) by omega), (show (8:Int) * p ≤ 281474976710656 by omega), (show (p : Int) ≤ 281474976710656 by omega)] <;> with_reducible rfl)))
      | (refine Holds.condF ?_ ?_; (· (simp [go_sem, List.take_of_length_le, hm2, hlt, hhi, get_E hhi, (show (0:Int) ≤ (p : Int) by omega), (show (8:Int) * p ≤ 281474976710656 by omega), (show (p : Int) ≤ 281474976710656 by omega)] <;> with_reducible rfl)))
      | refine Holds.seq ?_
      | refine Holds.skip ?_
      | refine Holds.exit ?_
      | refine Holds.ret ?_
      | refine thenA_normal ?_
      | refine thenA_exit ?_
      | refine thenA_ret ?_
      | refine inB_normal ?_
      | refine inB_ret ?_
      | refine inB_here ?_
      | (refine inB_past ?_ ?_; (· exact rfl))
      | refine Holds.reg ?_
      | refine Holds.block ?_
      | refine GS.nil ?_
      | (refine GS.step (s' := ?_) ?_ ?_ ?_; rotate_left; (· exact rfl); (· (simp [go_sem, List.take_of_length_le, hm2, hlt, hhi, get_E hhi, (show (0:Int) ≤ (p : Int) by omega), (show (8:Int) * p ≤ 281474976710656 by omega), (show (p : Int) ≤ 281474976710656 by omega)] <;> with_reducible rfl)))
      | (refine GS.skip ?_ ?_ ?_; (· exact rfl); (· exact rfl))
      | fail
    refine ⟨k + 1, by omega, by omega, ?_⟩
    rw [stepk]
    refine Cov.trans ?_ (Cov.close 1 k 0 rfl (set_get hhi) rfl rfl rfl rfl (by first | rfl | simp) (by simp))
    simp only [rm, st, List.set_set, List.set_cons_zero, List.set_cons_succ]
    exact Cov.ofn (id) rfl (by simp [go_sem, List.take_of_length_le, ren, ren1, okr, okr1, ChkT, ChkN, BlkN, nf, hhs, hnf, hnf1, grammarC]) (by simp [go_sem, List.take_of_length_le, ren, ren1, okr, okr1, ChkT, ChkN, BlkN, nf, hhs, hnf, hnf1, grammarC])
  · have hlt : N = k := by simp at h; omega
    subst hlt
    rw [show half (intssO (tabF n1 N noO)) [.v (.slice none 0 0)] N = intssO (tabF n1 N noO) by have := half_all (intssO (tabF n1 N noO)) ([.v (.slice none 0 0)] : List AV); rwa [hF] at this]
    repeat' first
      | (refine Holds.condT ?_ ?_; (· (simp [go_sem, List.take_of_length_le] <;> with_reducible rfl)))
      | (refine Holds.condF ?_ ?_; (· (simp [go_sem, List.take_of_length_le] <;> with_reducible rfl)))
      | refine Holds.seq ?_
      | refine Holds.skip ?_
      | refine Holds.exit ?_
      | refine Holds.ret ?_
      | refine thenA_normal ?_
      | refine thenA_exit ?_
      | refine thenA_ret ?_
      | refine inB_normal ?_
      | refine inB_ret ?_
      | refine inB_here ?_
      | (refine inB_past ?_ ?_; (· exact rfl))
      | refine Holds.reg ?_
      | refine Holds.block ?_
      | refine GS.nil ?_
      | (refine GS.step (s' := ?_) ?_ ?_ ?_; rotate_left; (· exact rfl); (· (simp [go_sem, List.take_of_length_le] <;> with_reducible rfl)))
      | (refine GS.skip ?_ ?_ ?_; (· exact rfl); (· exact rfl))
      | fail
    generalize hE : endO N n w (rulesQ ((N : Int), gt, gr) (List.replicate gr.length 1)) noO = E
    refine Holds.loop (ι := Tab × Bool) (fun s => ⟨[(1, .im 1 (ints w)), (2, .pb 0 3 0 0), (6, .v (.int .i64 n1)), (7, .own 1 1 0 N), (9, .v (.bool s.2))], [(1, ⟨25, 1, intssO (tabF n1 N s.1)⟩), (0, ⟨31, 3, [grammarC ((N : Int), gt, gr)]⟩)], 2⟩)
      (fun s => GoodT N s.1 ∧ (if s.2 = true then endO N n w (rulesQ ((N : Int), gt, gr) (List.replicate gr.length 1)) s.1 else s.1) = E) (fun s => 2 * muO 70000000 N n s.1 + (if s.2 = true then 1 else 0)) (noO, true) ⟨noO_good N, by dsimp only; rw [if_pos rfl]; exact hE⟩ ?_ ?_
    · exact Cov.ofn (id) rfl (by simp [go_sem, List.take_of_length_le, ren, ren1, okr, okr1, ChkT, ChkN, BlkN, nf, grammarC]) (by simp [go_sem, List.take_of_length_le, ren, ren1, okr, okr1, ChkT, ChkN, BlkN, nf, grammarC])
    rintro ⟨T, b⟩ ⟨hT, hend⟩
    dsimp only at hT hend ⊢
    cases b with
    | false =>
      rw [if_neg (by decide)] at hend
      subst hend
      have h0 : (tabF n1 N T)[0]? = some (rowF n1 T 0) := tabF_get T (by omega)
      have h1 : (rowF n1 T 0)[n]? = some (sV (T 0 0 n)) := by have := rowF_get T 0 (n := n1) (i := 0) (j := n) (by omega) (by omega); rwa [Nat.zero_mul, Nat.zero_add] at this
      have h0' : (intssO (tabF n1 N T))[0]? = some [.ow 3 1 (ints (rowF n1 T 0))] := by rw [intssO_get, h0]; rfl
      have h1' : (ints (rowF n1 T 0))[n]? = some [.v (.int .i64 (sV (T 0 0 n)))] := by rw [ints_get, h1]; rfl
      have hlr := (List.getElem?_eq_some_iff.1 h1).1
      generalize hv : sV (T 0 0 n) = v at h1 h1'
      have c9 := l1In v 1 40
      cases hi : inR v 1 40 with
      | false =>
        rw [hi] at c9
        repeat' first
          | (refine Holds.condT ?_ ?_; (· (simp [go_sem, List.take_of_length_le, h0', get_E h0', h1', get_E h1', h1, get_E h1, hw, hlr, tabF_len, hN0, (show 0 < N by omega)] <;> with_reducible rfl)))
          | (refine Holds.condF ?_ ?_; (· (simp [go_sem, List.take_of_length_le, h0', get_E h0', h1', get_E h1', h1, get_E h1, hw, hlr, tabF_len, hN0, (show 0 < N by omega)] <;> with_reducible rfl)))
          | refine Holds.seq ?_
          | refine Holds.skip ?_
          | refine Holds.exit ?_
          | refine Holds.ret ?_
          | refine thenA_normal ?_
          | refine thenA_exit ?_
          | refine thenA_ret ?_
          | refine inB_normal ?_
          | refine inB_ret ?_
          | refine inB_here ?_
          | (refine inB_past ?_ ?_; (· exact rfl))
          | refine Holds.reg ?_
          | refine Holds.block ?_
          | refine GS.nil ?_
          | (refine GS.step (s' := ?_) ?_ ?_ ?_; rotate_left; (· exact rfl); (· (simp [go_sem, List.take_of_length_le, h0', get_E h0', h1', get_E h1', h1, get_E h1, hw, hlr, tabF_len, hN0, (show 0 < N by omega)] <;> with_reducible rfl)))
          | (refine GS.skip ?_ ?_ ?_; (· exact rfl); (· exact rfl))
          | fail
        refine GS.cc (c9) rfl rfl rfl rfl (by simp [go_sem, List.take_of_length_le] <;> with_reducible rfl) rfl (by simp [go_sem, List.take_of_length_le]) ?_
        repeat' first
          | (refine Holds.condT ?_ ?_; (· (simp [go_sem, List.take_of_length_le] <;> with_reducible rfl)))
          | (refine Holds.condF ?_ ?_; (· (simp [go_sem, List.take_of_length_le] <;> with_reducible rfl)))
          | refine Holds.seq ?_
          | refine Holds.skip ?_
          | refine Holds.exit ?_
          | refine Holds.ret ?_
          | refine thenA_normal ?_
          | refine thenA_exit ?_
          | refine thenA_ret ?_
          | refine inB_normal ?_
          | refine inB_ret ?_
          | refine inB_here ?_
          | (refine inB_past ?_ ?_; (· exact rfl))
          | refine Holds.reg ?_
          | refine Holds.block ?_
          | refine GS.nil ?_
          | (refine GS.step (s' := ?_) ?_ ?_ ?_; rotate_left; (· exact rfl); (· (simp [go_sem, List.take_of_length_le] <;> with_reducible rfl)))
          | (refine GS.skip ?_ ?_ ?_; (· exact rfl); (· exact rfl))
          | fail
        refine Out.mk (xs := ?_) ?_ ?_ (by first | exact .inr rfl | exact .inl rfl)
        rotate_left
        · simp [go_sem, List.take_of_length_le] <;> with_reducible rfl
        exact Fz.cl rfl
      | true =>
        rw [hi] at c9
        repeat' first
          | (refine Holds.condT ?_ ?_; (· (simp [go_sem, List.take_of_length_le, h0', get_E h0', h1', get_E h1', h1, get_E h1, hw, hlr, tabF_len, hN0, (show 0 < N by omega)] <;> with_reducible rfl)))
          | (refine Holds.condF ?_ ?_; (· (simp [go_sem, List.take_of_length_le, h0', get_E h0', h1', get_E h1', h1, get_E h1, hw, hlr, tabF_len, hN0, (show 0 < N by omega)] <;> with_reducible rfl)))
          | refine Holds.seq ?_
          | refine Holds.skip ?_
          | refine Holds.exit ?_
          | refine Holds.ret ?_
          | refine thenA_normal ?_
          | refine thenA_exit ?_
          | refine thenA_ret ?_
          | refine inB_normal ?_
          | refine inB_ret ?_
          | refine inB_here ?_
          | (refine inB_past ?_ ?_; (· exact rfl))
          | refine Holds.reg ?_
          | refine Holds.block ?_
          | refine GS.nil ?_
          | (refine GS.step (s' := ?_) ?_ ?_ ?_; rotate_left; (· exact rfl); (· (simp [go_sem, List.take_of_length_le, h0', get_E h0', h1', get_E h1', h1, get_E h1, hw, hlr, tabF_len, hN0, (show 0 < N by omega)] <;> with_reducible rfl)))
          | (refine GS.skip ?_ ?_ ?_; (· exact rfl); (· exact rfl))
          | fail
        refine GS.cc (c9) rfl rfl rfl rfl (by simp [go_sem, List.take_of_length_le] <;> with_reducible rfl) rfl (by simp [go_sem, List.take_of_length_le]) ?_
        repeat' first
          | (refine Holds.condT ?_ ?_; (· (simp [go_sem, List.take_of_length_le] <;> with_reducible rfl)))
          | (refine Holds.condF ?_ ?_; (· (simp [go_sem, List.take_of_length_le] <;> with_reducible rfl)))
          | refine Holds.seq ?_
          | refine Holds.skip ?_
          | refine Holds.exit ?_
          | refine Holds.ret ?_
          | refine thenA_normal ?_
          | refine thenA_exit ?_
          | refine thenA_ret ?_
          | refine inB_normal ?_
          | refine inB_ret ?_
          | refine inB_here ?_
          | (refine inB_past ?_ ?_; (· exact rfl))
          | refine Holds.reg ?_
          | refine Holds.block ?_
          | refine GS.nil ?_
          | (refine GS.step (s' := ?_) ?_ ?_ ?_; rotate_left; (· exact rfl); (· (simp [go_sem, List.take_of_length_le] <;> with_reducible rfl)))
          | (refine GS.skip ?_ ?_ ?_; (· exact rfl); (· exact rfl))
          | fail
        refine Out.mk (xs := ?_) ?_ ?_ (by first | exact .inr rfl | exact .inl rfl)
        rotate_left
        · simp [go_sem, List.take_of_length_le] <;> with_reducible rfl
        exact Fz.cl rfl
    | true =>
      rw [if_pos rfl, endO_step hN6 hn hQ hT] at hend
      rw [← hn1] at hend
      repeat' first
        | (refine Holds.condT ?_ ?_; (· (simp [go_sem, List.take_of_length_le, grammarC] <;> with_reducible rfl)))
        | (refine Holds.condF ?_ ?_; (· (simp [go_sem, List.take_of_length_le, grammarC] <;> with_reducible rfl)))
        | refine Holds.seq ?_
        | refine Holds.skip ?_
        | refine Holds.exit ?_
        | refine Holds.ret ?_
        | refine thenA_normal ?_
        | refine thenA_exit ?_
        | refine thenA_ret ?_
        | refine inB_normal ?_
        | refine inB_ret ?_
        | refine inB_here ?_
        | (refine inB_past ?_ ?_; (· exact rfl))
        | refine Holds.reg ?_
        | refine Holds.block ?_
        | refine GS.nil ?_
        | (refine GS.step (s' := ?_) ?_ ?_ ?_; rotate_left; (· exact rfl); (· (simp [go_sem, List.take_of_length_le, grammarC] <;> with_reducible rfl)))
        | (refine GS.skip ?_ ?_ ?_; (· exact rfl); (· exact rfl))
        | fail
      refine Holds.loop (ι := Nat × (Tab × Bool)) (fun s => ⟨[(1, .im 1 (ints w)), (2, .pb 0 3 0 0), (6, .v (.int .i64 n1)), (7, .own 1 1 0 N), (9, .v (.bool s.2.2)), (41, .im 2 (rules gr)), (42, .v (.int .i64 gr.length)), (43, .v (.int .i64 s.1))], [(1, ⟨25, 1, intssO (tabF n1 N s.2.1)⟩), (0, ⟨31, 3, [grammarC ((N : Int), gt, gr)]⟩)], 2⟩)
        (fun s => s.1 ≤ gr.length ∧ Swp N n (muO 70000000 N n T) s.2 ∧ ((rulesQ ((N : Int), gt, gr) (List.replicate gr.length 1)).drop s.1).foldl (fun s q => swI w n1 q s) s.2 = swQ w n1 (rulesQ ((N : Int), gt, gr) (List.replicate gr.length 1)) (T, false)) (fun s => gr.length - s.1) (0, (T, false)) ⟨Nat.zero_le _, hT.swp, rfl⟩ ?_ ?_
      · exact Cov.ofn (id) rfl (by simp [go_sem, List.take_of_length_le, ren, ren1, okr, okr1, ChkT, ChkN, BlkN, nf, grammarC]) (by simp [go_sem, List.take_of_length_le, ren, ren1, okr, okr1, ChkT, ChkN, BlkN, nf, grammarC])
      rintro ⟨k, s⟩ ⟨hk, hsw, hfold⟩
      dsimp only at hk hsw hfold ⊢
      have hgl := hg.len
      dsimp only at hgl
      have stepk : wr64 ((k : Int) + 1) = ((k + 1 : Nat) : Int) := wr64_id (by omega) (by omega)
      repeat' first
        | (refine Holds.condT ?_ ?_; (· (simp [go_sem, List.take_of_length_le, grammarC] <;> with_reducible rfl)))
        | (refine Holds.condF ?_ ?_; (· (simp [go_sem, List.take_of_length_le, grammarC] <;> with_reducible rfl)))
        | refine Holds.seq ?_
        | refine Holds.skip ?_
        | refine Holds.exit ?_
        | refine Holds.ret ?_
        | refine thenA_normal ?_
        | refine thenA_exit ?_
        | refine thenA_ret ?_
        | refine inB_normal ?_
        | refine inB_ret ?_
        | refine inB_here ?_
        | (refine inB_past ?_ ?_; (· exact rfl))
        | refine Holds.reg ?_
        | refine Holds.block ?_
        | refine GS.nil ?_
        | (refine GS.step (s' := ?_) ?_ ?_ ?_; rotate_left; (· exact rfl); (· (simp [go_sem, List.take_of_length_le, grammarC] <;> with_reducible rfl)))
        | (refine GS.skip ?_ ?_ ?_; (· exact rfl); (· exact rfl))
        | fail
      refine Holds.cond rfl (fun h => ?_) (fun h => ?_)
      · have hkl : k < gr.length := by simp at h; omega
        obtain ⟨ln, right, cn, hr, hc, hq, hqk, hsym⟩ := rulesQ_at hg hcl hck rfl hkl
        dsimp only at hr
        have hcn : cn = 1 := by
          rw [List.getElem?_replicate, if_pos hkl] at hc
          have := Option.some.inj hc
          omega
        subst hcn
        have hql : k < (rulesQ ((N : Int), gt, gr) (List.replicate gr.length 1)).length := by rw [rulesQ_len _ _ hcl]; exact hkl
        rw [List.drop_eq_getElem_cons hql, List.foldl_cons, (Option.some.inj ((List.getElem?_eq_getElem hql).symm.trans hq))] at hfold
        repeat' first
          | (refine Holds.condT ?_ ?_; (· (simp [go_sem, List.take_of_length_le, hr, ruleC] <;> with_reducible rfl)))
          | (refine Holds.condF ?_ ?_; (· (simp [go_sem, List.take_of_length_le, hr, ruleC] <;> with_reducible rfl)))
          | refine Holds.seq ?_
          | refine Holds.skip ?_
          | refine Holds.exit ?_
          | refine Holds.ret ?_
          | refine thenA_normal ?_
          | refine thenA_exit ?_
          | refine thenA_ret ?_
          | refine inB_normal ?_
          | refine inB_ret ?_
          | refine inB_here ?_
          | (refine inB_past ?_ ?_; (· exact rfl))
          | refine Holds.reg ?_
          | refine Holds.block ?_
          | refine GS.nil ?_
          | (refine GS.step (s' := ?_) ?_ ?_ ?_; rotate_left; (· exact rfl); (· (simp [go_sem, List.take_of_length_le, hr, ruleC] <;> with_reducible rfl)))
          | (refine GS.skip ?_ ?_ ?_; (· exact rfl); (· exact rfl))
          | fail
        refine Holds.loop (ι := Nat × (Tab × Bool)) (fun s => ⟨[(1, .im 1 (ints w)), (2, .pb 0 3 0 0), (6, .v (.int .i64 n1)), (7, .own 1 1 0 N), (9, .v (.bool s.2.2)), (11, .pb 2 2 0 0), (12, .v (.int .i64 s.1)), (41, .im 2 (rules gr)), (42, .v (.int .i64 gr.length)), (43, .v (.int .i64 k))], (2, ⟨68, 2, [[.v (.int .i64 ln), .im 1 (ints right)]]⟩) :: [(1, ⟨25, 1, intssO (tabF n1 N s.2.1)⟩), (0, ⟨31, 3, [grammarC ((N : Int), gt, gr)]⟩)], 3⟩)
          (fun u => u.1 ≤ n1 ∧ Swp N n (muO 70000000 N n T) u.2 ∧ (List.range' u.1 (n1 - u.1)).foldl (fun s i => swJ w n1 (ln, right, 1) i s) u.2 = swI w n1 (ln, right, 1) s) (fun u => n1 - u.1) (0, s) ⟨Nat.zero_le _, hsw, rfl⟩ ?_ ?_
        · exact Cov.ofn (id) rfl (by simp [go_sem, List.take_of_length_le, ren, ren1, okr, okr1, ChkT, ChkN, BlkN, nf, grammarC]) (by simp [go_sem, List.take_of_length_le, ren, ren1, okr, okr1, ChkT, ChkN, BlkN, nf, grammarC])
        rintro ⟨i, s1⟩ ⟨hi, hsw1, hfold1⟩
        dsimp only at hi hsw1 hfold1 ⊢
        have stepi : wr64 ((i : Int) + 1) = ((i + 1 : Nat) : Int) := wr64_id (by omega) (by omega)
        repeat' first
          | (refine Holds.condT ?_ ?_; (· (simp [go_sem, List.take_of_length_le] <;> with_reducible rfl)))
          | (refine Holds.condF ?_ ?_; (· (simp [go_sem, List.take_of_length_le] <;> with_reducible rfl)))
          | refine Holds.seq ?_
          | refine Holds.skip ?_
          | refine Holds.exit ?_
          | refine Holds.ret ?_
          | refine thenA_normal ?_
          | refine thenA_exit ?_
          | refine thenA_ret ?_
          | refine inB_normal ?_
          | refine inB_ret ?_
          | refine inB_here ?_
          | (refine inB_past ?_ ?_; (· exact rfl))
          | refine Holds.reg ?_
          | refine Holds.block ?_
          | refine GS.nil ?_
          | (refine GS.step (s' := ?_) ?_ ?_ ?_; rotate_left; (· exact rfl); (· (simp [go_sem, List.take_of_length_le] <;> with_reducible rfl)))
          | (refine GS.skip ?_ ?_ ?_; (· exact rfl); (· exact rfl))
          | fail
        refine Holds.cond rfl (fun h => ?_) (fun h => ?_)
        · have hil : i < n1 := by simp at h; omega
          rw [range'_next hil, List.foldl_cons] at hfold1
          repeat' first
            | (refine Holds.condT ?_ ?_; (· (simp [go_sem, List.take_of_length_le] <;> with_reducible rfl)))
            | (refine Holds.condF ?_ ?_; (· (simp [go_sem, List.take_of_length_le] <;> with_reducible rfl)))
            | refine Holds.seq ?_
            | refine Holds.skip ?_
            | refine Holds.exit ?_
            | refine Holds.ret ?_
            | refine thenA_normal ?_
            | refine thenA_exit ?_
            | refine thenA_ret ?_
            | refine inB_normal ?_
            | refine inB_ret ?_
            | refine inB_here ?_
            | (refine inB_past ?_ ?_; (· exact rfl))
            | refine Holds.reg ?_
            | refine Holds.block ?_
            | refine GS.nil ?_
            | (refine GS.step (s' := ?_) ?_ ?_ ?_; rotate_left; (· exact rfl); (· (simp [go_sem, List.take_of_length_le] <;> with_reducible rfl)))
            | (refine GS.skip ?_ ?_ ?_; (· exact rfl); (· exact rfl))
            | fail
          refine Holds.loop (ι := Nat × (Tab × Bool)) (fun s => ⟨[(1, .im 1 (ints w)), (2, .pb 0 3 0 0), (6, .v (.int .i64 n1)), (7, .own 1 1 0 N), (9, .v (.bool s.2.2)), (11, .pb 2 2 0 0), (12, .v (.int .i64 i)), (13, .v (.int .i64 s.1)), (41, .im 2 (rules gr)), (42, .v (.int .i64 gr.length)), (43, .v (.int .i64 k))], (2, ⟨68, 2, [[.v (.int .i64 ln), .im 1 (ints right)]]⟩) :: [(1, ⟨25, 1, intssO (tabF n1 N s.2.1)⟩), (0, ⟨31, 3, [grammarC ((N : Int), gt, gr)]⟩)], 3⟩)
            (fun u => i ≤ u.1 ∧ u.1 ≤ n1 ∧ Swp N n (muO 70000000 N n T) u.2 ∧ (List.range' u.1 (n1 - u.1)).foldl (fun s j => st1 w (ln, right, 1) i j s) u.2 = swJ w n1 (ln, right, 1) i s1) (fun u => n1 - u.1) (i, s1) ⟨Nat.le_refl _, hi, hsw1, rfl⟩ ?_ ?_
          · exact Cov.ofn (id) rfl (by simp [go_sem, List.take_of_length_le, ren, ren1, okr, okr1, ChkT, ChkN, BlkN, nf, grammarC]) (by simp [go_sem, List.take_of_length_le, ren, ren1, okr, okr1, ChkT, ChkN, BlkN, nf, grammarC])
          rintro ⟨j, s2⟩ ⟨hij, hj, hsw2, hfold2⟩
          dsimp only at hij hj hsw2 hfold2 ⊢
          have stepj : wr64 ((j : Int) + 1) = ((j + 1 : Nat) : Int) := wr64_id (by omega) (by omega)
          repeat' first
            | (refine Holds.condT ?_ ?_; (· (simp [go_sem, List.take_of_length_le] <;> with_reducible rfl)))
            | (refine Holds.condF ?_ ?_; (· (simp [go_sem, List.take_of_length_le] <;> with_reducible rfl)))
            | refine Holds.seq ?_
            | refine Holds.skip ?_
            | refine Holds.exit ?_
            | refine Holds.ret ?_
            | refine thenA_normal ?_
            | refine thenA_exit ?_
            | refine thenA_ret ?_
            | refine inB_normal ?_
            | refine inB_ret ?_
            | refine inB_here ?_
            | (refine inB_past ?_ ?_; (· exact rfl))
            | refine Holds.reg ?_
            | refine Holds.block ?_
            | refine GS.nil ?_
            | (refine GS.step (s' := ?_) ?_ ?_ ?_; rotate_left; (· exact rfl); (· (simp [go_sem, List.take_of_length_le] <;> with_reducible rfl)))
            | (refine GS.skip ?_ ?_ ?_; (· exact rfl); (· exact rfl))
            | fail
          refine Holds.cond rfl (fun h => ?_) (fun h => ?_)
          · have hjl : j < n1 := by simp at h; omega
            rw [range'_next hjl, List.foldl_cons] at hfold2
            have hnext := hsw2.st1 (w := w) hN6 hn hqk hij (by omega)
            obtain ⟨T2, b2⟩ := s2
            have hG := hsw2.good
            dsimp only at hG
            have c1 := l10Best hG hN6 w hw hn hwk right hqk.2.1 hsym i j hij (by omega)
            rw [← hn1] at c1
            have hlN : ln < N := hqk.1
            have htx : (tabF n1 N T2)[ln]? = some (rowF n1 T2 ln) := tabF_get T2 hlN
            have htx' : (intssO (tabF n1 N T2))[ln]? = some [.ow 3 1 (ints (rowF n1 T2 ln))] := by rw [intssO_get, htx]; rfl
            obtain ⟨q, hqq⟩ : ∃ q, q = i * n1 + j := ⟨_, rfl⟩
            obtain ⟨q0, hq0⟩ : ∃ q0, q0 = i * n1 := ⟨_, rfl⟩
            have hq0l : q0 ≤ 121 := by rw [hq0]; have : i * n1 ≤ 11 * 11 := Nat.mul_le_mul (by omega) (by omega); omega
            have hm3 : wr64 ((i : Int) * (n1 : Int)) = (q0 : Int) := by rw [show (i : Int) * (n1 : Int) = (q0 : Int) by rw [hq0]; simp]; exact wr64_id (by omega) (by omega)
            have hm4 : wr64 ((q0 : Int) + (j : Int)) = (q : Int) := by rw [show (q0 : Int) + (j : Int) = (q : Int) by rw [hqq, hq0]; simp]; exact wr64_id (by omega) (by omega)
            have hrx : (rowF n1 T2 ln)[q]? = some (sV (T2 ln i j)) := by rw [hqq]; exact rowF_get T2 ln hil hjl
            have hql2 := (List.getElem?_eq_some_iff.1 hrx).1
            have htop := rowO_top (w := w) hG hN6 right i j
            have hr4 := hqk.2.1
            have hc1 := hqk.2.2.1
            have hc2 := hqk.2.2.2
            dsimp only at hr4 hc1 hc2
            have hput := fun v => tabF_put (n := n1) (N := N) T2 (A := ln) (i := i) (j := j) (v := v) hlN hil hjl
            rw [← hqq] at hput
            have hself : (tabF n1 N T2).set ln (rowF n1 T2 ln) = tabF n1 N T2 := set_selfE htx
            cases hR : rowO T2 w right i j with
            | none =>
              have hst : st1 w (ln, right, 1) i j (T2, b2) = (T2, b2) := by simp only [st1, hR]
              rw [hst] at hnext hfold2
              rw [hR, encO_none] at c1
              repeat' first
                | (refine Holds.condT ?_ ?_; (· (simp [go_sem, List.take_of_length_le] <;> with_reducible rfl)))
                | (refine Holds.condF ?_ ?_; (· (simp [go_sem, List.take_of_length_le] <;> with_reducible rfl)))
                | refine Holds.seq ?_
                | refine Holds.skip ?_
                | refine Holds.exit ?_
                | refine Holds.ret ?_
                | refine thenA_normal ?_
                | refine thenA_exit ?_
                | refine thenA_ret ?_
                | refine inB_normal ?_
                | refine inB_ret ?_
                | refine inB_here ?_
                | (refine inB_past ?_ ?_; (· exact rfl))
                | refine Holds.reg ?_
                | refine Holds.block ?_
                | refine GS.nil ?_
                | (refine GS.step (s' := ?_) ?_ ?_ ?_; rotate_left; (· exact rfl); (· (simp [go_sem, List.take_of_length_le] <;> with_reducible rfl)))
                | (refine GS.skip ?_ ?_ ?_; (· exact rfl); (· exact rfl))
                | fail
              refine GS.cd (c1) rfl rfl rfl rfl (by simp [go_sem, List.take_of_length_le] <;> with_reducible rfl) rfl (by exact .cons (fz_intssO _ rfl (by rw [tabF_len])) (.cons (.im _ _) (.cons (.im _ _) (.cons (.v _) (.cons (.v _) .nil))))) rfl ?_
              repeat' first
                | (refine Holds.condT ?_ ?_; (· (simp [go_sem, List.take_of_length_le] <;> with_reducible rfl)))
                | (refine Holds.condF ?_ ?_; (· (simp [go_sem, List.take_of_length_le] <;> with_reducible rfl)))
                | refine Holds.seq ?_
                | refine Holds.skip ?_
                | refine Holds.exit ?_
                | refine Holds.ret ?_
                | refine thenA_normal ?_
                | refine thenA_exit ?_
                | refine thenA_ret ?_
                | refine inB_normal ?_
                | refine inB_ret ?_
                | refine inB_here ?_
                | (refine inB_past ?_ ?_; (· exact rfl))
                | refine Holds.reg ?_
                | refine Holds.block ?_
                | refine GS.nil ?_
                | (refine GS.step (s' := ?_) ?_ ?_ ?_; rotate_left; (· exact rfl); (· (simp [go_sem, List.take_of_length_le] <;> with_reducible rfl)))
                | (refine GS.skip ?_ ?_ ?_; (· exact rfl); (· exact rfl))
                | fail
              refine ⟨(j + 1, (T2, b2)), ⟨by dsimp only; omega, by dsimp only; omega, hnext, hfold2⟩, by dsimp only; omega, ?_⟩
              rw [stepj]
              exact Cov.ofn (id) rfl (by simp [go_sem, List.take_of_length_le, ren, ren1, okr, okr1, ChkT, ChkN, BlkN, nf, grammarC]) (by simp [go_sem, List.take_of_length_le, ren, ren1, okr, okr1, ChkT, ChkN, BlkN, nf, grammarC])
            | some v =>
              have hv := htop v (by omega) hR
              have hv1 : (0 : Int) ≤ (v : Int) := by omega
              rw [hR, encO_some] at c1
              obtain ⟨sm, hsm⟩ : ∃ sm, sm = v + 1 := ⟨_, rfl⟩
              have hws : wr64 ((v : Int) + (1 : Int)) = (sm : Int) := by rw [show (v : Int) + (1 : Int) = (sm : Int) by rw [hsm]; simp]; exact wr64_id (by omega) (by omega)
              cases hP : T2 ln i j with
              | none =>
                have hst : st1 w (ln, right, 1) i j (T2, b2) = (putO T2 ln i j (some sm), true) := by simp only [st1, hR, hP, hsm]
                rw [hst] at hnext hfold2
                rw [hP, show sV none = 0 from rfl] at hrx
                repeat' first
                  | (refine Holds.condT ?_ ?_; (· (simp [go_sem, List.take_of_length_le] <;> with_reducible rfl)))
                  | (refine Holds.condF ?_ ?_; (· (simp [go_sem, List.take_of_length_le] <;> with_reducible rfl)))
                  | refine Holds.seq ?_
                  | refine Holds.skip ?_
                  | refine Holds.exit ?_
                  | refine Holds.ret ?_
                  | refine thenA_normal ?_
                  | refine thenA_exit ?_
                  | refine thenA_ret ?_
                  | refine inB_normal ?_
                  | refine inB_ret ?_
                  | refine inB_here ?_
                  | (refine inB_past ?_ ?_; (· exact rfl))
                  | refine Holds.reg ?_
                  | refine Holds.block ?_
                  | refine GS.nil ?_
                  | (refine GS.step (s' := ?_) ?_ ?_ ?_; rotate_left; (· exact rfl); (· (simp [go_sem, List.take_of_length_le] <;> with_reducible rfl)))
                  | (refine GS.skip ?_ ?_ ?_; (· exact rfl); (· exact rfl))
                  | fail
                refine GS.cd (c1) rfl rfl rfl rfl (by simp [go_sem, List.take_of_length_le] <;> with_reducible rfl) rfl (by exact .cons (fz_intssO _ rfl (by rw [tabF_len])) (.cons (.im _ _) (.cons (.im _ _) (.cons (.v _) (.cons (.v _) .nil))))) rfl ?_
                refine GS.open 1 ln 0 rfl htx' rfl rfl ?_
                repeat' first
                  | (refine Holds.condT ?_ ?_; (· (simp [go_sem, List.take_of_length_le, hm3, hm4, hlN, get_E htx', htx', hrx, get_E hrx, hql2, hv1, hws, tabF_len] <;> with_reducible rfl)))
                  | (refine Holds.condF ?_ ?_; (· (simp [go_sem, List.take_of_length_le, hm3, hm4, hlN, get_E htx', htx', hrx, get_E hrx, hql2, hv1, hws, tabF_len] <;> with_reducible rfl)))
                  | refine Holds.seq ?_
                  | refine Holds.skip ?_
                  | refine Holds.exit ?_
                  | refine Holds.ret ?_
                  | refine thenA_normal ?_
                  | refine thenA_exit ?_
                  | refine thenA_ret ?_
                  | refine inB_normal ?_
                  | refine inB_ret ?_
                  | refine inB_here ?_
                  | (refine inB_past ?_ ?_; (· exact rfl))
                  | refine Holds.reg ?_
                  | refine Holds.block ?_
                  | refine GS.nil ?_
                  | (refine GS.step (s' := ?_) ?_ ?_ ?_; rotate_left; (· exact rfl); (· (simp [go_sem, List.take_of_length_le, hm3, hm4, hlN, get_E htx', htx', hrx, get_E hrx, hql2, hv1, hws, tabF_len] <;> with_reducible rfl)))
                  | (refine GS.skip ?_ ?_ ?_; (· exact rfl); (· exact rfl))
                  | fail
                refine ⟨(j + 1, (putO T2 ln i j (some sm), true)), ⟨by dsimp only; omega, by dsimp only; omega, hnext, hfold2⟩, by dsimp only; omega, ?_⟩
                rw [stepj]
                refine Cov.trans ?_ (Cov.close 1 ln 0 rfl (set_get htx') rfl rfl rfl rfl (by first | rfl | simp) (by simp))
                simp only [rm, st, List.set_set, List.set_cons_zero, List.set_cons_succ]
                exact Cov.ofn (id) rfl (by simp [go_sem, List.take_of_length_le, ren, ren1, okr, okr1, ChkT, ChkN, BlkN, nf, grammarC, map_intssO, hput]) (by simp [go_sem, List.take_of_length_le, ren, ren1, okr, okr1, ChkT, ChkN, BlkN, nf, grammarC, map_intssO, hput])
              | some o =>
                rw [hP, show sV (some o) = (o : Int) from rfl] at hrx
                have ho := hG.pos _ _ _ _ hP
                have ho0 : ¬ ((o : Int) = 0) := by omega
                have ho1 : ((o : Int) == 0) = false := by simpa using ho0
                have ho2 : ¬ o = 0 := by omega
                by_cases hlo : v + 1 < o
                · have hst : st1 w (ln, right, 1) i j (T2, b2) = (putO T2 ln i j (some sm), true) := by simp only [st1, hR, hP, if_pos hlo, hsm]
                  have hl2 : (sm : Int) < (o : Int) := by omega
                  have hl3 : sm < o := by omega
                  rw [hst] at hnext hfold2
                  repeat' first
                    | (refine Holds.condT ?_ ?_; (· (simp [go_sem, List.take_of_length_le] <;> with_reducible rfl)))
                    | (refine Holds.condF ?_ ?_; (· (simp [go_sem, List.take_of_length_le] <;> with_reducible rfl)))
                    | refine Holds.seq ?_
                    | refine Holds.skip ?_
                    | refine Holds.exit ?_
                    | refine Holds.ret ?_
                    | refine thenA_normal ?_
                    | refine thenA_exit ?_
                    | refine thenA_ret ?_
                    | refine inB_normal ?_
                    | refine inB_ret ?_
                    | refine inB_here ?_
                    | (refine inB_past ?_ ?_; (· exact rfl))
                    | refine Holds.reg ?_
                    | refine Holds.block ?_
                    | refine GS.nil ?_
                    | (refine GS.step (s' := ?_) ?_ ?_ ?_; rotate_left; (· exact rfl); (· (simp [go_sem, List.take_of_length_le] <;> with_reducible rfl)))
                    | (refine GS.skip ?_ ?_ ?_; (· exact rfl); (· exact rfl))
                    | fail
                  refine GS.cd (c1) rfl rfl rfl rfl (by simp [go_sem, List.take_of_length_le] <;> with_reducible rfl) rfl (by exact .cons (fz_intssO _ rfl (by rw [tabF_len])) (.cons (.im _ _) (.cons (.im _ _) (.cons (.v _) (.cons (.v _) .nil))))) rfl ?_
                  refine GS.open 1 ln 0 rfl htx' rfl rfl ?_
                  repeat' first
                    | (refine Holds.condT ?_ ?_; (· (simp [go_sem, List.take_of_length_le, hm3, hm4, hlN, get_E htx', htx', hrx, get_E hrx, hql2, hv1, hws, tabF_len, ho0, ho1, ho2, hl2, hl3] <;> with_reducible rfl)))
                    | (refine Holds.condF ?_ ?_; (· (simp [go_sem, List.take_of_length_le, hm3, hm4, hlN, get_E htx', htx', hrx, get_E hrx, hql2, hv1, hws, tabF_len, ho0, ho1, ho2, hl2, hl3] <;> with_reducible rfl)))
                    | refine Holds.seq ?_
                    | refine Holds.skip ?_
                    | refine Holds.exit ?_
                    | refine Holds.ret ?_
                    | refine thenA_normal ?_
                    | refine thenA_exit ?_
                    | refine thenA_ret ?_
                    | refine inB_normal ?_
                    | refine inB_ret ?_
                    | refine inB_here ?_
                    | (refine inB_past ?_ ?_; (· exact rfl))
                    | refine Holds.reg ?_
                    | refine Holds.block ?_
                    | refine GS.nil ?_
                    | (refine GS.step (s' := ?_) ?_ ?_ ?_; rotate_left; (· exact rfl); (· (simp [go_sem, List.take_of_length_le, hm3, hm4, hlN, get_E htx', htx', hrx, get_E hrx, hql2, hv1, hws, tabF_len, ho0, ho1, ho2, hl2, hl3] <;> with_reducible rfl)))
                    | (refine GS.skip ?_ ?_ ?_; (· exact rfl); (· exact rfl))
                    | fail
                  refine ⟨(j + 1, (putO T2 ln i j (some sm), true)), ⟨by dsimp only; omega, by dsimp only; omega, hnext, hfold2⟩, by dsimp only; omega, ?_⟩
                  rw [stepj]
                  refine Cov.trans ?_ (Cov.close 1 ln 0 rfl (set_get htx') rfl rfl rfl rfl (by first | rfl | simp) (by simp))
                  simp only [rm, st, List.set_set, List.set_cons_zero, List.set_cons_succ]
                  exact Cov.ofn (id) rfl (by simp [go_sem, List.take_of_length_le, ren, ren1, okr, okr1, ChkT, ChkN, BlkN, nf, grammarC, map_intssO, hput]) (by simp [go_sem, List.take_of_length_le, ren, ren1, okr, okr1, ChkT, ChkN, BlkN, nf, grammarC, map_intssO, hput])
                · have hst : st1 w (ln, right, 1) i j (T2, b2) = (T2, b2) := by simp only [st1, hR, hP, if_neg hlo]
                  have hl2 : ¬ (sm : Int) < (o : Int) := by omega
                  have hl3 : ¬ sm < o := by omega
                  rw [hst] at hnext hfold2
                  repeat' first
                    | (refine Holds.condT ?_ ?_; (· (simp [go_sem, List.take_of_length_le] <;> with_reducible rfl)))
                    | (refine Holds.condF ?_ ?_; (· (simp [go_sem, List.take_of_length_le] <;> with_reducible rfl)))
                    | refine Holds.seq ?_
                    | refine Holds.skip ?_
                    | refine Holds.exit ?_
                    | refine Holds.ret ?_
                    | refine thenA_normal ?_
                    | refine thenA_exit ?_
                    | refine thenA_ret ?_
                    | refine inB_normal ?_
                    | refine inB_ret ?_
                    | refine inB_here ?_
                    | (refine inB_past ?_ ?_; (· exact rfl))
                    | refine Holds.reg ?_
                    | refine Holds.block ?_
                    | refine GS.nil ?_
                    | (refine GS.step (s' := ?_) ?_ ?_ ?_; rotate_left; (· exact rfl); (· (simp [go_sem, List.take_of_length_le] <;> with_reducible rfl)))
                    | (refine GS.skip ?_ ?_ ?_; (· exact rfl); (· exact rfl))
                    | fail
                  refine GS.cd (c1) rfl rfl rfl rfl (by simp [go_sem, List.take_of_length_le] <;> with_reducible rfl) rfl (by exact .cons (fz_intssO _ rfl (by rw [tabF_len])) (.cons (.im _ _) (.cons (.im _ _) (.cons (.v _) (.cons (.v _) .nil))))) rfl ?_
                  refine GS.open 1 ln 0 rfl htx' rfl rfl ?_
                  repeat' first
                    | (refine Holds.condT ?_ ?_; (· (simp [go_sem, List.take_of_length_le, hm3, hm4, hlN, get_E htx', htx', hrx, get_E hrx, hql2, hv1, hws, tabF_len, ho0, ho1, ho2, hl2, hl3] <;> with_reducible rfl)))
                    | (refine Holds.condF ?_ ?_; (· (simp [go_sem, List.take_of_length_le, hm3, hm4, hlN, get_E htx', htx', hrx, get_E hrx, hql2, hv1, hws, tabF_len, ho0, ho1, ho2, hl2, hl3] <;> with_reducible rfl)))
                    | refine Holds.seq ?_
                    | refine Holds.skip ?_
                    | refine Holds.exit ?_
                    | refine Holds.ret ?_
                    | refine thenA_normal ?_
                    | refine thenA_exit ?_
                    | refine thenA_ret ?_
                    | refine inB_normal ?_
                    | refine inB_ret ?_
                    | refine inB_here ?_
                    | (refine inB_past ?_ ?_; (· exact rfl))
                    | refine Holds.reg ?_
                    | refine Holds.block ?_
                    | refine GS.nil ?_
                    | (refine GS.step (s' := ?_) ?_ ?_ ?_; rotate_left; (· exact rfl); (· (simp [go_sem, List.take_of_length_le, hm3, hm4, hlN, get_E htx', htx', hrx, get_E hrx, hql2, hv1, hws, tabF_len, ho0, ho1, ho2, hl2, hl3] <;> with_reducible rfl)))
                    | (refine GS.skip ?_ ?_ ?_; (· exact rfl); (· exact rfl))
                    | fail
                  refine ⟨(j + 1, (T2, b2)), ⟨by dsimp only; omega, by dsimp only; omega, hnext, hfold2⟩, by dsimp only; omega, ?_⟩
                  rw [stepj]
                  refine Cov.trans ?_ (Cov.close 1 ln 0 rfl (set_get htx') rfl rfl rfl rfl (by first | rfl | simp) (by simp))
                  simp only [rm, st, List.set_set, List.set_cons_zero, List.set_cons_succ]
                  exact Cov.ofn (id) rfl (by simp [go_sem, List.take_of_length_le, ren, ren1, okr, okr1, ChkT, ChkN, BlkN, nf, grammarC, map_intssO, hself]) (by simp [go_sem, List.take_of_length_le, ren, ren1, okr, okr1, ChkT, ChkN, BlkN, nf, grammarC, map_intssO, hself])
          · have hjl : j = n1 := by simp at h; omega
            subst hjl
            rw [range'_end, List.foldl_nil] at hfold2
            subst hfold2
            repeat' first
              | (refine Holds.condT ?_ ?_; (· (simp [go_sem, List.take_of_length_le] <;> with_reducible rfl)))
              | (refine Holds.condF ?_ ?_; (· (simp [go_sem, List.take_of_length_le] <;> with_reducible rfl)))
              | refine Holds.seq ?_
              | refine Holds.skip ?_
              | refine Holds.exit ?_
              | refine Holds.ret ?_
              | refine thenA_normal ?_
              | refine thenA_exit ?_
              | refine thenA_ret ?_
              | refine inB_normal ?_
              | refine inB_ret ?_
              | refine inB_here ?_
              | (refine inB_past ?_ ?_; (· exact rfl))
              | refine Holds.reg ?_
              | refine Holds.block ?_
              | refine GS.nil ?_
              | (refine GS.step (s' := ?_) ?_ ?_ ?_; rotate_left; (· exact rfl); (· (simp [go_sem, List.take_of_length_le] <;> with_reducible rfl)))
              | (refine GS.skip ?_ ?_ ?_; (· exact rfl); (· exact rfl))
              | fail
            refine ⟨(i + 1, swJ w j (ln, right, 1) i s1), ⟨by dsimp only; omega, hsw2, hfold1⟩, by dsimp only; omega, ?_⟩
            rw [stepi]
            exact Cov.ofn (id) rfl (by simp [go_sem, List.take_of_length_le, ren, ren1, okr, okr1, ChkT, ChkN, BlkN, nf, grammarC]) (by simp [go_sem, List.take_of_length_le, ren, ren1, okr, okr1, ChkT, ChkN, BlkN, nf, grammarC])
        · have hil : i = n1 := by simp at h; omega
          subst hil
          rw [range'_end, List.foldl_nil] at hfold1
          subst hfold1
          repeat' first
            | (refine Holds.condT ?_ ?_; (· (simp [go_sem, List.take_of_length_le] <;> with_reducible rfl)))
            | (refine Holds.condF ?_ ?_; (· (simp [go_sem, List.take_of_length_le] <;> with_reducible rfl)))
            | refine Holds.seq ?_
            | refine Holds.skip ?_
            | refine Holds.exit ?_
            | refine Holds.ret ?_
            | refine thenA_normal ?_
            | refine thenA_exit ?_
            | refine thenA_ret ?_
            | refine inB_normal ?_
            | refine inB_ret ?_
            | refine inB_here ?_
            | (refine inB_past ?_ ?_; (· exact rfl))
            | refine Holds.reg ?_
            | refine Holds.block ?_
            | refine GS.nil ?_
            | (refine GS.step (s' := ?_) ?_ ?_ ?_; rotate_left; (· exact rfl); (· (simp [go_sem, List.take_of_length_le] <;> with_reducible rfl)))
            | (refine GS.skip ?_ ?_ ?_; (· exact rfl); (· exact rfl))
            | fail
          refine ⟨(k + 1, swI w i (ln, right, 1) s), ⟨by dsimp only; omega, hsw1, hfold⟩, by dsimp only; omega, ?_⟩
          rw [stepk]
          exact Cov.ofn (id) rfl (by simp [go_sem, List.take_of_length_le, ren, ren1, okr, okr1, ChkT, ChkN, BlkN, nf, grammarC]) (by simp [go_sem, List.take_of_length_le, ren, ren1, okr, okr1, ChkT, ChkN, BlkN, nf, grammarC])
      · have hkl : k = gr.length := by simp at h; omega
        subst hkl
        rw [List.drop_eq_nil_of_le (by rw [rulesQ_len _ _ hcl]; exact Nat.le_refl _), List.foldl_nil] at hfold
        rw [← hfold] at hend
        repeat' first
          | (refine Holds.condT ?_ ?_; (· (simp [go_sem, List.take_of_length_le] <;> with_reducible rfl)))
          | (refine Holds.condF ?_ ?_; (· (simp [go_sem, List.take_of_length_le] <;> with_reducible rfl)))
          | refine Holds.seq ?_
          | refine Holds.skip ?_
          | refine Holds.exit ?_
          | refine Holds.ret ?_
          | refine thenA_normal ?_
          | refine thenA_exit ?_
          | refine thenA_ret ?_
          | refine inB_normal ?_
          | refine inB_ret ?_
          | refine inB_here ?_
          | (refine inB_past ?_ ?_; (· exact rfl))
          | refine Holds.reg ?_
          | refine Holds.block ?_
          | refine GS.nil ?_
          | (refine GS.step (s' := ?_) ?_ ?_ ?_; rotate_left; (· exact rfl); (· (simp [go_sem, List.take_of_length_le] <;> with_reducible rfl)))
          | (refine GS.skip ?_ ?_ ?_; (· exact rfl); (· exact rfl))
          | fail
        refine ⟨s, ⟨hsw.good, hend⟩, ?_, ?_⟩
        · have h1 := hsw.le
          have h2 := hsw.lt
          obtain ⟨T1, b1⟩ := s
          dsimp only at h1 h2 ⊢
          generalize muO 70000000 N n T = x at h1 h2 ⊢
          generalize muO 70000000 N n T1 = y at h1 h2 ⊢
          cases b1 with
          | true => have := h2 rfl; simp only [if_true]; omega
          | false => simp only [if_true, Bool.false_eq_true, if_false]; omega
        · exact Cov.ofn (id) rfl (by simp [go_sem, List.take_of_length_le, ren, ren1, okr, okr1, ChkT, ChkN, BlkN, nf, grammarC]) (by simp [go_sem, List.take_of_length_le, ren, ren1, okr, okr1, ChkT, ChkN, BlkN, nf, grammarC])
end Go.Proofs.Ytpnpjkkppndhfaa.En
end
section
namespace Go.Proofs.Ytpnpjkkppndhfaa.En
open Go.RowKit
set_option linter.unusedSimpArgs false
set_option linter.unusedVariables false
set_option maxHeartbeats 8000000
def costEnd (g : GrammarT) (cs w : List Int) : Option Nat := endO g.1.toNat w.length w (rulesQ g cs) noO 0 0 w.length
theorem costEnd_pos {g : GrammarT} (hg : OkG g) {cs w : List Int} (hl : cs.length = g.2.2.length) (hc : ∀ c ∈ cs, 1 ≤ c ∧ c ≤ 100) (hn : w.length ≤ 10) : ∀ v, costEnd g cs w = some v → 0 < v := fun v h => by
  have hN : ((g.1.toNat : Nat) : Int) = g.1 := Int.toNat_of_nonneg (by have := hg.n0; omega)
  have := endO_good (N := g.1.toNat) (n := w.length) (w := w) (rules := rulesQ g cs) (by have := hg.n1; omega) hn (rulesQ_ok hg hl hc hN) (muO 70000000 g.1.toNat w.length noO + 1) noO (noO_good _)
  exact this.pos _ _ _ _ h
theorem costs_facts {g : GrammarT} {cs : List Int} (h : goodC g cs = true) : goodG g = true ∧ cs.length = g.2.2.length ∧ ∀ c ∈ cs, 1 ≤ c ∧ c ≤ 100 := by
  unfold goodC at h
  simp only [Bool.and_eq_true, decide_eq_true_eq, List.all_eq_true] at h
  refine ⟨h.1.1, by have := h.1.2; omega, fun c hc => ?_⟩
  have := h.2 c hc
  simp [inR] at this
  omega
def bestV (g : GrammarT) (cs w : List Int) : Int × Bool := if goodC g cs && wordV g.2.1 w then (sV (costEnd g cs w), decide (0 < sV (costEnd g cs w))) else (0, false)
theorem specBest (g : GrammarT) (cs w : List Int) (hx : g.2.2.length < 4611686018427387904) (hs : ∀ e ∈ g.2.2, e.2.length < 4611686018427387904) (hcx : cs.length < 4611686018427387904) (hwl : w.length < 4611686018427387904) : Pure Try.prog 21 [.ag (grammarC g), .im 1 (ints cs), .im 1 (ints w)] (.tu [.v (.int .i64 (bestV g cs w).1), .v (.bool (bestV g cs w).2)]) := by
  have c0 := l12Costs g cs hx hs hcx
  unfold bestV
  refine Pure.mk (rs := [.tmp 6, .tmp 7]) (nt := 32) Try.func21 (by kernel_rfl) rfl rfl rfl (by simp) ?_
  simp only [sl, grammarC]
  repeat' first
    | (refine Holds.condT ?_ ?_; (· (simp [go_sem, List.take_of_length_le] <;> with_reducible rfl)))
    | (refine Holds.condF ?_ ?_; (· (simp [go_sem, List.take_of_length_le] <;> with_reducible rfl)))
    | refine Holds.seq ?_
    | refine Holds.skip ?_
    | refine Holds.exit ?_
    | refine Holds.ret ?_
    | refine thenA_normal ?_
    | refine thenA_exit ?_
    | refine thenA_ret ?_
    | refine inB_normal ?_
    | refine inB_ret ?_
    | refine inB_here ?_
    | (refine inB_past ?_ ?_; (· exact rfl))
    | refine Holds.reg ?_
    | refine Holds.block ?_
    | refine GS.nil ?_
    | (refine GS.step (s' := ?_) ?_ ?_ ?_; rotate_left; (· exact rfl); (· (simp [go_sem, List.take_of_length_le] <;> with_reducible rfl)))
    | (refine GS.skip ?_ ?_ ?_; (· exact rfl); (· exact rfl))
    | fail
  cases hgc : goodC g cs with
  | false =>
    rw [hgc] at c0
    rw [Bool.false_and]
    refine GS.cc (c0) rfl rfl rfl rfl (by simp [go_sem, List.take_of_length_le, grammarC] <;> with_reducible rfl) rfl (by simp [go_sem, List.take_of_length_le, grammarC]) ?_
    repeat' first
      | (refine Holds.condT ?_ ?_; (· (simp [go_sem, List.take_of_length_le] <;> with_reducible rfl)))
      | (refine Holds.condF ?_ ?_; (· (simp [go_sem, List.take_of_length_le] <;> with_reducible rfl)))
      | refine Holds.seq ?_
      | refine Holds.skip ?_
      | refine Holds.exit ?_
      | refine Holds.ret ?_
      | refine thenA_normal ?_
      | refine thenA_exit ?_
      | refine thenA_ret ?_
      | refine inB_normal ?_
      | refine inB_ret ?_
      | refine inB_here ?_
      | (refine inB_past ?_ ?_; (· exact rfl))
      | refine Holds.reg ?_
      | refine Holds.block ?_
      | refine GS.nil ?_
      | (refine GS.step (s' := ?_) ?_ ?_ ?_; rotate_left; (· exact rfl); (· (simp [go_sem, List.take_of_length_le] <;> with_reducible rfl)))
      | (refine GS.skip ?_ ?_ ?_; (· exact rfl); (· exact rfl))
      | fail
    refine Out.mk (xs := ?_) ?_ ?_ (by first | exact .inr rfl | exact .inl rfl)
    rotate_left
    · simp [go_sem, List.take_of_length_le] <;> with_reducible rfl
    exact Fz.cl rfl
  | true =>
    rw [hgc] at c0
    rw [Bool.true_and]
    obtain ⟨hgg, hcl, hck⟩ := costs_facts hgc
    have hg := goodG_ok hgg
    have c1 := l1Word g w (by have := hg.t0; omega) (by have := hg.t1; omega) hwl
    refine GS.cc (c0) rfl rfl rfl rfl (by simp [go_sem, List.take_of_length_le, grammarC] <;> with_reducible rfl) rfl (by simp [go_sem, List.take_of_length_le, grammarC]) ?_
    repeat' first
      | (refine Holds.condT ?_ ?_; (· (simp [go_sem, List.take_of_length_le, grammarC] <;> with_reducible rfl)))
      | (refine Holds.condF ?_ ?_; (· (simp [go_sem, List.take_of_length_le, grammarC] <;> with_reducible rfl)))
      | refine Holds.seq ?_
      | refine Holds.skip ?_
      | refine Holds.exit ?_
      | refine Holds.ret ?_
      | refine thenA_normal ?_
      | refine thenA_exit ?_
      | refine thenA_ret ?_
      | refine inB_normal ?_
      | refine inB_ret ?_
      | refine inB_here ?_
      | (refine inB_past ?_ ?_; (· exact rfl))
      | refine Holds.reg ?_
      | refine Holds.block ?_
      | refine GS.nil ?_
      | (refine GS.step (s' := ?_) ?_ ?_ ?_; rotate_left; (· exact rfl); (· (simp [go_sem, List.take_of_length_le, grammarC] <;> with_reducible rfl)))
      | (refine GS.skip ?_ ?_ ?_; (· exact rfl); (· exact rfl))
      | fail
    cases hgw : wordV g.2.1 w with
    | false =>
      rw [hgw] at c1
      refine GS.cc (c1) rfl rfl rfl rfl (by simp [go_sem, List.take_of_length_le, grammarC] <;> with_reducible rfl) rfl (by simp [go_sem, List.take_of_length_le, grammarC]) ?_
      repeat' first
        | (refine Holds.condT ?_ ?_; (· (simp [go_sem, List.take_of_length_le] <;> with_reducible rfl)))
        | (refine Holds.condF ?_ ?_; (· (simp [go_sem, List.take_of_length_le] <;> with_reducible rfl)))
        | refine Holds.seq ?_
        | refine Holds.skip ?_
        | refine Holds.exit ?_
        | refine Holds.ret ?_
        | refine thenA_normal ?_
        | refine thenA_exit ?_
        | refine thenA_ret ?_
        | refine inB_normal ?_
        | refine inB_ret ?_
        | refine inB_here ?_
        | (refine inB_past ?_ ?_; (· exact rfl))
        | refine Holds.reg ?_
        | refine Holds.block ?_
        | refine GS.nil ?_
        | (refine GS.step (s' := ?_) ?_ ?_ ?_; rotate_left; (· exact rfl); (· (simp [go_sem, List.take_of_length_le] <;> with_reducible rfl)))
        | (refine GS.skip ?_ ?_ ?_; (· exact rfl); (· exact rfl))
        | fail
      refine Out.mk (xs := ?_) ?_ ?_ (by first | exact .inr rfl | exact .inl rfl)
      rotate_left
      · simp [go_sem, List.take_of_length_le] <;> with_reducible rfl
      exact Fz.cl rfl
    | true =>
      rw [hgw] at c1
      obtain ⟨hn, hwk⟩ := word_facts (by have := hg.t1; omega) hgw
      have hN : ((g.1.toNat : Nat) : Int) = g.1 := Int.toNat_of_nonneg (by have := hg.n0; omega)
      have c2 := l12Table g hg cs w hN rfl hn hwk hcl hck
      simp only [if_true]
      have hn0 := hg.n0
      unfold costEnd
      generalize hT : endO g.1.toNat w.length w (rulesQ g cs) noO = T at c2 ⊢
      have h0 : (tabF (w.length + 1) g.1.toNat T)[0]? = some (rowF (w.length + 1) T 0) := tabF_get T (by omega)
      have h1 : (rowF (w.length + 1) T 0)[w.length]? = some (sV (T 0 0 w.length)) := by have := rowF_get T 0 (n := w.length + 1) (i := 0) (j := w.length) (by omega) (by omega); rwa [Nat.zero_mul, Nat.zero_add] at this
      have hlr := (List.getElem?_eq_some_iff.1 h1).1
      refine GS.cc (c1) rfl rfl rfl rfl (by simp [go_sem, List.take_of_length_le, grammarC] <;> with_reducible rfl) rfl (by simp [go_sem, List.take_of_length_le, grammarC]) ?_
      repeat' first
        | (refine Holds.condT ?_ ?_; (· (simp [go_sem, List.take_of_length_le, grammarC] <;> with_reducible rfl)))
        | (refine Holds.condF ?_ ?_; (· (simp [go_sem, List.take_of_length_le, grammarC] <;> with_reducible rfl)))
        | refine Holds.seq ?_
        | refine Holds.skip ?_
        | refine Holds.exit ?_
        | refine Holds.ret ?_
        | refine thenA_normal ?_
        | refine thenA_exit ?_
        | refine thenA_ret ?_
        | refine inB_normal ?_
        | refine inB_ret ?_
        | refine inB_here ?_
        | (refine inB_past ?_ ?_; (· exact rfl))
        | refine Holds.reg ?_
        | refine Holds.block ?_
        | refine GS.nil ?_
        | (refine GS.step (s' := ?_) ?_ ?_ ?_; rotate_left; (· exact rfl); (· (simp [go_sem, List.take_of_length_le, grammarC] <;> with_reducible rfl)))
        | (refine GS.skip ?_ ?_ ?_; (· exact rfl); (· exact rfl))
        | fail
      refine GS.cc (c2) rfl rfl rfl rfl (by simp [go_sem, List.take_of_length_le, grammarC] <;> with_reducible rfl) rfl (by simp [go_sem, List.take_of_length_le, grammarC]) ?_
      repeat' first
        | (refine Holds.condT ?_ ?_; (· (simp [go_sem, List.take_of_length_le, h0, get_E h0, h1, get_E h1, hlr, intsC] <;> with_reducible rfl)))
        | (refine Holds.condF ?_ ?_; (· (simp [go_sem, List.take_of_length_le, h0, get_E h0, h1, get_E h1, hlr, intsC] <;> with_reducible rfl)))
        | refine Holds.seq ?_
        | refine Holds.skip ?_
        | refine Holds.exit ?_
        | refine Holds.ret ?_
        | refine thenA_normal ?_
        | refine thenA_exit ?_
        | refine thenA_ret ?_
        | refine inB_normal ?_
        | refine inB_ret ?_
        | refine inB_here ?_
        | (refine inB_past ?_ ?_; (· exact rfl))
        | refine Holds.reg ?_
        | refine Holds.block ?_
        | refine GS.nil ?_
        | (refine GS.step (s' := ?_) ?_ ?_ ?_; rotate_left; (· exact rfl); (· (simp [go_sem, List.take_of_length_le, h0, get_E h0, h1, get_E h1, hlr, intsC] <;> with_reducible rfl)))
        | (refine GS.skip ?_ ?_ ?_; (· exact rfl); (· exact rfl))
        | fail
      refine Out.mk (xs := ?_) ?_ ?_ (by first | exact .inr rfl | exact .inl rfl)
      rotate_left
      · simp [go_sem, List.take_of_length_le] <;> with_reducible rfl
      exact Fz.cl rfl
theorem onesLen (k : Nat) : List.replicate k (1 : Int) ++ [1] = List.replicate (k + 1) 1 := by rw [List.replicate_succ']
theorem implLeast (g : GrammarT) (w : List Int) (hx : g.2.2.length < 4611686018427387904) (hs : ∀ e ∈ g.2.2, e.2.length < 4611686018427387904) (hwl : w.length < 4611686018427387904) : Pure Try.prog 20 [.ag (grammarC g), .im 1 (ints w)] (.tu [.v (.int .i64 (leastV g w).1), .v (.bool (leastV g w).2)]) := by
  have c0 := implGoodG g hx hs
  unfold leastV
  refine Pure.mk (rs := [.tmp 4, .tmp 5]) (nt := 44) Try.func20 (by kernel_rfl) rfl rfl rfl (by simp) ?_
  simp only [sl, grammarC]
  repeat' first
    | (refine Holds.condT ?_ ?_; (· (simp [go_sem, List.take_of_length_le] <;> with_reducible rfl)))
    | (refine Holds.condF ?_ ?_; (· (simp [go_sem, List.take_of_length_le] <;> with_reducible rfl)))
    | refine Holds.seq ?_
    | refine Holds.skip ?_
    | refine Holds.exit ?_
    | refine Holds.ret ?_
    | refine thenA_normal ?_
    | refine thenA_exit ?_
    | refine thenA_ret ?_
    | refine inB_normal ?_
    | refine inB_ret ?_
    | refine inB_here ?_
    | (refine inB_past ?_ ?_; (· exact rfl))
    | refine Holds.reg ?_
    | refine Holds.block ?_
    | refine GS.nil ?_
    | (refine GS.step (s' := ?_) ?_ ?_ ?_; rotate_left; (· exact rfl); (· (simp [go_sem, List.take_of_length_le] <;> with_reducible rfl)))
    | (refine GS.skip ?_ ?_ ?_; (· exact rfl); (· exact rfl))
    | fail
  cases hgg : goodG g with
  | false =>
    rw [hgg] at c0
    rw [Bool.false_and]
    refine GS.cc (c0) rfl rfl rfl rfl (by simp [go_sem, List.take_of_length_le, grammarC] <;> with_reducible rfl) rfl (by simp [go_sem, List.take_of_length_le, grammarC]) ?_
    repeat' first
      | (refine Holds.condT ?_ ?_; (· (simp [go_sem, List.take_of_length_le] <;> with_reducible rfl)))
      | (refine Holds.condF ?_ ?_; (· (simp [go_sem, List.take_of_length_le] <;> with_reducible rfl)))
      | refine Holds.seq ?_
      | refine Holds.skip ?_
      | refine Holds.exit ?_
      | refine Holds.ret ?_
      | refine thenA_normal ?_
      | refine thenA_exit ?_
      | refine thenA_ret ?_
      | refine inB_normal ?_
      | refine inB_ret ?_
      | refine inB_here ?_
      | (refine inB_past ?_ ?_; (· exact rfl))
      | refine Holds.reg ?_
      | refine Holds.block ?_
      | refine GS.nil ?_
      | (refine GS.step (s' := ?_) ?_ ?_ ?_; rotate_left; (· exact rfl); (· (simp [go_sem, List.take_of_length_le] <;> with_reducible rfl)))
      | (refine GS.skip ?_ ?_ ?_; (· exact rfl); (· exact rfl))
      | fail
    refine Out.mk (xs := ?_) ?_ ?_ (by first | exact .inr rfl | exact .inl rfl)
    rotate_left
    · simp [go_sem, List.take_of_length_le] <;> with_reducible rfl
    exact Fz.cl rfl
  | true =>
    rw [hgg] at c0
    rw [Bool.true_and]
    have hg := goodG_ok hgg
    have c1 := isWord g.2.1 w (by have := hg.t0; omega) (by have := hg.t1; omega) hwl
    refine GS.cc (c0) rfl rfl rfl rfl (by simp [go_sem, List.take_of_length_le, grammarC] <;> with_reducible rfl) rfl (by simp [go_sem, List.take_of_length_le, grammarC]) ?_
    repeat' first
      | (refine Holds.condT ?_ ?_; (· (simp [go_sem, List.take_of_length_le, grammarC] <;> with_reducible rfl)))
      | (refine Holds.condF ?_ ?_; (· (simp [go_sem, List.take_of_length_le, grammarC] <;> with_reducible rfl)))
      | refine Holds.seq ?_
      | refine Holds.skip ?_
      | refine Holds.exit ?_
      | refine Holds.ret ?_
      | refine thenA_normal ?_
      | refine thenA_exit ?_
      | refine thenA_ret ?_
      | refine inB_normal ?_
      | refine inB_ret ?_
      | refine inB_here ?_
      | (refine inB_past ?_ ?_; (· exact rfl))
      | refine Holds.reg ?_
      | refine Holds.block ?_
      | refine GS.nil ?_
      | (refine GS.step (s' := ?_) ?_ ?_ ?_; rotate_left; (· exact rfl); (· (simp [go_sem, List.take_of_length_le, grammarC] <;> with_reducible rfl)))
      | (refine GS.skip ?_ ?_ ?_; (· exact rfl); (· exact rfl))
      | fail
    cases hgw : wordV g.2.1 w with
    | false =>
      rw [hgw] at c1
      refine GS.cc (c1) rfl rfl rfl rfl (by simp [go_sem, List.take_of_length_le, grammarC] <;> with_reducible rfl) rfl (by simp [go_sem, List.take_of_length_le, grammarC]) ?_
      repeat' first
        | (refine Holds.condT ?_ ?_; (· (simp [go_sem, List.take_of_length_le] <;> with_reducible rfl)))
        | (refine Holds.condF ?_ ?_; (· (simp [go_sem, List.take_of_length_le] <;> with_reducible rfl)))
        | refine Holds.seq ?_
        | refine Holds.skip ?_
        | refine Holds.exit ?_
        | refine Holds.ret ?_
        | refine thenA_normal ?_
        | refine thenA_exit ?_
        | refine thenA_ret ?_
        | refine inB_normal ?_
        | refine inB_ret ?_
        | refine inB_here ?_
        | (refine inB_past ?_ ?_; (· exact rfl))
        | refine Holds.reg ?_
        | refine Holds.block ?_
        | refine GS.nil ?_
        | (refine GS.step (s' := ?_) ?_ ?_ ?_; rotate_left; (· exact rfl); (· (simp [go_sem, List.take_of_length_le] <;> with_reducible rfl)))
        | (refine GS.skip ?_ ?_ ?_; (· exact rfl); (· exact rfl))
        | fail
      refine Out.mk (xs := ?_) ?_ ?_ (by first | exact .inr rfl | exact .inl rfl)
      rotate_left
      · simp [go_sem, List.take_of_length_le] <;> with_reducible rfl
      exact Fz.cl rfl
    | true =>
      rw [hgw] at c1
      obtain ⟨hn, hwk⟩ := word_facts (by have := hg.t1; omega) hgw
      have hgl := hg.len
      simp only [if_true]
      refine GS.cc (c1) rfl rfl rfl rfl (by simp [go_sem, List.take_of_length_le, grammarC] <;> with_reducible rfl) rfl (by simp [go_sem, List.take_of_length_le, grammarC]) ?_
      repeat' first
        | (refine Holds.condT ?_ ?_; (· (simp [go_sem, List.take_of_length_le, grammarC] <;> with_reducible rfl)))
        | (refine Holds.condF ?_ ?_; (· (simp [go_sem, List.take_of_length_le, grammarC] <;> with_reducible rfl)))
        | refine Holds.seq ?_
        | refine Holds.skip ?_
        | refine Holds.exit ?_
        | refine Holds.ret ?_
        | refine thenA_normal ?_
        | refine thenA_exit ?_
        | refine thenA_ret ?_
        | refine inB_normal ?_
        | refine inB_ret ?_
        | refine inB_here ?_
        | (refine inB_past ?_ ?_; (· exact rfl))
        | refine Holds.reg ?_
        | refine Holds.block ?_
        | refine GS.nil ?_
        | (refine GS.step (s' := ?_) ?_ ?_ ?_; rotate_left; (· exact rfl); (· (simp [go_sem, List.take_of_length_le, grammarC] <;> with_reducible rfl)))
        | (refine GS.skip ?_ ?_ ?_; (· exact rfl); (· exact rfl))
        | fail
      refine Holds.loop (ι := Nat) (fun k => ⟨[(1, .im 1 (ints w)), (2, .pb 0 3 0 0), (6, .own 1 1 0 k), (21, .v (.int .i64 g.2.2.length)), (22, .v (.int .i64 k))], [(1, ⟨3, 1, ints (List.replicate k 1)⟩), (0, ⟨31, 3, [grammarC g]⟩)], 2⟩) (fun k => k ≤ g.2.2.length) (fun k => g.2.2.length - k) 0 (Nat.zero_le _) ?_ ?_
      · exact Cov.ofn (id) rfl (by simp [go_sem, List.take_of_length_le, ren, ren1, okr, okr1, ChkT, ChkN, BlkN, nf, grammarC]) (by simp [go_sem, List.take_of_length_le, ren, ren1, okr, okr1, ChkT, ChkN, BlkN, nf, grammarC])
      intro k hk
      have stepk : wr64 ((k : Int) + 1) = ((k + 1 : Nat) : Int) := wr64_id (by omega) (by omega)
      repeat' first
        | (refine Holds.condT ?_ ?_; (· (simp [go_sem, List.take_of_length_le] <;> with_reducible rfl)))
        | (refine Holds.condF ?_ ?_; (· (simp [go_sem, List.take_of_length_le] <;> with_reducible rfl)))
        | refine Holds.seq ?_
        | refine Holds.skip ?_
        | refine Holds.exit ?_
        | refine Holds.ret ?_
        | refine thenA_normal ?_
        | refine thenA_exit ?_
        | refine thenA_ret ?_
        | refine inB_normal ?_
        | refine inB_ret ?_
        | refine inB_here ?_
        | (refine inB_past ?_ ?_; (· exact rfl))
        | refine Holds.reg ?_
        | refine Holds.block ?_
        | refine GS.nil ?_
        | (refine GS.step (s' := ?_) ?_ ?_ ?_; rotate_left; (· exact rfl); (· (simp [go_sem, List.take_of_length_le] <;> with_reducible rfl)))
        | (refine GS.skip ?_ ?_ ?_; (· exact rfl); (· exact rfl))
        | fail
      refine Holds.cond rfl (fun h => ?_) (fun h => ?_)
      · have hlt : k < g.2.2.length := by simp at h; omega
        repeat' first
          | (refine Holds.condT ?_ ?_; (· (simp [go_sem, List.take_of_length_le, (show (k + 1) * 8 ≤ 140737488355328 by omega), List.length_replicate] <;> with_reducible rfl)))
          | (refine Holds.condF ?_ ?_; (· (simp [go_sem, List.take_of_length_le, (show (k + 1) * 8 ≤ 140737488355328 by omega), List.length_replicate] <;> with_reducible rfl)))
          | refine Holds.seq ?_
          | refine Holds.skip ?_
          | refine Holds.exit ?_
          | refine Holds.ret ?_
          | refine thenA_normal ?_
          | refine thenA_exit ?_
          | refine thenA_ret ?_
          | refine inB_normal ?_
          | refine inB_ret ?_
          | refine inB_here ?_
          | (refine inB_past ?_ ?_; (· exact rfl))
          | refine Holds.reg ?_
          | refine Holds.block ?_
          | refine GS.nil ?_
          | (refine GS.step (s' := ?_) ?_ ?_ ?_; rotate_left; (· exact rfl); (· (simp [go_sem, List.take_of_length_le, (show (k + 1) * 8 ≤ 140737488355328 by omega), List.length_replicate] <;> with_reducible rfl)))
          | (refine GS.skip ?_ ?_ ?_; (· exact rfl); (· exact rfl))
          | fail
        refine ⟨k + 1, by omega, by omega, ?_⟩
        rw [stepk]
        exact Cov.ofn (nm [0, 4]) rfl (by simp [go_sem, List.take_of_length_le, ren, ren1, okr, okr1, ChkT, ChkN, BlkN, nf, grammarC, ints_snoc, onesLen]) (by simp [go_sem, List.take_of_length_le, ren, ren1, okr, okr1, ChkT, ChkN, BlkN, nf, grammarC, ints_snoc, onesLen])
      · have hlt : k = g.2.2.length := by simp at h; omega
        subst hlt
        have hcl : (List.replicate g.2.2.length (1 : Int)).length = g.2.2.length := by simp
        have hck : ∀ c ∈ List.replicate g.2.2.length (1 : Int), 1 ≤ c ∧ c ≤ 100 := fun c hc => by rw [(List.mem_replicate.1 hc).2]; omega
        have hN : ((g.1.toNat : Nat) : Int) = g.1 := Int.toNat_of_nonneg (by have := hg.n0; omega)
        generalize hon : List.replicate g.2.2.length (1 : Int) = ones at hcl hck ⊢
        have c2 := implCosts g hg ones w hN rfl hn hwk hcl hck
        have hn0 := hg.n0
        have hpos := costEnd_pos hg hcl hck hn
        unfold costEnd at hpos
        generalize hT : endO g.1.toNat w.length w (rulesQ g ones) noO = T at c2 hpos ⊢
        refine Holds.frz [1] [(6, .im 1 (ints ones))] (.cons rfl (Fz.all rfl rfl (by rw [ints_len, hcl]) rfl (ints_cl _)) .nil) ?_
        simp only [frz]
        have hb := costR_get (g := g) (w := w) (cs := ones) (boxF_get T (A := 0) (i := 0) (j := w.length) (by omega) (by omega) (by omega))
        rw [show 5 + (0 * 121 + 0 * 11 + w.length) = 5 + w.length by omega] at hb
        have hbl := (List.getElem?_eq_some_iff.1 hb).1
        have hw11 : w.length < 11 := by omega
        repeat' first
          | (refine Holds.condT ?_ ?_; (· (simp [go_sem, List.take_of_length_le, grammarC] <;> with_reducible rfl)))
          | (refine Holds.condF ?_ ?_; (· (simp [go_sem, List.take_of_length_le, grammarC] <;> with_reducible rfl)))
          | refine Holds.seq ?_
          | refine Holds.skip ?_
          | refine Holds.exit ?_
          | refine Holds.ret ?_
          | refine thenA_normal ?_
          | refine thenA_exit ?_
          | refine thenA_ret ?_
          | refine inB_normal ?_
          | refine inB_ret ?_
          | refine inB_here ?_
          | (refine inB_past ?_ ?_; (· exact rfl))
          | refine Holds.reg ?_
          | refine Holds.block ?_
          | refine GS.nil ?_
          | (refine GS.step (s' := ?_) ?_ ?_ ?_; rotate_left; (· exact rfl); (· (simp [go_sem, List.take_of_length_le, grammarC] <;> with_reducible rfl)))
          | (refine GS.skip ?_ ?_ ?_; (· exact rfl); (· exact rfl))
          | fail
        refine GS.cc (c2) rfl rfl rfl rfl (by simp [go_sem, List.take_of_length_le, grammarC] <;> with_reducible rfl) rfl (by simp [go_sem, List.take_of_length_le, grammarC]) ?_
        generalize hR : costR g w ones T = row at hb hbl
        have c9 := implIn (encO (T 0 0 w.length)) 1 40
        have hin : inR (encO (T 0 0 w.length)) 1 40 = inR (sV (T 0 0 w.length)) 1 40 := by
          cases T 0 0 w.length with
          | none => rfl
          | some v => rfl
        rw [hin] at c9
        have heq : inR (sV (T 0 0 w.length)) 1 40 = true → encO (T 0 0 w.length) = sV (T 0 0 w.length) := by
          cases T 0 0 w.length with
          | none => intro h; cases h
          | some v => intro _; rfl
        generalize encO (T 0 0 w.length) = e1 at hb c9 heq
        generalize sV (T 0 0 w.length) = e2 at c9 heq ⊢
        repeat' first
          | (refine Holds.condT ?_ ?_; (· (simp [go_sem, List.take_of_length_le, hb, get_E hb, hbl, hw11] <;> with_reducible rfl)))
          | (refine Holds.condF ?_ ?_; (· (simp [go_sem, List.take_of_length_le, hb, get_E hb, hbl, hw11] <;> with_reducible rfl)))
          | refine Holds.seq ?_
          | refine Holds.skip ?_
          | refine Holds.exit ?_
          | refine Holds.ret ?_
          | refine thenA_normal ?_
          | refine thenA_exit ?_
          | refine thenA_ret ?_
          | refine inB_normal ?_
          | refine inB_ret ?_
          | refine inB_here ?_
          | (refine inB_past ?_ ?_; (· exact rfl))
          | refine Holds.reg ?_
          | refine Holds.block ?_
          | refine GS.nil ?_
          | (refine GS.step (s' := ?_) ?_ ?_ ?_; rotate_left; (· exact rfl); (· (simp [go_sem, List.take_of_length_le, hb, get_E hb, hbl, hw11] <;> with_reducible rfl)))
          | (refine GS.skip ?_ ?_ ?_; (· exact rfl); (· exact rfl))
          | fail
        cases hi : inR e2 1 40 with
        | false =>
          rw [hi] at c9
          refine GS.cc (c9) rfl rfl rfl rfl (by simp [go_sem, List.take_of_length_le] <;> with_reducible rfl) rfl (by simp [go_sem, List.take_of_length_le]) ?_
          repeat' first
            | (refine Holds.condT ?_ ?_; (· (simp [go_sem, List.take_of_length_le] <;> with_reducible rfl)))
            | (refine Holds.condF ?_ ?_; (· (simp [go_sem, List.take_of_length_le] <;> with_reducible rfl)))
            | refine Holds.seq ?_
            | refine Holds.skip ?_
            | refine Holds.exit ?_
            | refine Holds.ret ?_
            | refine thenA_normal ?_
            | refine thenA_exit ?_
            | refine thenA_ret ?_
            | refine inB_normal ?_
            | refine inB_ret ?_
            | refine inB_here ?_
            | (refine inB_past ?_ ?_; (· exact rfl))
            | refine Holds.reg ?_
            | refine Holds.block ?_
            | refine GS.nil ?_
            | (refine GS.step (s' := ?_) ?_ ?_ ?_; rotate_left; (· exact rfl); (· (simp [go_sem, List.take_of_length_le] <;> with_reducible rfl)))
            | (refine GS.skip ?_ ?_ ?_; (· exact rfl); (· exact rfl))
            | fail
          refine Out.mk (xs := ?_) ?_ ?_ (by first | exact .inr rfl | exact .inl rfl)
          rotate_left
          · simp [go_sem, List.take_of_length_le] <;> with_reducible rfl
          exact Fz.cl rfl
        | true =>
          rw [hi] at c9
          have := heq hi
          subst this
          refine GS.cc (c9) rfl rfl rfl rfl (by simp [go_sem, List.take_of_length_le] <;> with_reducible rfl) rfl (by simp [go_sem, List.take_of_length_le]) ?_
          repeat' first
            | (refine Holds.condT ?_ ?_; (· (simp [go_sem, List.take_of_length_le] <;> with_reducible rfl)))
            | (refine Holds.condF ?_ ?_; (· (simp [go_sem, List.take_of_length_le] <;> with_reducible rfl)))
            | refine Holds.seq ?_
            | refine Holds.skip ?_
            | refine Holds.exit ?_
            | refine Holds.ret ?_
            | refine thenA_normal ?_
            | refine thenA_exit ?_
            | refine thenA_ret ?_
            | refine inB_normal ?_
            | refine inB_ret ?_
            | refine inB_here ?_
            | (refine inB_past ?_ ?_; (· exact rfl))
            | refine Holds.reg ?_
            | refine Holds.block ?_
            | refine GS.nil ?_
            | (refine GS.step (s' := ?_) ?_ ?_ ?_; rotate_left; (· exact rfl); (· (simp [go_sem, List.take_of_length_le] <;> with_reducible rfl)))
            | (refine GS.skip ?_ ?_ ?_; (· exact rfl); (· exact rfl))
            | fail
          refine Out.mk (xs := ?_) ?_ ?_ (by first | exact .inr rfl | exact .inl rfl)
          rotate_left
          · simp [go_sem, List.take_of_length_le] <;> with_reducible rfl
          exact Fz.cl rfl
theorem implBest (g : GrammarT) (cs w : List Int) (hx : g.2.2.length < 4611686018427387904) (hs : ∀ e ∈ g.2.2, e.2.length < 4611686018427387904) (hcx : cs.length < 4611686018427387904) (hwl : w.length < 4611686018427387904) : Pure Try.prog 22 [.ag (grammarC g), .im 1 (ints cs), .im 1 (ints w)] (.tu [.v (.int .i64 (bestV g cs w).1), .v (.bool (bestV g cs w).2)]) := by
  have c0 := areCosts g cs hx hs hcx
  unfold bestV
  refine Pure.mk (rs := [.tmp 6, .tmp 7]) (nt := 35) Try.func22 (by kernel_rfl) rfl rfl rfl (by simp) ?_
  simp only [sl, grammarC]
  repeat' first
    | (refine Holds.condT ?_ ?_; (· (simp [go_sem, List.take_of_length_le] <;> with_reducible rfl)))
    | (refine Holds.condF ?_ ?_; (· (simp [go_sem, List.take_of_length_le] <;> with_reducible rfl)))
    | refine Holds.seq ?_
    | refine Holds.skip ?_
    | refine Holds.exit ?_
    | refine Holds.ret ?_
    | refine thenA_normal ?_
    | refine thenA_exit ?_
    | refine thenA_ret ?_
    | refine inB_normal ?_
    | refine inB_ret ?_
    | refine inB_here ?_
    | (refine inB_past ?_ ?_; (· exact rfl))
    | refine Holds.reg ?_
    | refine Holds.block ?_
    | refine GS.nil ?_
    | (refine GS.step (s' := ?_) ?_ ?_ ?_; rotate_left; (· exact rfl); (· (simp [go_sem, List.take_of_length_le] <;> with_reducible rfl)))
    | (refine GS.skip ?_ ?_ ?_; (· exact rfl); (· exact rfl))
    | fail
  cases hgc : goodC g cs with
  | false =>
    rw [hgc] at c0
    rw [Bool.false_and]
    refine GS.cc (c0) rfl rfl rfl rfl (by simp [go_sem, List.take_of_length_le, grammarC] <;> with_reducible rfl) rfl (by simp [go_sem, List.take_of_length_le, grammarC]) ?_
    repeat' first
      | (refine Holds.condT ?_ ?_; (· (simp [go_sem, List.take_of_length_le] <;> with_reducible rfl)))
      | (refine Holds.condF ?_ ?_; (· (simp [go_sem, List.take_of_length_le] <;> with_reducible rfl)))
      | refine Holds.seq ?_
      | refine Holds.skip ?_
      | refine Holds.exit ?_
      | refine Holds.ret ?_
      | refine thenA_normal ?_
      | refine thenA_exit ?_
      | refine thenA_ret ?_
      | refine inB_normal ?_
      | refine inB_ret ?_
      | refine inB_here ?_
      | (refine inB_past ?_ ?_; (· exact rfl))
      | refine Holds.reg ?_
      | refine Holds.block ?_
      | refine GS.nil ?_
      | (refine GS.step (s' := ?_) ?_ ?_ ?_; rotate_left; (· exact rfl); (· (simp [go_sem, List.take_of_length_le] <;> with_reducible rfl)))
      | (refine GS.skip ?_ ?_ ?_; (· exact rfl); (· exact rfl))
      | fail
    refine Out.mk (xs := ?_) ?_ ?_ (by first | exact .inr rfl | exact .inl rfl)
    rotate_left
    · simp [go_sem, List.take_of_length_le] <;> with_reducible rfl
    exact Fz.cl rfl
  | true =>
    rw [hgc] at c0
    rw [Bool.true_and]
    obtain ⟨hgg, hcl, hck⟩ := costs_facts hgc
    have hg := goodG_ok hgg
    have c1 := isWord g.2.1 w (by have := hg.t0; omega) (by have := hg.t1; omega) hwl
    refine GS.cc (c0) rfl rfl rfl rfl (by simp [go_sem, List.take_of_length_le, grammarC] <;> with_reducible rfl) rfl (by simp [go_sem, List.take_of_length_le, grammarC]) ?_
    repeat' first
      | (refine Holds.condT ?_ ?_; (· (simp [go_sem, List.take_of_length_le, grammarC] <;> with_reducible rfl)))
      | (refine Holds.condF ?_ ?_; (· (simp [go_sem, List.take_of_length_le, grammarC] <;> with_reducible rfl)))
      | refine Holds.seq ?_
      | refine Holds.skip ?_
      | refine Holds.exit ?_
      | refine Holds.ret ?_
      | refine thenA_normal ?_
      | refine thenA_exit ?_
      | refine thenA_ret ?_
      | refine inB_normal ?_
      | refine inB_ret ?_
      | refine inB_here ?_
      | (refine inB_past ?_ ?_; (· exact rfl))
      | refine Holds.reg ?_
      | refine Holds.block ?_
      | refine GS.nil ?_
      | (refine GS.step (s' := ?_) ?_ ?_ ?_; rotate_left; (· exact rfl); (· (simp [go_sem, List.take_of_length_le, grammarC] <;> with_reducible rfl)))
      | (refine GS.skip ?_ ?_ ?_; (· exact rfl); (· exact rfl))
      | fail
    cases hgw : wordV g.2.1 w with
    | false =>
      rw [hgw] at c1
      refine GS.cc (c1) rfl rfl rfl rfl (by simp [go_sem, List.take_of_length_le, grammarC] <;> with_reducible rfl) rfl (by simp [go_sem, List.take_of_length_le, grammarC]) ?_
      repeat' first
        | (refine Holds.condT ?_ ?_; (· (simp [go_sem, List.take_of_length_le] <;> with_reducible rfl)))
        | (refine Holds.condF ?_ ?_; (· (simp [go_sem, List.take_of_length_le] <;> with_reducible rfl)))
        | refine Holds.seq ?_
        | refine Holds.skip ?_
        | refine Holds.exit ?_
        | refine Holds.ret ?_
        | refine thenA_normal ?_
        | refine thenA_exit ?_
        | refine thenA_ret ?_
        | refine inB_normal ?_
        | refine inB_ret ?_
        | refine inB_here ?_
        | (refine inB_past ?_ ?_; (· exact rfl))
        | refine Holds.reg ?_
        | refine Holds.block ?_
        | refine GS.nil ?_
        | (refine GS.step (s' := ?_) ?_ ?_ ?_; rotate_left; (· exact rfl); (· (simp [go_sem, List.take_of_length_le] <;> with_reducible rfl)))
        | (refine GS.skip ?_ ?_ ?_; (· exact rfl); (· exact rfl))
        | fail
      refine Out.mk (xs := ?_) ?_ ?_ (by first | exact .inr rfl | exact .inl rfl)
      rotate_left
      · simp [go_sem, List.take_of_length_le] <;> with_reducible rfl
      exact Fz.cl rfl
    | true =>
      rw [hgw] at c1
      obtain ⟨hn, hwk⟩ := word_facts (by have := hg.t1; omega) hgw
      have hN : ((g.1.toNat : Nat) : Int) = g.1 := Int.toNat_of_nonneg (by have := hg.n0; omega)
      have c2 := implCosts g hg cs w hN rfl hn hwk hcl hck
      simp only [if_true]
      have hn0 := hg.n0
      have hpos := costEnd_pos hg hcl hck hn
      unfold costEnd at hpos ⊢
      generalize hT : endO g.1.toNat w.length w (rulesQ g cs) noO = T at c2 hpos ⊢
      have hb := costR_get (g := g) (w := w) (cs := cs) (boxF_get T (A := 0) (i := 0) (j := w.length) (by omega) (by omega) (by omega))
      rw [show 5 + (0 * 121 + 0 * 11 + w.length) = 5 + w.length by omega] at hb
      have hbl := (List.getElem?_eq_some_iff.1 hb).1
      have hw11 : w.length < 11 := by omega
      refine GS.cc (c1) rfl rfl rfl rfl (by simp [go_sem, List.take_of_length_le, grammarC] <;> with_reducible rfl) rfl (by simp [go_sem, List.take_of_length_le, grammarC]) ?_
      repeat' first
        | (refine Holds.condT ?_ ?_; (· (simp [go_sem, List.take_of_length_le, grammarC] <;> with_reducible rfl)))
        | (refine Holds.condF ?_ ?_; (· (simp [go_sem, List.take_of_length_le, grammarC] <;> with_reducible rfl)))
        | refine Holds.seq ?_
        | refine Holds.skip ?_
        | refine Holds.exit ?_
        | refine Holds.ret ?_
        | refine thenA_normal ?_
        | refine thenA_exit ?_
        | refine thenA_ret ?_
        | refine inB_normal ?_
        | refine inB_ret ?_
        | refine inB_here ?_
        | (refine inB_past ?_ ?_; (· exact rfl))
        | refine Holds.reg ?_
        | refine Holds.block ?_
        | refine GS.nil ?_
        | (refine GS.step (s' := ?_) ?_ ?_ ?_; rotate_left; (· exact rfl); (· (simp [go_sem, List.take_of_length_le, grammarC] <;> with_reducible rfl)))
        | (refine GS.skip ?_ ?_ ?_; (· exact rfl); (· exact rfl))
        | fail
      refine GS.cc (c2) rfl rfl rfl rfl (by simp [go_sem, List.take_of_length_le, grammarC] <;> with_reducible rfl) rfl (by simp [go_sem, List.take_of_length_le, grammarC]) ?_
      generalize hR : costR g w cs T = row at hb hbl
      cases hv : T 0 0 w.length with
      | none =>
        rw [hv, encO_none] at hb
        repeat' first
          | (refine Holds.condT ?_ ?_; (· (simp [go_sem, List.take_of_length_le, hb, get_E hb, hbl, hw11] <;> with_reducible rfl)))
          | (refine Holds.condF ?_ ?_; (· (simp [go_sem, List.take_of_length_le, hb, get_E hb, hbl, hw11] <;> with_reducible rfl)))
          | refine Holds.seq ?_
          | refine Holds.skip ?_
          | refine Holds.exit ?_
          | refine Holds.ret ?_
          | refine thenA_normal ?_
          | refine thenA_exit ?_
          | refine thenA_ret ?_
          | refine inB_normal ?_
          | refine inB_ret ?_
          | refine inB_here ?_
          | (refine inB_past ?_ ?_; (· exact rfl))
          | refine Holds.reg ?_
          | refine Holds.block ?_
          | refine GS.nil ?_
          | (refine GS.step (s' := ?_) ?_ ?_ ?_; rotate_left; (· exact rfl); (· (simp [go_sem, List.take_of_length_le, hb, get_E hb, hbl, hw11] <;> with_reducible rfl)))
          | (refine GS.skip ?_ ?_ ?_; (· exact rfl); (· exact rfl))
          | fail
        refine Out.mk (xs := ?_) ?_ ?_ (by first | exact .inr rfl | exact .inl rfl)
        rotate_left
        · simp [go_sem, List.take_of_length_le] <;> with_reducible rfl
        exact Fz.cl rfl
      | some v =>
        rw [hv, encO_some] at hb
        have h0 := hpos v hv
        have h1 : ¬ ((v : Int) < 0) := by omega
        rw [show sV (some v) = (v : Int) from rfl, decide_eq_true (show (0 : Int) < (v : Int) by omega)]
        repeat' first
          | (refine Holds.condT ?_ ?_; (· (simp [go_sem, List.take_of_length_le, hb, get_E hb, hbl, hw11, h1] <;> with_reducible rfl)))
          | (refine Holds.condF ?_ ?_; (· (simp [go_sem, List.take_of_length_le, hb, get_E hb, hbl, hw11, h1] <;> with_reducible rfl)))
          | refine Holds.seq ?_
          | refine Holds.skip ?_
          | refine Holds.exit ?_
          | refine Holds.ret ?_
          | refine thenA_normal ?_
          | refine thenA_exit ?_
          | refine thenA_ret ?_
          | refine inB_normal ?_
          | refine inB_ret ?_
          | refine inB_here ?_
          | (refine inB_past ?_ ?_; (· exact rfl))
          | refine Holds.reg ?_
          | refine Holds.block ?_
          | refine GS.nil ?_
          | (refine GS.step (s' := ?_) ?_ ?_ ?_; rotate_left; (· exact rfl); (· (simp [go_sem, List.take_of_length_le, hb, get_E hb, hbl, hw11, h1] <;> with_reducible rfl)))
          | (refine GS.skip ?_ ?_ ?_; (· exact rfl); (· exact rfl))
          | fail
        refine Out.mk (xs := ?_) ?_ ?_ (by first | exact .inr rfl | exact .inl rfl)
        rotate_left
        · simp [go_sem, List.take_of_length_le] <;> with_reducible rfl
        exact Fz.cl rfl
end Go.Proofs.Ytpnpjkkppndhfaa.En
end
section
namespace Go.Proofs.Ytpnpjkkppndhfaa.En
open Go.RowKit
set_option linter.unusedSimpArgs false
set_option linter.unusedVariables false
set_option maxHeartbeats 4000000
theorem lawBest (g : GrammarT) (cs : List Int) (w : List Int) (hxg : g.2.2.length < 8796093022208) (hsg : ∀ e ∈ g.2.2, e.2.length < 35184372088832) (hccs : cs.length < 35184372088832) (hcw : w.length < 35184372088832) : Pure Try.prog 6 [.ag (grammarC g), .im 1 (ints cs), .im 1 (ints w)] (.v (.bool true)) := by
  refine Pure.mk (rs := [.tmp 6]) (nt := 72) Try.func6 (by kernel_rfl) rfl rfl rfl (by simp) ?_
  simp only [sl, grammarC]
  have hsg' : ∀ e ∈ g.2.2, e.2.length < 4611686018427387904 := fun e he => by have := hsg e he; omega
  have czg := szGrammar g 1048576 (by omega) (by omega) hxg hsg
  have ctg := toGrammar g hxg hsg
  have ceg := eqGrammar g g hxg hsg
  have ctcs := toIntS cs hccs
  have cecs := eqIntS cs cs (by omega)
  have ctw := toIntS w hcw
  have cew := eqIntS w w (by omega)
  have p1 := specBest g cs w (by omega) hsg' (by omega) (by omega)
  have p2 := implBest g cs w (by omega) hsg' (by omega) (by omega)
  simp only [decide_true] at ceg cecs cew
  generalize bestV g cs w = v at p1 p2
  repeat' first
    | refine Holds.seq ?_
    | refine Holds.skip ?_
    | refine Holds.exit ?_
    | refine Holds.ret ?_
    | refine thenA_normal ?_
    | refine thenA_exit ?_
    | refine thenA_ret ?_
    | refine inB_normal ?_
    | refine inB_ret ?_
    | refine inB_here ?_
    | (refine inB_past ?_ ?_; (· exact rfl))
    | refine Holds.reg ?_
    | refine Holds.block ?_
    | refine GS.nil ?_
    | refine Gd.nil ?_
    | (refine Holds.any mixed ?_ ?_; (· kernel_rfl))
    | (refine GS.step (s' := ?_) ?_ ?_ ?_; rotate_left; (· exact rfl); (· (simp [go_sem, List.take_of_length_le] <;> with_reducible rfl)))
    | (refine GS.skip ?_ ?_ ?_; (· exact rfl); (· exact rfl))
    | (refine Gd.go (s' := ?_) ?_ ?_ ?_; rotate_left; (· exact rfl); (· (simp [go_sem, List.take_of_length_le] <;> with_reducible rfl)))
    | (refine Gd.skip ?_ ?_ ?_; (· exact rfl); (· exact rfl))
    | fail
  refine Holds.cond rfl (fun h => ?_) (fun h => ?_)
  · repeat' first
      | refine Holds.seq ?_
      | refine Holds.skip ?_
      | refine Holds.exit ?_
      | refine Holds.ret ?_
      | refine thenA_normal ?_
      | refine thenA_exit ?_
      | refine thenA_ret ?_
      | refine inB_normal ?_
      | refine inB_ret ?_
      | refine inB_here ?_
      | (refine inB_past ?_ ?_; (· exact rfl))
      | refine Holds.reg ?_
      | refine Holds.block ?_
      | refine GS.nil ?_
      | refine Gd.nil ?_
      | (refine Holds.any mixed ?_ ?_; (· kernel_rfl))
      | (refine GS.step (s' := ?_) ?_ ?_ ?_; rotate_left; (· exact rfl); (· (simp [go_sem, List.take_of_length_le] <;> with_reducible rfl)))
      | (refine GS.skip ?_ ?_ ?_; (· exact rfl); (· exact rfl))
      | (refine Gd.go (s' := ?_) ?_ ?_ ?_; rotate_left; (· exact rfl); (· (simp [go_sem, List.take_of_length_le] <;> with_reducible rfl)))
      | (refine Gd.skip ?_ ?_ ?_; (· exact rfl); (· exact rfl))
      | fail
    refine Out.mk (xs := ?_) ?_ ?_ (by first | exact .inr rfl | exact .inl rfl)
    rotate_left
    · simp [go_sem, List.take_of_length_le] <;> with_reducible rfl
    exact .v _
  repeat' first
    | refine Holds.seq ?_
    | refine Holds.skip ?_
    | refine Holds.exit ?_
    | refine Holds.ret ?_
    | refine thenA_normal ?_
    | refine thenA_exit ?_
    | refine thenA_ret ?_
    | refine inB_normal ?_
    | refine inB_ret ?_
    | refine inB_here ?_
    | (refine inB_past ?_ ?_; (· exact rfl))
    | refine Holds.reg ?_
    | refine Holds.block ?_
    | refine GS.nil ?_
    | refine Gd.nil ?_
    | (refine Holds.any mixed ?_ ?_; (· kernel_rfl))
    | (refine GS.step (s' := ?_) ?_ ?_ ?_; rotate_left; (· exact rfl); (· (simp [go_sem, List.take_of_length_le] <;> with_reducible rfl)))
    | (refine GS.skip ?_ ?_ ?_; (· exact rfl); (· exact rfl))
    | (refine Gd.go (s' := ?_) ?_ ?_ ?_; rotate_left; (· exact rfl); (· (simp [go_sem, List.take_of_length_le] <;> with_reducible rfl)))
    | (refine Gd.skip ?_ ?_ ?_; (· exact rfl); (· exact rfl))
    | fail
  refine Holds.cond rfl (fun h => ?_) (fun h => ?_)
  · repeat' first
      | refine Holds.seq ?_
      | refine Holds.skip ?_
      | refine Holds.exit ?_
      | refine Holds.ret ?_
      | refine thenA_normal ?_
      | refine thenA_exit ?_
      | refine thenA_ret ?_
      | refine inB_normal ?_
      | refine inB_ret ?_
      | refine inB_here ?_
      | (refine inB_past ?_ ?_; (· exact rfl))
      | refine Holds.reg ?_
      | refine Holds.block ?_
      | refine GS.nil ?_
      | refine Gd.nil ?_
      | (refine Holds.any mixed ?_ ?_; (· kernel_rfl))
      | (refine GS.step (s' := ?_) ?_ ?_ ?_; rotate_left; (· exact rfl); (· (simp [go_sem, List.take_of_length_le] <;> with_reducible rfl)))
      | (refine GS.skip ?_ ?_ ?_; (· exact rfl); (· exact rfl))
      | (refine Gd.go (s' := ?_) ?_ ?_ ?_; rotate_left; (· exact rfl); (· (simp [go_sem, List.take_of_length_le] <;> with_reducible rfl)))
      | (refine Gd.skip ?_ ?_ ?_; (· exact rfl); (· exact rfl))
      | fail
    refine Out.mk (xs := ?_) ?_ ?_ (by first | exact .inr rfl | exact .inl rfl)
    rotate_left
    · simp [go_sem, List.take_of_length_le] <;> with_reducible rfl
    exact .v _
  repeat' first
    | refine Holds.seq ?_
    | refine Holds.skip ?_
    | refine Holds.exit ?_
    | refine Holds.ret ?_
    | refine thenA_normal ?_
    | refine thenA_exit ?_
    | refine thenA_ret ?_
    | refine inB_normal ?_
    | refine inB_ret ?_
    | refine inB_here ?_
    | (refine inB_past ?_ ?_; (· exact rfl))
    | refine Holds.reg ?_
    | refine Holds.block ?_
    | refine GS.nil ?_
    | refine Gd.nil ?_
    | (refine Holds.any mixed ?_ ?_; (· kernel_rfl))
    | (refine GS.step (s' := ?_) ?_ ?_ ?_; rotate_left; (· exact rfl); (· (simp [go_sem, List.take_of_length_le] <;> with_reducible rfl)))
    | (refine GS.skip ?_ ?_ ?_; (· exact rfl); (· exact rfl))
    | (refine Gd.go (s' := ?_) ?_ ?_ ?_; rotate_left; (· exact rfl); (· (simp [go_sem, List.take_of_length_le] <;> with_reducible rfl)))
    | (refine Gd.skip ?_ ?_ ?_; (· exact rfl); (· exact rfl))
    | fail
  first | refine GS.cc (czg) rfl rfl rfl rfl (by simp [go_sem, List.take_of_length_le, grammarC] <;> with_reducible rfl) rfl (by simp [go_sem, List.take_of_length_le, grammarC]) ?_ | refine Gd.cc (czg) rfl rfl rfl rfl (by simp [go_sem, List.take_of_length_le, grammarC] <;> with_reducible rfl) rfl (by simp [go_sem, List.take_of_length_le, grammarC]) ?_
  repeat' first
    | refine Holds.seq ?_
    | refine Holds.skip ?_
    | refine Holds.exit ?_
    | refine Holds.ret ?_
    | refine thenA_normal ?_
    | refine thenA_exit ?_
    | refine thenA_ret ?_
    | refine inB_normal ?_
    | refine inB_ret ?_
    | refine inB_here ?_
    | (refine inB_past ?_ ?_; (· exact rfl))
    | refine Holds.reg ?_
    | refine Holds.block ?_
    | refine GS.nil ?_
    | refine Gd.nil ?_
    | (refine Holds.any mixed ?_ ?_; (· kernel_rfl))
    | (refine GS.step (s' := ?_) ?_ ?_ ?_; rotate_left; (· exact rfl); (· (simp [go_sem, List.take_of_length_le] <;> with_reducible rfl)))
    | (refine GS.skip ?_ ?_ ?_; (· exact rfl); (· exact rfl))
    | (refine Gd.go (s' := ?_) ?_ ?_ ?_; rotate_left; (· exact rfl); (· (simp [go_sem, List.take_of_length_le] <;> with_reducible rfl)))
    | (refine Gd.skip ?_ ?_ ?_; (· exact rfl); (· exact rfl))
    | fail
  refine Holds.cond rfl (fun h => ?_) (fun h => ?_)
  · repeat' first
      | refine Holds.seq ?_
      | refine Holds.skip ?_
      | refine Holds.exit ?_
      | refine Holds.ret ?_
      | refine thenA_normal ?_
      | refine thenA_exit ?_
      | refine thenA_ret ?_
      | refine inB_normal ?_
      | refine inB_ret ?_
      | refine inB_here ?_
      | (refine inB_past ?_ ?_; (· exact rfl))
      | refine Holds.reg ?_
      | refine Holds.block ?_
      | refine GS.nil ?_
      | refine Gd.nil ?_
      | (refine Holds.any mixed ?_ ?_; (· kernel_rfl))
      | (refine GS.step (s' := ?_) ?_ ?_ ?_; rotate_left; (· exact rfl); (· (simp [go_sem, List.take_of_length_le] <;> with_reducible rfl)))
      | (refine GS.skip ?_ ?_ ?_; (· exact rfl); (· exact rfl))
      | (refine Gd.go (s' := ?_) ?_ ?_ ?_; rotate_left; (· exact rfl); (· (simp [go_sem, List.take_of_length_le] <;> with_reducible rfl)))
      | (refine Gd.skip ?_ ?_ ?_; (· exact rfl); (· exact rfl))
      | fail
    refine Out.mk (xs := ?_) ?_ ?_ (by first | exact .inr rfl | exact .inl rfl)
    rotate_left
    · simp [go_sem, List.take_of_length_le] <;> with_reducible rfl
    exact .v _
  repeat' first
    | refine Holds.seq ?_
    | refine Holds.skip ?_
    | refine Holds.exit ?_
    | refine Holds.ret ?_
    | refine thenA_normal ?_
    | refine thenA_exit ?_
    | refine thenA_ret ?_
    | refine inB_normal ?_
    | refine inB_ret ?_
    | refine inB_here ?_
    | (refine inB_past ?_ ?_; (· exact rfl))
    | refine Holds.reg ?_
    | refine Holds.block ?_
    | refine GS.nil ?_
    | refine Gd.nil ?_
    | (refine Holds.any mixed ?_ ?_; (· kernel_rfl))
    | (refine GS.step (s' := ?_) ?_ ?_ ?_; rotate_left; (· exact rfl); (· (simp [go_sem, List.take_of_length_le, grammarC] <;> with_reducible rfl)))
    | (refine GS.skip ?_ ?_ ?_; (· exact rfl); (· exact rfl))
    | (refine Gd.go (s' := ?_) ?_ ?_ ?_; rotate_left; (· exact rfl); (· (simp [go_sem, List.take_of_length_le, grammarC] <;> with_reducible rfl)))
    | (refine Gd.skip ?_ ?_ ?_; (· exact rfl); (· exact rfl))
    | fail
  first | refine GS.cc (ctg) rfl rfl rfl rfl (by simp [go_sem, List.take_of_length_le, grammarC] <;> with_reducible rfl) rfl (by simp [go_sem, List.take_of_length_le, grammarC]) ?_ | refine Gd.cc (ctg) rfl rfl rfl rfl (by simp [go_sem, List.take_of_length_le, grammarC] <;> with_reducible rfl) rfl (by simp [go_sem, List.take_of_length_le, grammarC]) ?_
  repeat' first
    | refine Holds.seq ?_
    | refine Holds.skip ?_
    | refine Holds.exit ?_
    | refine Holds.ret ?_
    | refine thenA_normal ?_
    | refine thenA_exit ?_
    | refine thenA_ret ?_
    | refine inB_normal ?_
    | refine inB_ret ?_
    | refine inB_here ?_
    | (refine inB_past ?_ ?_; (· exact rfl))
    | refine Holds.reg ?_
    | refine Holds.block ?_
    | refine GS.nil ?_
    | refine Gd.nil ?_
    | (refine Holds.any mixed ?_ ?_; (· kernel_rfl))
    | (refine GS.step (s' := ?_) ?_ ?_ ?_; rotate_left; (· exact rfl); (· (simp [go_sem, List.take_of_length_le, grammarC] <;> with_reducible rfl)))
    | (refine GS.skip ?_ ?_ ?_; (· exact rfl); (· exact rfl))
    | (refine Gd.go (s' := ?_) ?_ ?_ ?_; rotate_left; (· exact rfl); (· (simp [go_sem, List.take_of_length_le, grammarC] <;> with_reducible rfl)))
    | (refine Gd.skip ?_ ?_ ?_; (· exact rfl); (· exact rfl))
    | fail
  first | refine GS.cc (ctcs) rfl rfl rfl rfl (by simp [go_sem, List.take_of_length_le, grammarC] <;> with_reducible rfl) rfl (by simp [go_sem, List.take_of_length_le, grammarC]) ?_ | refine Gd.cc (ctcs) rfl rfl rfl rfl (by simp [go_sem, List.take_of_length_le, grammarC] <;> with_reducible rfl) rfl (by simp [go_sem, List.take_of_length_le, grammarC]) ?_
  repeat' first
    | refine Holds.seq ?_
    | refine Holds.skip ?_
    | refine Holds.exit ?_
    | refine Holds.ret ?_
    | refine thenA_normal ?_
    | refine thenA_exit ?_
    | refine thenA_ret ?_
    | refine inB_normal ?_
    | refine inB_ret ?_
    | refine inB_here ?_
    | (refine inB_past ?_ ?_; (· exact rfl))
    | refine Holds.reg ?_
    | refine Holds.block ?_
    | refine GS.nil ?_
    | refine Gd.nil ?_
    | (refine Holds.any mixed ?_ ?_; (· kernel_rfl))
    | (refine GS.step (s' := ?_) ?_ ?_ ?_; rotate_left; (· exact rfl); (· (simp [go_sem, List.take_of_length_le, grammarC] <;> with_reducible rfl)))
    | (refine GS.skip ?_ ?_ ?_; (· exact rfl); (· exact rfl))
    | (refine Gd.go (s' := ?_) ?_ ?_ ?_; rotate_left; (· exact rfl); (· (simp [go_sem, List.take_of_length_le, grammarC] <;> with_reducible rfl)))
    | (refine Gd.skip ?_ ?_ ?_; (· exact rfl); (· exact rfl))
    | fail
  first | refine GS.cc (ctw) rfl rfl rfl rfl (by simp [go_sem, List.take_of_length_le, grammarC] <;> with_reducible rfl) rfl (by simp [go_sem, List.take_of_length_le, grammarC]) ?_ | refine Gd.cc (ctw) rfl rfl rfl rfl (by simp [go_sem, List.take_of_length_le, grammarC] <;> with_reducible rfl) rfl (by simp [go_sem, List.take_of_length_le, grammarC]) ?_
  repeat' first
    | refine Holds.seq ?_
    | refine Holds.skip ?_
    | refine Holds.exit ?_
    | refine Holds.ret ?_
    | refine thenA_normal ?_
    | refine thenA_exit ?_
    | refine thenA_ret ?_
    | refine inB_normal ?_
    | refine inB_ret ?_
    | refine inB_here ?_
    | (refine inB_past ?_ ?_; (· exact rfl))
    | refine Holds.reg ?_
    | refine Holds.block ?_
    | refine GS.nil ?_
    | refine Gd.nil ?_
    | (refine Holds.any mixed ?_ ?_; (· kernel_rfl))
    | (refine GS.step (s' := ?_) ?_ ?_ ?_; rotate_left; (· exact rfl); (· (simp [go_sem, List.take_of_length_le, grammarC] <;> with_reducible rfl)))
    | (refine GS.skip ?_ ?_ ?_; (· exact rfl); (· exact rfl))
    | (refine Gd.go (s' := ?_) ?_ ?_ ?_; rotate_left; (· exact rfl); (· (simp [go_sem, List.take_of_length_le, grammarC] <;> with_reducible rfl)))
    | (refine Gd.skip ?_ ?_ ?_; (· exact rfl); (· exact rfl))
    | fail
  first | refine GS.cc (p1) rfl rfl rfl rfl (by simp [go_sem, List.take_of_length_le, grammarC] <;> with_reducible rfl) rfl (by simp [go_sem, List.take_of_length_le, grammarC]) ?_ | refine Gd.cc (p1) rfl rfl rfl rfl (by simp [go_sem, List.take_of_length_le, grammarC] <;> with_reducible rfl) rfl (by simp [go_sem, List.take_of_length_le, grammarC]) ?_
  repeat' first
    | refine Holds.seq ?_
    | refine Holds.skip ?_
    | refine Holds.exit ?_
    | refine Holds.ret ?_
    | refine thenA_normal ?_
    | refine thenA_exit ?_
    | refine thenA_ret ?_
    | refine inB_normal ?_
    | refine inB_ret ?_
    | refine inB_here ?_
    | (refine inB_past ?_ ?_; (· exact rfl))
    | refine Holds.reg ?_
    | refine Holds.block ?_
    | refine GS.nil ?_
    | refine Gd.nil ?_
    | (refine Holds.any mixed ?_ ?_; (· kernel_rfl))
    | (refine GS.step (s' := ?_) ?_ ?_ ?_; rotate_left; (· exact rfl); (· (simp [go_sem, List.take_of_length_le, grammarC] <;> with_reducible rfl)))
    | (refine GS.skip ?_ ?_ ?_; (· exact rfl); (· exact rfl))
    | (refine Gd.go (s' := ?_) ?_ ?_ ?_; rotate_left; (· exact rfl); (· (simp [go_sem, List.take_of_length_le, grammarC] <;> with_reducible rfl)))
    | (refine Gd.skip ?_ ?_ ?_; (· exact rfl); (· exact rfl))
    | fail
  first | refine GS.cc (ctg) rfl rfl rfl rfl (by simp [go_sem, List.take_of_length_le, grammarC] <;> with_reducible rfl) rfl (by simp [go_sem, List.take_of_length_le, grammarC]) ?_ | refine Gd.cc (ctg) rfl rfl rfl rfl (by simp [go_sem, List.take_of_length_le, grammarC] <;> with_reducible rfl) rfl (by simp [go_sem, List.take_of_length_le, grammarC]) ?_
  repeat' first
    | refine Holds.seq ?_
    | refine Holds.skip ?_
    | refine Holds.exit ?_
    | refine Holds.ret ?_
    | refine thenA_normal ?_
    | refine thenA_exit ?_
    | refine thenA_ret ?_
    | refine inB_normal ?_
    | refine inB_ret ?_
    | refine inB_here ?_
    | (refine inB_past ?_ ?_; (· exact rfl))
    | refine Holds.reg ?_
    | refine Holds.block ?_
    | refine GS.nil ?_
    | refine Gd.nil ?_
    | (refine Holds.any mixed ?_ ?_; (· kernel_rfl))
    | (refine GS.step (s' := ?_) ?_ ?_ ?_; rotate_left; (· exact rfl); (· (simp [go_sem, List.take_of_length_le, grammarC] <;> with_reducible rfl)))
    | (refine GS.skip ?_ ?_ ?_; (· exact rfl); (· exact rfl))
    | (refine Gd.go (s' := ?_) ?_ ?_ ?_; rotate_left; (· exact rfl); (· (simp [go_sem, List.take_of_length_le, grammarC] <;> with_reducible rfl)))
    | (refine Gd.skip ?_ ?_ ?_; (· exact rfl); (· exact rfl))
    | fail
  first | refine GS.cc (ctcs) rfl rfl rfl rfl (by simp [go_sem, List.take_of_length_le, grammarC] <;> with_reducible rfl) rfl (by simp [go_sem, List.take_of_length_le, grammarC]) ?_ | refine Gd.cc (ctcs) rfl rfl rfl rfl (by simp [go_sem, List.take_of_length_le, grammarC] <;> with_reducible rfl) rfl (by simp [go_sem, List.take_of_length_le, grammarC]) ?_
  repeat' first
    | refine Holds.seq ?_
    | refine Holds.skip ?_
    | refine Holds.exit ?_
    | refine Holds.ret ?_
    | refine thenA_normal ?_
    | refine thenA_exit ?_
    | refine thenA_ret ?_
    | refine inB_normal ?_
    | refine inB_ret ?_
    | refine inB_here ?_
    | (refine inB_past ?_ ?_; (· exact rfl))
    | refine Holds.reg ?_
    | refine Holds.block ?_
    | refine GS.nil ?_
    | refine Gd.nil ?_
    | (refine Holds.any mixed ?_ ?_; (· kernel_rfl))
    | (refine GS.step (s' := ?_) ?_ ?_ ?_; rotate_left; (· exact rfl); (· (simp [go_sem, List.take_of_length_le, grammarC] <;> with_reducible rfl)))
    | (refine GS.skip ?_ ?_ ?_; (· exact rfl); (· exact rfl))
    | (refine Gd.go (s' := ?_) ?_ ?_ ?_; rotate_left; (· exact rfl); (· (simp [go_sem, List.take_of_length_le, grammarC] <;> with_reducible rfl)))
    | (refine Gd.skip ?_ ?_ ?_; (· exact rfl); (· exact rfl))
    | fail
  first | refine GS.cc (ctw) rfl rfl rfl rfl (by simp [go_sem, List.take_of_length_le, grammarC] <;> with_reducible rfl) rfl (by simp [go_sem, List.take_of_length_le, grammarC]) ?_ | refine Gd.cc (ctw) rfl rfl rfl rfl (by simp [go_sem, List.take_of_length_le, grammarC] <;> with_reducible rfl) rfl (by simp [go_sem, List.take_of_length_le, grammarC]) ?_
  repeat' first
    | refine Holds.seq ?_
    | refine Holds.skip ?_
    | refine Holds.exit ?_
    | refine Holds.ret ?_
    | refine thenA_normal ?_
    | refine thenA_exit ?_
    | refine thenA_ret ?_
    | refine inB_normal ?_
    | refine inB_ret ?_
    | refine inB_here ?_
    | (refine inB_past ?_ ?_; (· exact rfl))
    | refine Holds.reg ?_
    | refine Holds.block ?_
    | refine GS.nil ?_
    | refine Gd.nil ?_
    | (refine Holds.any mixed ?_ ?_; (· kernel_rfl))
    | (refine GS.step (s' := ?_) ?_ ?_ ?_; rotate_left; (· exact rfl); (· (simp [go_sem, List.take_of_length_le, grammarC] <;> with_reducible rfl)))
    | (refine GS.skip ?_ ?_ ?_; (· exact rfl); (· exact rfl))
    | (refine Gd.go (s' := ?_) ?_ ?_ ?_; rotate_left; (· exact rfl); (· (simp [go_sem, List.take_of_length_le, grammarC] <;> with_reducible rfl)))
    | (refine Gd.skip ?_ ?_ ?_; (· exact rfl); (· exact rfl))
    | fail
  first | refine GS.cc (p2) rfl rfl rfl rfl (by simp [go_sem, List.take_of_length_le, grammarC] <;> with_reducible rfl) rfl (by simp [go_sem, List.take_of_length_le, grammarC]) ?_ | refine Gd.cc (p2) rfl rfl rfl rfl (by simp [go_sem, List.take_of_length_le, grammarC] <;> with_reducible rfl) rfl (by simp [go_sem, List.take_of_length_le, grammarC]) ?_
  repeat' first
    | refine Holds.seq ?_
    | refine Holds.skip ?_
    | refine Holds.exit ?_
    | refine Holds.ret ?_
    | refine thenA_normal ?_
    | refine thenA_exit ?_
    | refine thenA_ret ?_
    | refine inB_normal ?_
    | refine inB_ret ?_
    | refine inB_here ?_
    | (refine inB_past ?_ ?_; (· exact rfl))
    | refine Holds.reg ?_
    | refine Holds.block ?_
    | refine GS.nil ?_
    | refine Gd.nil ?_
    | (refine Holds.any mixed ?_ ?_; (· kernel_rfl))
    | (refine GS.step (s' := ?_) ?_ ?_ ?_; rotate_left; (· exact rfl); (· (simp [go_sem, List.take_of_length_le] <;> with_reducible rfl)))
    | (refine GS.skip ?_ ?_ ?_; (· exact rfl); (· exact rfl))
    | (refine Gd.go (s' := ?_) ?_ ?_ ?_; rotate_left; (· exact rfl); (· (simp [go_sem, List.take_of_length_le] <;> with_reducible rfl)))
    | (refine Gd.skip ?_ ?_ ?_; (· exact rfl); (· exact rfl))
    | fail
  refine Holds.cond rfl (fun h => ?_) (fun h => ?_)
  · cases h
  repeat' first
    | refine Holds.seq ?_
    | refine Holds.skip ?_
    | refine Holds.exit ?_
    | refine Holds.ret ?_
    | refine thenA_normal ?_
    | refine thenA_exit ?_
    | refine thenA_ret ?_
    | refine inB_normal ?_
    | refine inB_ret ?_
    | refine inB_here ?_
    | (refine inB_past ?_ ?_; (· exact rfl))
    | refine Holds.reg ?_
    | refine Holds.block ?_
    | refine GS.nil ?_
    | refine Gd.nil ?_
    | (refine Holds.any mixed ?_ ?_; (· kernel_rfl))
    | (refine GS.step (s' := ?_) ?_ ?_ ?_; rotate_left; (· exact rfl); (· (simp [go_sem, List.take_of_length_le] <;> with_reducible rfl)))
    | (refine GS.skip ?_ ?_ ?_; (· exact rfl); (· exact rfl))
    | (refine Gd.go (s' := ?_) ?_ ?_ ?_; rotate_left; (· exact rfl); (· (simp [go_sem, List.take_of_length_le] <;> with_reducible rfl)))
    | (refine Gd.skip ?_ ?_ ?_; (· exact rfl); (· exact rfl))
    | fail
  first | refine GS.cc (ctg) rfl rfl rfl rfl (by simp [go_sem, List.take_of_length_le, grammarC] <;> with_reducible rfl) rfl (by simp [go_sem, List.take_of_length_le, grammarC]) ?_ | refine Gd.cc (ctg) rfl rfl rfl rfl (by simp [go_sem, List.take_of_length_le, grammarC] <;> with_reducible rfl) rfl (by simp [go_sem, List.take_of_length_le, grammarC]) ?_
  repeat' first
    | refine Holds.seq ?_
    | refine Holds.skip ?_
    | refine Holds.exit ?_
    | refine Holds.ret ?_
    | refine thenA_normal ?_
    | refine thenA_exit ?_
    | refine thenA_ret ?_
    | refine inB_normal ?_
    | refine inB_ret ?_
    | refine inB_here ?_
    | (refine inB_past ?_ ?_; (· exact rfl))
    | refine Holds.reg ?_
    | refine Holds.block ?_
    | refine GS.nil ?_
    | refine Gd.nil ?_
    | (refine Holds.any mixed ?_ ?_; (· kernel_rfl))
    | (refine GS.step (s' := ?_) ?_ ?_ ?_; rotate_left; (· exact rfl); (· (simp [go_sem, List.take_of_length_le, grammarC] <;> with_reducible rfl)))
    | (refine GS.skip ?_ ?_ ?_; (· exact rfl); (· exact rfl))
    | (refine Gd.go (s' := ?_) ?_ ?_ ?_; rotate_left; (· exact rfl); (· (simp [go_sem, List.take_of_length_le, grammarC] <;> with_reducible rfl)))
    | (refine Gd.skip ?_ ?_ ?_; (· exact rfl); (· exact rfl))
    | fail
  first | refine GS.cc (ceg) rfl rfl rfl rfl (by simp [go_sem, List.take_of_length_le, grammarC] <;> with_reducible rfl) rfl (by simp [go_sem, List.take_of_length_le, grammarC]) ?_ | refine Gd.cc (ceg) rfl rfl rfl rfl (by simp [go_sem, List.take_of_length_le, grammarC] <;> with_reducible rfl) rfl (by simp [go_sem, List.take_of_length_le, grammarC]) ?_
  repeat' first
    | refine Holds.seq ?_
    | refine Holds.skip ?_
    | refine Holds.exit ?_
    | refine Holds.ret ?_
    | refine thenA_normal ?_
    | refine thenA_exit ?_
    | refine thenA_ret ?_
    | refine inB_normal ?_
    | refine inB_ret ?_
    | refine inB_here ?_
    | (refine inB_past ?_ ?_; (· exact rfl))
    | refine Holds.reg ?_
    | refine Holds.block ?_
    | refine GS.nil ?_
    | refine Gd.nil ?_
    | (refine Holds.any mixed ?_ ?_; (· kernel_rfl))
    | (refine GS.step (s' := ?_) ?_ ?_ ?_; rotate_left; (· exact rfl); (· (simp [go_sem, List.take_of_length_le] <;> with_reducible rfl)))
    | (refine GS.skip ?_ ?_ ?_; (· exact rfl); (· exact rfl))
    | (refine Gd.go (s' := ?_) ?_ ?_ ?_; rotate_left; (· exact rfl); (· (simp [go_sem, List.take_of_length_le] <;> with_reducible rfl)))
    | (refine Gd.skip ?_ ?_ ?_; (· exact rfl); (· exact rfl))
    | fail
  refine Holds.cond rfl (fun h => ?_) (fun h => ?_)
  · cases h
  repeat' first
    | refine Holds.seq ?_
    | refine Holds.skip ?_
    | refine Holds.exit ?_
    | refine Holds.ret ?_
    | refine thenA_normal ?_
    | refine thenA_exit ?_
    | refine thenA_ret ?_
    | refine inB_normal ?_
    | refine inB_ret ?_
    | refine inB_here ?_
    | (refine inB_past ?_ ?_; (· exact rfl))
    | refine Holds.reg ?_
    | refine Holds.block ?_
    | refine GS.nil ?_
    | refine Gd.nil ?_
    | (refine Holds.any mixed ?_ ?_; (· kernel_rfl))
    | (refine GS.step (s' := ?_) ?_ ?_ ?_; rotate_left; (· exact rfl); (· (simp [go_sem, List.take_of_length_le] <;> with_reducible rfl)))
    | (refine GS.skip ?_ ?_ ?_; (· exact rfl); (· exact rfl))
    | (refine Gd.go (s' := ?_) ?_ ?_ ?_; rotate_left; (· exact rfl); (· (simp [go_sem, List.take_of_length_le] <;> with_reducible rfl)))
    | (refine Gd.skip ?_ ?_ ?_; (· exact rfl); (· exact rfl))
    | fail
  first | refine GS.cc (ctcs) rfl rfl rfl rfl (by simp [go_sem, List.take_of_length_le, grammarC] <;> with_reducible rfl) rfl (by simp [go_sem, List.take_of_length_le, grammarC]) ?_ | refine Gd.cc (ctcs) rfl rfl rfl rfl (by simp [go_sem, List.take_of_length_le, grammarC] <;> with_reducible rfl) rfl (by simp [go_sem, List.take_of_length_le, grammarC]) ?_
  repeat' first
    | refine Holds.seq ?_
    | refine Holds.skip ?_
    | refine Holds.exit ?_
    | refine Holds.ret ?_
    | refine thenA_normal ?_
    | refine thenA_exit ?_
    | refine thenA_ret ?_
    | refine inB_normal ?_
    | refine inB_ret ?_
    | refine inB_here ?_
    | (refine inB_past ?_ ?_; (· exact rfl))
    | refine Holds.reg ?_
    | refine Holds.block ?_
    | refine GS.nil ?_
    | refine Gd.nil ?_
    | (refine Holds.any mixed ?_ ?_; (· kernel_rfl))
    | (refine GS.step (s' := ?_) ?_ ?_ ?_; rotate_left; (· exact rfl); (· (simp [go_sem, List.take_of_length_le, grammarC] <;> with_reducible rfl)))
    | (refine GS.skip ?_ ?_ ?_; (· exact rfl); (· exact rfl))
    | (refine Gd.go (s' := ?_) ?_ ?_ ?_; rotate_left; (· exact rfl); (· (simp [go_sem, List.take_of_length_le, grammarC] <;> with_reducible rfl)))
    | (refine Gd.skip ?_ ?_ ?_; (· exact rfl); (· exact rfl))
    | fail
  first | refine GS.cc (cecs) rfl rfl rfl rfl (by simp [go_sem, List.take_of_length_le, grammarC] <;> with_reducible rfl) rfl (by simp [go_sem, List.take_of_length_le, grammarC]) ?_ | refine Gd.cc (cecs) rfl rfl rfl rfl (by simp [go_sem, List.take_of_length_le, grammarC] <;> with_reducible rfl) rfl (by simp [go_sem, List.take_of_length_le, grammarC]) ?_
  repeat' first
    | refine Holds.seq ?_
    | refine Holds.skip ?_
    | refine Holds.exit ?_
    | refine Holds.ret ?_
    | refine thenA_normal ?_
    | refine thenA_exit ?_
    | refine thenA_ret ?_
    | refine inB_normal ?_
    | refine inB_ret ?_
    | refine inB_here ?_
    | (refine inB_past ?_ ?_; (· exact rfl))
    | refine Holds.reg ?_
    | refine Holds.block ?_
    | refine GS.nil ?_
    | refine Gd.nil ?_
    | (refine Holds.any mixed ?_ ?_; (· kernel_rfl))
    | (refine GS.step (s' := ?_) ?_ ?_ ?_; rotate_left; (· exact rfl); (· (simp [go_sem, List.take_of_length_le] <;> with_reducible rfl)))
    | (refine GS.skip ?_ ?_ ?_; (· exact rfl); (· exact rfl))
    | (refine Gd.go (s' := ?_) ?_ ?_ ?_; rotate_left; (· exact rfl); (· (simp [go_sem, List.take_of_length_le] <;> with_reducible rfl)))
    | (refine Gd.skip ?_ ?_ ?_; (· exact rfl); (· exact rfl))
    | fail
  refine Holds.cond rfl (fun h => ?_) (fun h => ?_)
  · cases h
  repeat' first
    | refine Holds.seq ?_
    | refine Holds.skip ?_
    | refine Holds.exit ?_
    | refine Holds.ret ?_
    | refine thenA_normal ?_
    | refine thenA_exit ?_
    | refine thenA_ret ?_
    | refine inB_normal ?_
    | refine inB_ret ?_
    | refine inB_here ?_
    | (refine inB_past ?_ ?_; (· exact rfl))
    | refine Holds.reg ?_
    | refine Holds.block ?_
    | refine GS.nil ?_
    | refine Gd.nil ?_
    | (refine Holds.any mixed ?_ ?_; (· kernel_rfl))
    | (refine GS.step (s' := ?_) ?_ ?_ ?_; rotate_left; (· exact rfl); (· (simp [go_sem, List.take_of_length_le] <;> with_reducible rfl)))
    | (refine GS.skip ?_ ?_ ?_; (· exact rfl); (· exact rfl))
    | (refine Gd.go (s' := ?_) ?_ ?_ ?_; rotate_left; (· exact rfl); (· (simp [go_sem, List.take_of_length_le] <;> with_reducible rfl)))
    | (refine Gd.skip ?_ ?_ ?_; (· exact rfl); (· exact rfl))
    | fail
  first | refine GS.cc (ctw) rfl rfl rfl rfl (by simp [go_sem, List.take_of_length_le, grammarC] <;> with_reducible rfl) rfl (by simp [go_sem, List.take_of_length_le, grammarC]) ?_ | refine Gd.cc (ctw) rfl rfl rfl rfl (by simp [go_sem, List.take_of_length_le, grammarC] <;> with_reducible rfl) rfl (by simp [go_sem, List.take_of_length_le, grammarC]) ?_
  repeat' first
    | refine Holds.seq ?_
    | refine Holds.skip ?_
    | refine Holds.exit ?_
    | refine Holds.ret ?_
    | refine thenA_normal ?_
    | refine thenA_exit ?_
    | refine thenA_ret ?_
    | refine inB_normal ?_
    | refine inB_ret ?_
    | refine inB_here ?_
    | (refine inB_past ?_ ?_; (· exact rfl))
    | refine Holds.reg ?_
    | refine Holds.block ?_
    | refine GS.nil ?_
    | refine Gd.nil ?_
    | (refine Holds.any mixed ?_ ?_; (· kernel_rfl))
    | (refine GS.step (s' := ?_) ?_ ?_ ?_; rotate_left; (· exact rfl); (· (simp [go_sem, List.take_of_length_le, grammarC] <;> with_reducible rfl)))
    | (refine GS.skip ?_ ?_ ?_; (· exact rfl); (· exact rfl))
    | (refine Gd.go (s' := ?_) ?_ ?_ ?_; rotate_left; (· exact rfl); (· (simp [go_sem, List.take_of_length_le, grammarC] <;> with_reducible rfl)))
    | (refine Gd.skip ?_ ?_ ?_; (· exact rfl); (· exact rfl))
    | fail
  first | refine GS.cc (cew) rfl rfl rfl rfl (by simp [go_sem, List.take_of_length_le, grammarC] <;> with_reducible rfl) rfl (by simp [go_sem, List.take_of_length_le, grammarC]) ?_ | refine Gd.cc (cew) rfl rfl rfl rfl (by simp [go_sem, List.take_of_length_le, grammarC] <;> with_reducible rfl) rfl (by simp [go_sem, List.take_of_length_le, grammarC]) ?_
  repeat' first
    | refine Holds.seq ?_
    | refine Holds.skip ?_
    | refine Holds.exit ?_
    | refine Holds.ret ?_
    | refine thenA_normal ?_
    | refine thenA_exit ?_
    | refine thenA_ret ?_
    | refine inB_normal ?_
    | refine inB_ret ?_
    | refine inB_here ?_
    | (refine inB_past ?_ ?_; (· exact rfl))
    | refine Holds.reg ?_
    | refine Holds.block ?_
    | refine GS.nil ?_
    | refine Gd.nil ?_
    | (refine Holds.any mixed ?_ ?_; (· kernel_rfl))
    | (refine GS.step (s' := ?_) ?_ ?_ ?_; rotate_left; (· exact rfl); (· (simp [go_sem, List.take_of_length_le] <;> with_reducible rfl)))
    | (refine GS.skip ?_ ?_ ?_; (· exact rfl); (· exact rfl))
    | (refine Gd.go (s' := ?_) ?_ ?_ ?_; rotate_left; (· exact rfl); (· (simp [go_sem, List.take_of_length_le] <;> with_reducible rfl)))
    | (refine Gd.skip ?_ ?_ ?_; (· exact rfl); (· exact rfl))
    | fail
  refine Holds.cond rfl (fun h => ?_) (fun h => ?_)
  · cases h
  repeat' first
    | refine Holds.seq ?_
    | refine Holds.skip ?_
    | refine Holds.exit ?_
    | refine Holds.ret ?_
    | refine thenA_normal ?_
    | refine thenA_exit ?_
    | refine thenA_ret ?_
    | refine inB_normal ?_
    | refine inB_ret ?_
    | refine inB_here ?_
    | (refine inB_past ?_ ?_; (· exact rfl))
    | refine Holds.reg ?_
    | refine Holds.block ?_
    | refine GS.nil ?_
    | refine Gd.nil ?_
    | (refine Holds.any mixed ?_ ?_; (· kernel_rfl))
    | (refine GS.step (s' := ?_) ?_ ?_ ?_; rotate_left; (· exact rfl); (· (simp [go_sem, List.take_of_length_le] <;> with_reducible rfl)))
    | (refine GS.skip ?_ ?_ ?_; (· exact rfl); (· exact rfl))
    | (refine Gd.go (s' := ?_) ?_ ?_ ?_; rotate_left; (· exact rfl); (· (simp [go_sem, List.take_of_length_le] <;> with_reducible rfl)))
    | (refine Gd.skip ?_ ?_ ?_; (· exact rfl); (· exact rfl))
    | fail
  refine Out.mk (xs := ?_) ?_ ?_ (by first | exact .inr rfl | exact .inl rfl)
  rotate_left
  · simp [go_sem, List.take_of_length_le] <;> with_reducible rfl
  exact .v _
end Go.Proofs.Ytpnpjkkppndhfaa.En
end
