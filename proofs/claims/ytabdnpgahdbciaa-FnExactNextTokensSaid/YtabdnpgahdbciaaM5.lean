/- Own words and walks of this claim, part 5: what the program's functions compute, for all the arguments that are named; no further conditions. -/
import Derived.Test.YtabdnpgahdbciaaM4
import Derived.Test.YtabdnpgahdbciaaM3
import Derived.Test.YtabdnpgahdbciaaM2
section
namespace Go.Proofs.Ytabdnpgahdbciaa.En
open Go.RowKit
set_option linter.unusedSimpArgs false
set_option linter.unusedVariables false
set_option maxHeartbeats 4000000
theorem impsR_mono (g : GrammarT) : ∀ p ∈ impsR g, MonI p := by
  intro p hp
  rw [impsR_eq] at hp
  rcases List.mem_cons.1 hp with e | e
  · subst e; exact fun S T _ _ => rfl
  · obtain ⟨r, _, hr⟩ := List.mem_flatMap.1 e
    obtain ⟨x, _, rfl⟩ := List.mem_map.1 hr
    exact impR_mono _ _
theorem reach_imp {g g2 : GrammarT} {T : Int → Bool} (h0 : T 0 = true) (h : ∀ r ∈ g.2.2, T r.1 = true → ∀ x ∈ r.2, 0 ≤ x → T x = true) : ∀ x, reachS g x = true → T x = true := fun x hx => lfpI_iff.1 hx T fun p hp h1 => by
  rw [impsR_eq] at hp
  rcases List.mem_cons.1 hp with e | e
  · subst e; exact h0
  · obtain ⟨r, hr, hq⟩ := List.mem_flatMap.1 e
    obtain ⟨y, hy, rfl⟩ := List.mem_map.1 hq
    simp only [impR, Bool.and_eq_true, decide_eq_true_eq] at h1 ⊢
    exact h r hr h1.2 y hy h1.1
theorem reach_zero (g : GrammarT) : reachS g 0 = true := lfpI_clo (impsR_mono g) impZ (List.mem_cons_self) rfl
theorem reach_step {g : GrammarT} {r : RuleT} (hr : r ∈ g.2.2) (h : reachS g r.1 = true) {x : Int} (hx : x ∈ r.2) (h0 : 0 ≤ x) : reachS g x = true :=
  lfpI_clo (impsR_mono g) _ (impR_mem hr hx) (by show (decide (0 ≤ x) && reachS g r.1) = true; rw [h]; simp [h0])
theorem reach_sub {g g2 : GrammarT} (h : ∀ r ∈ g.2.2, r ∈ g2.2.2) : ∀ x, reachS g x = true → reachS g2 x = true :=
  reach_imp (g2 := g2) (reach_zero g2) fun r hr h1 x hx h0 => reach_step (h r hr) h1 hx h0
noncomputable def okU (g : GrammarT) (r : RuleT) : Bool := madeS g true r.1 && okM true (madeS g true) r.2
noncomputable def usF (g : GrammarT) : GrammarT := (g.1, g.2.1, g.2.2.filter (okU g))
noncomputable def usG (g : GrammarT) : GrammarT := (g.1, g.2.1, g.2.2.filter fun r => reachS g r.1 && okU g r)
noncomputable def usefulG (g : GrammarT) : GrammarT := (g.1, g.2.1, (usF g).2.2.filter fun r => reachS (usF g) r.1)
theorem us_reach (g : GrammarT) : reachS (usG g) = reachS (usF g) := by
  funext x
  rw [Bool.eq_iff_iff]
  constructor
  · exact reach_sub (fun r hr => by
      simp only [usG, usF, List.mem_filter, Bool.and_eq_true] at hr ⊢
      exact ⟨hr.1, hr.2.2⟩) x
  · refine reach_imp (g2 := g) (reach_zero _) (fun r hr h1 y hy h0 => ?_) x
    have h2 : reachS g r.1 = true := reach_sub (g := usG g) (fun q hq => by
      simp only [usG, List.mem_filter] at hq
      exact hq.1) r.1 h1
    refine reach_step (g := usG g) (r := r) ?_ h1 hy h0
    simp only [usF, List.mem_filter] at hr
    simp only [usG, List.mem_filter, Bool.and_eq_true]
    exact ⟨hr.1, h2, hr.2⟩
theorem us_eq (g : GrammarT) : ((usG g).2.2.filter fun r => reachS (usG g) r.1) = (usefulG g).2.2 := by
  rw [us_reach]
  show (List.filter _ (List.filter _ g.2.2)) = List.filter _ (List.filter _ g.2.2)
  rw [List.filter_filter, List.filter_filter]
  refine List.filter_congr fun r hr => ?_
  cases h : reachS (usF g) r.1 with
  | false => simp
  | true =>
    have : reachS g r.1 = true := reach_sub (g := usF g) (fun q hq => by
      simp only [usF, List.mem_filter] at hq
      exact hq.1) r.1 h
    rw [this]; simp
theorem OkG.sub {g g2 : GrammarT} (h : OkG g) (h1 : g2.1 = g.1) (h2 : g2.2.1 = g.2.1) (hs : ∀ r ∈ g2.2.2, r ∈ g.2.2) (hl : g2.2.2.length ≤ g.2.2.length) : OkG g2 where
  n0 := by rw [h1]; exact h.n0
  n1 := by rw [h1]; exact h.n1
  t0 := by rw [h2]; exact h.t0
  t1 := by rw [h2]; exact h.t1
  len := Nat.le_trans hl h.len
  l0 := fun r hr => h.l0 r (hs r hr)
  l1 := fun r hr => by rw [h1]; exact h.l1 r (hs r hr)
  r4 := fun r hr => h.r4 r (hs r hr)
  s0 := fun r hr => by rw [h2]; exact h.s0 r (hs r hr)
  s1 := fun r hr => by rw [h1]; exact h.s1 r (hs r hr)
theorem usF_ok {g : GrammarT} (h : OkG g) : OkG (usF g) := h.sub rfl rfl (fun r hr => (List.mem_filter.1 hr).1) (List.length_filter_le _ _)
theorem usG_ok {g : GrammarT} (h : OkG g) : OkG (usG g) := h.sub rfl rfl (fun r hr => (List.mem_filter.1 hr).1) (List.length_filter_le _ _)
theorem useful_ok {g : GrammarT} (h : OkG g) : OkG (usefulG g) := (usF_ok h).sub rfl rfl (fun r hr => (List.mem_filter.1 hr).1) (List.length_filter_le _ _)
/-! ### the closures -/
theorem lost2 (S : Int → Bool) (x : Int) (hx : x ≤ 5) : Pure Try.prog 74 [.v (.int .i64 x), .pi (cellsN S)] (.v (.bool (decide (0 ≤ x) && !S x))) := by
  refine Pure.mk (rs := [.tmp 3]) (nt := 12) Try.func74 (by kernel_rfl) rfl rfl rfl (by simp) ?_
  simp only [sl]
  by_cases h : 0 ≤ x
  · obtain ⟨n, rfl⟩ : ∃ n : Nat, x = (n : Int) := ⟨x.toNat, by omega⟩
    have hn6 : n < 6 := by omega
    have hcn := cellsN_at S hn6
    rw [decide_eq_true h, Bool.true_and]
    repeat' first | (refine Holds.condT ?_ ?_; (· (simp [go_sem, List.take_of_length_le, h, hn6, get_E hcn, hcn] <;> with_reducible rfl))) | (refine Holds.condF ?_ ?_; (· (simp [go_sem, List.take_of_length_le, h, hn6, get_E hcn, hcn] <;> with_reducible rfl))) | refine Holds.seq ?_ | refine Holds.skip ?_ | refine Holds.exit ?_ | refine Holds.ret ?_ | refine thenA_normal ?_ | refine thenA_exit ?_ | refine thenA_ret ?_ | refine inB_normal ?_ | refine inB_ret ?_ | refine inB_here ?_ | (refine inB_past ?_ ?_; (· exact rfl)) | refine Holds.reg ?_ | refine Holds.block ?_ | refine GS.nil ?_ | (refine GS.step (s' := ?_) ?_ ?_ ?_; rotate_left; (· exact rfl); (· (simp [go_sem, List.take_of_length_le, h, hn6, get_E hcn, hcn] <;> with_reducible rfl))) | (refine GS.skip ?_ ?_ ?_; (· exact rfl); (· exact rfl)) | fail
    refine Out.mk (xs := ?_) ?_ ?_ (by first | exact .inr rfl | exact .inl rfl)
    rotate_left
    · simp [go_sem, List.take_of_length_le] <;> with_reducible rfl
    exact .v _
  · rw [decide_eq_false h, Bool.false_and]
    repeat' first | (refine Holds.condT ?_ ?_; (· (simp [go_sem, List.take_of_length_le, h] <;> with_reducible rfl))) | (refine Holds.condF ?_ ?_; (· (simp [go_sem, List.take_of_length_le, h] <;> with_reducible rfl))) | refine Holds.seq ?_ | refine Holds.skip ?_ | refine Holds.exit ?_ | refine Holds.ret ?_ | refine thenA_normal ?_ | refine thenA_exit ?_ | refine thenA_ret ?_ | refine inB_normal ?_ | refine inB_ret ?_ | refine inB_here ?_ | (refine inB_past ?_ ?_; (· exact rfl)) | refine Holds.reg ?_ | refine Holds.block ?_ | refine GS.nil ?_ | (refine GS.step (s' := ?_) ?_ ?_ ?_; rotate_left; (· exact rfl); (· (simp [go_sem, List.take_of_length_le, h] <;> with_reducible rfl))) | (refine GS.skip ?_ ?_ ?_; (· exact rfl); (· exact rfl)) | fail
    refine Out.mk (xs := ?_) ?_ ?_ (by first | exact .inr rfl | exact .inl rfl)
    rotate_left
    · simp [go_sem, List.take_of_length_le] <;> with_reducible rfl
    exact .v _
def dropU (R M : Int → Bool) (r : RuleT) : Bool := !R r.1 || !M r.1 || r.2.any fun x => decide (0 ≤ x) && !M x
theorem drop1 (g : GrammarT) (hG : OkG g) (R M : Int → Bool) (r : RuleT) (hr : r ∈ g.2.2) : Pure Try.prog 73 [.ag (ruleC r), .pi (cellsN R), .pi (cellsN M)] (.v (.bool (dropU R M r))) := by
  have h4 := hG.r4 r hr
  have h5 := hG.s1 r hr
  have h6 := hG.n1
  have h0 := hG.l0 r hr
  have h1 := hG.l1 r hr
  have cf := containsFuncInt 74 [.pi (cellsN M)] (fun x => decide (0 ≤ x) && !M x) r.2 (by omega) rfl (fun x hx => lost2 M x (by have := h5 x hx; omega))
  unfold dropU
  generalize (r.2.any fun x => decide (0 ≤ x) && !M x) = b at cf ⊢
  obtain ⟨left, right⟩ := r
  dsimp only at h0 h1 cf ⊢
  obtain ⟨n, rfl⟩ : ∃ n : Nat, left = (n : Int) := ⟨left.toNat, by omega⟩
  have hn6 : n < 6 := by omega
  have hR := cellsN_at R hn6
  have hM := cellsN_at M hn6
  refine Pure.mk (rs := [.tmp 4]) (nt := 23) Try.func73 (by kernel_rfl) rfl rfl rfl (by simp) ?_
  simp only [sl, ruleC]
  cases hRn : R (n : Int) with
  | false =>
    simp only [Bool.not_false, Bool.true_or]
    repeat' first | (refine Holds.condT ?_ ?_; (· (simp [go_sem, List.take_of_length_le, ruleC, hn6, get_E hR, hR, hRn] <;> with_reducible rfl))) | (refine Holds.condF ?_ ?_; (· (simp [go_sem, List.take_of_length_le, ruleC, hn6, get_E hR, hR, hRn] <;> with_reducible rfl))) | refine Holds.seq ?_ | refine Holds.skip ?_ | refine Holds.exit ?_ | refine Holds.ret ?_ | refine thenA_normal ?_ | refine thenA_exit ?_ | refine thenA_ret ?_ | refine inB_normal ?_ | refine inB_ret ?_ | refine inB_here ?_ | (refine inB_past ?_ ?_; (· exact rfl)) | refine Holds.reg ?_ | refine Holds.block ?_ | refine GS.nil ?_ | (refine GS.step (s' := ?_) ?_ ?_ ?_; rotate_left; (· exact rfl); (· (simp [go_sem, List.take_of_length_le, ruleC, hn6, get_E hR, hR, hRn] <;> with_reducible rfl))) | (refine GS.skip ?_ ?_ ?_; (· exact rfl); (· exact rfl)) | fail
    refine Out.mk (xs := ?_) ?_ ?_ (by first | exact .inr rfl | exact .inl rfl)
    rotate_left
    · simp [go_sem, List.take_of_length_le] <;> with_reducible rfl
    exact .v _
  | true =>
    cases hMn : M (n : Int) with
    | false =>
      simp only [Bool.not_false, Bool.true_or, Bool.or_true]
      repeat' first | (refine Holds.condT ?_ ?_; (· (simp [go_sem, List.take_of_length_le, ruleC, hn6, get_E hR, hR, hRn, get_E hM, hM, hMn] <;> with_reducible rfl))) | (refine Holds.condF ?_ ?_; (· (simp [go_sem, List.take_of_length_le, ruleC, hn6, get_E hR, hR, hRn, get_E hM, hM, hMn] <;> with_reducible rfl))) | refine Holds.seq ?_ | refine Holds.skip ?_ | refine Holds.exit ?_ | refine Holds.ret ?_ | refine thenA_normal ?_ | refine thenA_exit ?_ | refine thenA_ret ?_ | refine inB_normal ?_ | refine inB_ret ?_ | refine inB_here ?_ | (refine inB_past ?_ ?_; (· exact rfl)) | refine Holds.reg ?_ | refine Holds.block ?_ | refine GS.nil ?_ | (refine GS.step (s' := ?_) ?_ ?_ ?_; rotate_left; (· exact rfl); (· (simp [go_sem, List.take_of_length_le, ruleC, hn6, get_E hR, hR, hRn, get_E hM, hM, hMn] <;> with_reducible rfl))) | (refine GS.skip ?_ ?_ ?_; (· exact rfl); (· exact rfl)) | fail
      refine Out.mk (xs := ?_) ?_ ?_ (by first | exact .inr rfl | exact .inl rfl)
      rotate_left
      · simp [go_sem, List.take_of_length_le] <;> with_reducible rfl
      exact .v _
    | true =>
      simp only [Bool.not_true, Bool.false_or]
      repeat' first | (refine Holds.condT ?_ ?_; (· (simp [go_sem, List.take_of_length_le, ruleC, hn6, get_E hR, hR, hRn, get_E hM, hM, hMn] <;> with_reducible rfl))) | (refine Holds.condF ?_ ?_; (· (simp [go_sem, List.take_of_length_le, ruleC, hn6, get_E hR, hR, hRn, get_E hM, hM, hMn] <;> with_reducible rfl))) | refine Holds.seq ?_ | refine Holds.skip ?_ | refine Holds.exit ?_ | refine Holds.ret ?_ | refine thenA_normal ?_ | refine thenA_exit ?_ | refine thenA_ret ?_ | refine inB_normal ?_ | refine inB_ret ?_ | refine inB_here ?_ | (refine inB_past ?_ ?_; (· exact rfl)) | refine Holds.reg ?_ | refine Holds.block ?_ | refine GS.nil ?_ | (refine GS.step (s' := ?_) ?_ ?_ ?_; rotate_left; (· exact rfl); (· (simp [go_sem, List.take_of_length_le, ruleC, hn6, get_E hR, hR, hRn, get_E hM, hM, hMn] <;> with_reducible rfl))) | (refine GS.skip ?_ ?_ ?_; (· exact rfl); (· exact rfl)) | fail
      refine GS.cc (cf) rfl rfl rfl rfl (by simp [go_sem, List.take_of_length_le, ruleC, cellsN] <;> with_reducible rfl) rfl (by simp [go_sem, List.take_of_length_le, ruleC, cellsN]) ?_
      repeat' first | (refine Holds.condT ?_ ?_; (· (simp [go_sem, List.take_of_length_le] <;> with_reducible rfl))) | (refine Holds.condF ?_ ?_; (· (simp [go_sem, List.take_of_length_le] <;> with_reducible rfl))) | refine Holds.seq ?_ | refine Holds.skip ?_ | refine Holds.exit ?_ | refine Holds.ret ?_ | refine thenA_normal ?_ | refine thenA_exit ?_ | refine thenA_ret ?_ | refine inB_normal ?_ | refine inB_ret ?_ | refine inB_here ?_ | (refine inB_past ?_ ?_; (· exact rfl)) | refine Holds.reg ?_ | refine Holds.block ?_ | refine GS.nil ?_ | (refine GS.step (s' := ?_) ?_ ?_ ?_; rotate_left; (· exact rfl); (· (simp [go_sem, List.take_of_length_le] <;> with_reducible rfl))) | (refine GS.skip ?_ ?_ ?_; (· exact rfl); (· exact rfl)) | fail
      refine Out.mk (xs := ?_) ?_ ?_ (by first | exact .inr rfl | exact .inl rfl)
      rotate_left
      · simp [go_sem, List.take_of_length_le] <;> with_reducible rfl
      exact .v _
theorem drop2 (g : GrammarT) (hG : OkG g) (R : Int → Bool) (r : RuleT) (hr : r ∈ g.2.2) : Pure Try.prog 75 [.ag (ruleC r), .pi (cellsN R)] (.v (.bool (!R r.1))) := by
  have h6 := hG.n1
  have h0 := hG.l0 r hr
  have h1 := hG.l1 r hr
  obtain ⟨left, right⟩ := r
  dsimp only at h0 h1 ⊢
  obtain ⟨n, rfl⟩ : ∃ n : Nat, left = (n : Int) := ⟨left.toNat, by omega⟩
  have hn6 : n < 6 := by omega
  have hR := cellsN_at R hn6
  refine Pure.mk (rs := [.tmp 3]) (nt := 9) Try.func75 (by kernel_rfl) rfl rfl rfl (by simp) ?_
  simp only [sl, ruleC]
  repeat' first | (refine Holds.condT ?_ ?_; (· (simp [go_sem, List.take_of_length_le, ruleC, hn6, get_E hR, hR] <;> with_reducible rfl))) | (refine Holds.condF ?_ ?_; (· (simp [go_sem, List.take_of_length_le, ruleC, hn6, get_E hR, hR] <;> with_reducible rfl))) | refine Holds.seq ?_ | refine Holds.skip ?_ | refine Holds.exit ?_ | refine Holds.ret ?_ | refine thenA_normal ?_ | refine thenA_exit ?_ | refine thenA_ret ?_ | refine inB_normal ?_ | refine inB_ret ?_ | refine inB_here ?_ | (refine inB_past ?_ ?_; (· exact rfl)) | refine Holds.reg ?_ | refine Holds.block ?_ | refine GS.nil ?_ | (refine GS.step (s' := ?_) ?_ ?_ ?_; rotate_left; (· exact rfl); (· (simp [go_sem, List.take_of_length_le, ruleC, hn6, get_E hR, hR] <;> with_reducible rfl))) | (refine GS.skip ?_ ?_ ?_; (· exact rfl); (· exact rfl)) | fail
  refine Out.mk (xs := ?_) ?_ ?_ (by first | exact .inr rfl | exact .inl rfl)
  rotate_left
  · simp [go_sem, List.take_of_length_le] <;> with_reducible rfl
  exact .v _
theorem dropU_not (g : GrammarT) (r : RuleT) : (!dropU (reachS g) (madeS g true) r) = (reachS g r.1 && okU g r) := by
  rw [dropU, okU, okM_true]
  cases reachS g r.1 <;> cases madeS g true r.1 <;> simp
end Go.Proofs.Ytabdnpgahdbciaa.En
end
section
namespace Go.Proofs.Ytabdnpgahdbciaa.En
open Go.RowKit
set_option linter.unusedSimpArgs false
set_option linter.unusedVariables false
set_option maxHeartbeats 4000000
theorem implUseful (g : GrammarT) (hG : OkG g) : Fn Try.prog 40 0 [.ag (grammarC g)] [] (.ag [.v (.int .i64 g.1), .v (.int .i64 g.2.1), .own 0 2 0 (usefulG g).2.2.length]) 1 [(0, ⟨60, 2, rules (usefulG g).2.2⟩)] := by
  have hlen := hG.len
  have cp := productiveG g hG
  have cr := reachedG g hG
  have cc := copyG g hG
  have hG1 := usG_ok hG
  have cr1 := reachedG (usG g) hG1
  have hu1 : (g.2.2.filter fun x => !dropU (reachS g) (madeS g true) x) = (usG g).2.2 := List.filter_congr fun r _ => dropU_not g r
  have cd1 := deleteRules1 (reachS g) (madeS g true) (dropU (reachS g) (madeS g true)) g.2.2 (by omega) (fun x hx => drop1 g hG _ _ x hx)
  rw [hu1] at cd1
  have hlen1 := hG1.len
  have cd2 := deleteRules2 (reachS (usG g)) (fun r => !reachS (usG g) r.1) (usG g).2.2 (by omega) (fun x hx => drop2 (usG g) hG1 _ x hx)
  simp only [Bool.not_not] at cd2
  rw [us_eq] at cd2
  have e1 : (usG g).1 = g.1 := rfl
  have e2 : (usG g).2.1 = g.2.1 := rfl
  have hgc : grammarC (usG g) = [.v (.int .i64 g.1), .v (.int .i64 g.2.1), .im 2 (rules (usG g).2.2)] := rfl
  rw [hgc] at cr1
  generalize (usefulG g).2.2 = us at cd2 ⊢
  generalize (usG g).2.2 = u1 at cd1 cd2 cr1 hlen1
  generalize reachS (usG g) = R1 at cd2 cr1
  generalize reachS g = R at cr cd1
  generalize madeS g true = M at cp cd1
  refine Fn.mk (rs := [.cell 2 31]) (nt := 25) Try.func40 (by kernel_rfl) rfl rfl rfl (by simp) ?_
  simp only [sl, grammarC]
  repeat' first | (refine Holds.condT ?_ ?_; (· (simp [go_sem, List.take_of_length_le, grammarC] <;> with_reducible rfl))) | (refine Holds.condF ?_ ?_; (· (simp [go_sem, List.take_of_length_le, grammarC] <;> with_reducible rfl))) | refine Holds.seq ?_ | refine Holds.skip ?_ | refine Holds.exit ?_ | refine Holds.ret ?_ | refine thenA_normal ?_ | refine thenA_exit ?_ | refine thenA_ret ?_ | refine inB_normal ?_ | refine inB_ret ?_ | refine inB_here ?_ | (refine inB_past ?_ ?_; (· exact rfl)) | refine Holds.reg ?_ | refine Holds.block ?_ | refine GS.nil ?_ | refine Gd.nil ?_ | (refine GS.step (s' := ?_) ?_ ?_ ?_; rotate_left; (· exact rfl); (· (simp [go_sem, List.take_of_length_le, grammarC] <;> with_reducible rfl))) | (refine GS.skip ?_ ?_ ?_; (· exact rfl); (· exact rfl)) | (refine Gd.go (s' := ?_) ?_ ?_ ?_; rotate_left; (· exact rfl); (· (simp [go_sem, List.take_of_length_le, grammarC] <;> with_reducible rfl))) | (refine Gd.skip ?_ ?_ ?_; (· exact rfl); (· exact rfl)) | fail
  refine Holds.dia (c := 4) (⟨[(1, .pb 0 3 0 0), (2, .pb 1 3 0 0), (3, .pb 2 6 0 0), (4, .pb 3 6 0 0)], [(3, ⟨89, 6, [cellsN R]⟩), (2, ⟨89, 6, [cellsN M]⟩), (1, ⟨31, 3, [[.v (.int .i64 0), .v (.int .i64 0), .v (.slice none 0 0)]]⟩), (0, ⟨31, 3, [grammarC g]⟩)], 4⟩) [4, 5, 1006, 1007] [0, 1, 2, 3] (fun n => decide (2 ≤ n)) mixed (by exact rfl) (by exact rfl) ?_ ?_ ?_ ?_
  · kernel_rfl
  · kernel_rfl
  all_goals (try show Gx _ _ _ _ _ _ _ 0 [_, _, _, _] _)
  · repeat' first | (refine Holds.condT ?_ ?_; (· (simp [go_sem, List.take_of_length_le, grammarC] <;> with_reducible rfl))) | (refine Holds.condF ?_ ?_; (· (simp [go_sem, List.take_of_length_le, grammarC] <;> with_reducible rfl))) | refine Holds.seq ?_ | refine Holds.skip ?_ | refine Holds.exit ?_ | refine Holds.ret ?_ | refine thenA_normal ?_ | refine thenA_exit ?_ | refine thenA_ret ?_ | refine inB_normal ?_ | refine inB_ret ?_ | refine inB_here ?_ | (refine inB_past ?_ ?_; (· exact rfl)) | refine Holds.reg ?_ | refine Holds.block ?_ | refine GS.nil ?_ | refine Gd.nil ?_ | (refine Holds.any mixed ?_ ?_; (· kernel_rfl)) | (refine GS.step (s' := ?_) ?_ ?_ ?_; rotate_left; (· exact rfl); (· (simp [go_sem, List.take_of_length_le, grammarC] <;> with_reducible rfl))) | (refine GS.skip ?_ ?_ ?_; (· exact rfl); (· exact rfl)) | (refine Gd.go (s' := ?_) ?_ ?_ ?_; rotate_left; (· exact rfl); (· (simp [go_sem, List.take_of_length_le, grammarC] <;> with_reducible rfl))) | (refine Gd.skip ?_ ?_ ?_; (· exact rfl); (· exact rfl)) | refine Gx.nil ?_ | (refine Gx.go (s' := ?_) rfl ?_ ?_ ?_; rotate_left; (· exact rfl); (· (simp [go_sem, List.take_of_length_le, grammarC] <;> with_reducible rfl))) | (refine Gx.skip rfl ?_ ?_ ?_; (· exact rfl); (· exact rfl)) | (refine Gx.skipO rfl ?_ ?_ ?_; (· exact rfl); (· exact rfl)) | (refine Gx.wo (s' := ?_) rfl ?_ ?_ ?_; rotate_left; (· exact rfl); (· (simp [go_sem, List.take_of_length_le, grammarC] <;> with_reducible rfl))) | (refine Gx.skipW rfl ?_ ?_ ?_; (· exact rfl); (· exact rfl)) | (refine Gx.skipH rfl ?_ ?_ ?_; (· exact rfl); (· exact rfl)) | (refine Gx.hid (r := ?_) rfl ?_ ?_ ?_ ?_; rotate_left; (· exact rfl); (· exact rfl); (· (simp [go_sem, List.take_of_length_le, grammarC] <;> with_reducible rfl))) | (refine Gx.wr (s' := ?_) rfl ?_ ?_ ?_ ?_; rotate_left; (· exact rfl); (· (simp [go_sem, List.take_of_length_le, grammarC] <;> with_reducible rfl)); (· (simp [go_sem, List.take_of_length_le, grammarC]))) | fail
    first | refine GS.cc (cp) rfl rfl rfl rfl (by simp [go_sem, List.take_of_length_le, grammarC, cellsN] <;> with_reducible rfl) rfl (by simp [go_sem, List.take_of_length_le, grammarC, cellsN]) ?_ | refine Gd.cc (cp) rfl rfl rfl rfl (by simp [go_sem, List.take_of_length_le, grammarC, cellsN] <;> with_reducible rfl) rfl (by simp [go_sem, List.take_of_length_le, grammarC, cellsN]) ?_ | refine Gx.cc (cp) rfl rfl rfl rfl rfl (by simp [go_sem, List.take_of_length_le, grammarC, cellsN] <;> with_reducible rfl) rfl (by simp [go_sem, List.take_of_length_le, grammarC, cellsN]) ?_ | refine Gx.cch (cp) rfl rfl rfl rfl rfl (by simp [go_sem, List.take_of_length_le, grammarC, cellsN] <;> with_reducible rfl) rfl (by simp [go_sem, List.take_of_length_le, grammarC, cellsN]) ?_
    repeat' first | (refine Holds.condT ?_ ?_; (· (simp [go_sem, List.take_of_length_le, grammarC] <;> with_reducible rfl))) | (refine Holds.condF ?_ ?_; (· (simp [go_sem, List.take_of_length_le, grammarC] <;> with_reducible rfl))) | refine Holds.seq ?_ | refine Holds.skip ?_ | refine Holds.exit ?_ | refine Holds.ret ?_ | refine thenA_normal ?_ | refine thenA_exit ?_ | refine thenA_ret ?_ | refine inB_normal ?_ | refine inB_ret ?_ | refine inB_here ?_ | (refine inB_past ?_ ?_; (· exact rfl)) | refine Holds.reg ?_ | refine Holds.block ?_ | refine GS.nil ?_ | refine Gd.nil ?_ | (refine Holds.any mixed ?_ ?_; (· kernel_rfl)) | (refine GS.step (s' := ?_) ?_ ?_ ?_; rotate_left; (· exact rfl); (· (simp [go_sem, List.take_of_length_le, grammarC] <;> with_reducible rfl))) | (refine GS.skip ?_ ?_ ?_; (· exact rfl); (· exact rfl)) | (refine Gd.go (s' := ?_) ?_ ?_ ?_; rotate_left; (· exact rfl); (· (simp [go_sem, List.take_of_length_le, grammarC] <;> with_reducible rfl))) | (refine Gd.skip ?_ ?_ ?_; (· exact rfl); (· exact rfl)) | refine Gx.nil ?_ | (refine Gx.go (s' := ?_) rfl ?_ ?_ ?_; rotate_left; (· exact rfl); (· (simp [go_sem, List.take_of_length_le, grammarC] <;> with_reducible rfl))) | (refine Gx.skip rfl ?_ ?_ ?_; (· exact rfl); (· exact rfl)) | (refine Gx.skipO rfl ?_ ?_ ?_; (· exact rfl); (· exact rfl)) | (refine Gx.wo (s' := ?_) rfl ?_ ?_ ?_; rotate_left; (· exact rfl); (· (simp [go_sem, List.take_of_length_le, grammarC] <;> with_reducible rfl))) | (refine Gx.skipW rfl ?_ ?_ ?_; (· exact rfl); (· exact rfl)) | (refine Gx.skipH rfl ?_ ?_ ?_; (· exact rfl); (· exact rfl)) | (refine Gx.hid (r := ?_) rfl ?_ ?_ ?_ ?_; rotate_left; (· exact rfl); (· exact rfl); (· (simp [go_sem, List.take_of_length_le, grammarC] <;> with_reducible rfl))) | (refine Gx.wr (s' := ?_) rfl ?_ ?_ ?_ ?_; rotate_left; (· exact rfl); (· (simp [go_sem, List.take_of_length_le, grammarC] <;> with_reducible rfl)); (· (simp [go_sem, List.take_of_length_le, grammarC]))) | fail
    first | refine GS.cc (cr) rfl rfl rfl rfl (by simp [go_sem, List.take_of_length_le, grammarC, cellsN] <;> with_reducible rfl) rfl (by simp [go_sem, List.take_of_length_le, grammarC, cellsN]) ?_ | refine Gd.cc (cr) rfl rfl rfl rfl (by simp [go_sem, List.take_of_length_le, grammarC, cellsN] <;> with_reducible rfl) rfl (by simp [go_sem, List.take_of_length_le, grammarC, cellsN]) ?_ | refine Gx.cc (cr) rfl rfl rfl rfl rfl (by simp [go_sem, List.take_of_length_le, grammarC, cellsN] <;> with_reducible rfl) rfl (by simp [go_sem, List.take_of_length_le, grammarC, cellsN]) ?_ | refine Gx.cch (cr) rfl rfl rfl rfl rfl (by simp [go_sem, List.take_of_length_le, grammarC, cellsN] <;> with_reducible rfl) rfl (by simp [go_sem, List.take_of_length_le, grammarC, cellsN]) ?_
    repeat' first | (refine Holds.condT ?_ ?_; (· (simp [go_sem, List.take_of_length_le, grammarC] <;> with_reducible rfl))) | (refine Holds.condF ?_ ?_; (· (simp [go_sem, List.take_of_length_le, grammarC] <;> with_reducible rfl))) | refine Holds.seq ?_ | refine Holds.skip ?_ | refine Holds.exit ?_ | refine Holds.ret ?_ | refine thenA_normal ?_ | refine thenA_exit ?_ | refine thenA_ret ?_ | refine inB_normal ?_ | refine inB_ret ?_ | refine inB_here ?_ | (refine inB_past ?_ ?_; (· exact rfl)) | refine Holds.reg ?_ | refine Holds.block ?_ | refine GS.nil ?_ | refine Gd.nil ?_ | (refine Holds.any mixed ?_ ?_; (· kernel_rfl)) | (refine GS.step (s' := ?_) ?_ ?_ ?_; rotate_left; (· exact rfl); (· (simp [go_sem, List.take_of_length_le, grammarC] <;> with_reducible rfl))) | (refine GS.skip ?_ ?_ ?_; (· exact rfl); (· exact rfl)) | (refine Gd.go (s' := ?_) ?_ ?_ ?_; rotate_left; (· exact rfl); (· (simp [go_sem, List.take_of_length_le, grammarC] <;> with_reducible rfl))) | (refine Gd.skip ?_ ?_ ?_; (· exact rfl); (· exact rfl)) | refine Gx.nil ?_ | (refine Gx.go (s' := ?_) rfl ?_ ?_ ?_; rotate_left; (· exact rfl); (· (simp [go_sem, List.take_of_length_le, grammarC] <;> with_reducible rfl))) | (refine Gx.skip rfl ?_ ?_ ?_; (· exact rfl); (· exact rfl)) | (refine Gx.skipO rfl ?_ ?_ ?_; (· exact rfl); (· exact rfl)) | (refine Gx.wo (s' := ?_) rfl ?_ ?_ ?_; rotate_left; (· exact rfl); (· (simp [go_sem, List.take_of_length_le, grammarC] <;> with_reducible rfl))) | (refine Gx.skipW rfl ?_ ?_ ?_; (· exact rfl); (· exact rfl)) | (refine Gx.skipH rfl ?_ ?_ ?_; (· exact rfl); (· exact rfl)) | (refine Gx.hid (r := ?_) rfl ?_ ?_ ?_ ?_; rotate_left; (· exact rfl); (· exact rfl); (· (simp [go_sem, List.take_of_length_le, grammarC] <;> with_reducible rfl))) | (refine Gx.wr (s' := ?_) rfl ?_ ?_ ?_ ?_; rotate_left; (· exact rfl); (· (simp [go_sem, List.take_of_length_le, grammarC] <;> with_reducible rfl)); (· (simp [go_sem, List.take_of_length_le, grammarC]))) | fail
    refine And.intro ?_ ?_
    · repeat' first | (refine Holds.condT ?_ ?_; (· (simp [go_sem, List.take_of_length_le, cellsN] <;> with_reducible rfl))) | (refine Holds.condF ?_ ?_; (· (simp [go_sem, List.take_of_length_le, cellsN] <;> with_reducible rfl))) | refine Holds.seq ?_ | refine Holds.skip ?_ | refine Holds.exit ?_ | refine Holds.ret ?_ | refine thenA_normal ?_ | refine thenA_exit ?_ | refine thenA_ret ?_ | refine inB_normal ?_ | refine inB_ret ?_ | refine inB_here ?_ | (refine inB_past ?_ ?_; (· exact rfl)) | refine Holds.reg ?_ | refine Holds.block ?_ | refine GS.nil ?_ | refine Gd.nil ?_ | (refine Holds.any mixed ?_ ?_; (· kernel_rfl)) | (refine GS.step (s' := ?_) ?_ ?_ ?_; rotate_left; (· exact rfl); (· (simp [go_sem, List.take_of_length_le, cellsN] <;> with_reducible rfl))) | (refine GS.skip ?_ ?_ ?_; (· exact rfl); (· exact rfl)) | (refine Gd.go (s' := ?_) ?_ ?_ ?_; rotate_left; (· exact rfl); (· (simp [go_sem, List.take_of_length_le, cellsN] <;> with_reducible rfl))) | (refine Gd.skip ?_ ?_ ?_; (· exact rfl); (· exact rfl)) | refine Gx.nil ?_ | (refine Gx.go (s' := ?_) rfl ?_ ?_ ?_; rotate_left; (· exact rfl); (· (simp [go_sem, List.take_of_length_le, cellsN] <;> with_reducible rfl))) | (refine Gx.skip rfl ?_ ?_ ?_; (· exact rfl); (· exact rfl)) | (refine Gx.skipO rfl ?_ ?_ ?_; (· exact rfl); (· exact rfl)) | (refine Gx.wo (s' := ?_) rfl ?_ ?_ ?_; rotate_left; (· exact rfl); (· (simp [go_sem, List.take_of_length_le, cellsN] <;> with_reducible rfl))) | (refine Gx.skipW rfl ?_ ?_ ?_; (· exact rfl); (· exact rfl)) | (refine Gx.skipH rfl ?_ ?_ ?_; (· exact rfl); (· exact rfl)) | (refine Gx.hid (r := ?_) rfl ?_ ?_ ?_ ?_; rotate_left; (· exact rfl); (· exact rfl); (· (simp [go_sem, List.take_of_length_le, cellsN] <;> with_reducible rfl))) | (refine Gx.wr (s' := ?_) rfl ?_ ?_ ?_ ?_; rotate_left; (· exact rfl); (· (simp [go_sem, List.take_of_length_le, cellsN] <;> with_reducible rfl)); (· (simp [go_sem, List.take_of_length_le, cellsN]))) | fail
      exact Cov.ofn (id) rfl (by simp [go_sem, List.take_of_length_le, ren, ren1, ren2, okr, okr1, okr2, ChkT, ChkN, BlkN, nf, grammarC, cellsN]) (by simp [go_sem, List.take_of_length_le, ren, ren1, ren2, okr, okr1, okr2, ChkT, ChkN, BlkN, nf, grammarC, cellsN])
    · repeat' first | (refine Holds.condT ?_ ?_; (· (simp [go_sem, List.take_of_length_le, cellsN] <;> with_reducible rfl))) | (refine Holds.condF ?_ ?_; (· (simp [go_sem, List.take_of_length_le, cellsN] <;> with_reducible rfl))) | refine Holds.seq ?_ | refine Holds.skip ?_ | refine Holds.exit ?_ | refine Holds.ret ?_ | refine thenA_normal ?_ | refine thenA_exit ?_ | refine thenA_ret ?_ | refine inB_normal ?_ | refine inB_ret ?_ | refine inB_here ?_ | (refine inB_past ?_ ?_; (· exact rfl)) | refine Holds.reg ?_ | refine Holds.block ?_ | refine GS.nil ?_ | refine Gd.nil ?_ | (refine Holds.any mixed ?_ ?_; (· kernel_rfl)) | (refine GS.step (s' := ?_) ?_ ?_ ?_; rotate_left; (· exact rfl); (· (simp [go_sem, List.take_of_length_le, cellsN] <;> with_reducible rfl))) | (refine GS.skip ?_ ?_ ?_; (· exact rfl); (· exact rfl)) | (refine Gd.go (s' := ?_) ?_ ?_ ?_; rotate_left; (· exact rfl); (· (simp [go_sem, List.take_of_length_le, cellsN] <;> with_reducible rfl))) | (refine Gd.skip ?_ ?_ ?_; (· exact rfl); (· exact rfl)) | refine Gx.nil ?_ | (refine Gx.go (s' := ?_) rfl ?_ ?_ ?_; rotate_left; (· exact rfl); (· (simp [go_sem, List.take_of_length_le, cellsN] <;> with_reducible rfl))) | (refine Gx.skip rfl ?_ ?_ ?_; (· exact rfl); (· exact rfl)) | (refine Gx.skipO rfl ?_ ?_ ?_; (· exact rfl); (· exact rfl)) | (refine Gx.wo (s' := ?_) rfl ?_ ?_ ?_; rotate_left; (· exact rfl); (· (simp [go_sem, List.take_of_length_le, cellsN] <;> with_reducible rfl))) | (refine Gx.skipW rfl ?_ ?_ ?_; (· exact rfl); (· exact rfl)) | (refine Gx.skipH rfl ?_ ?_ ?_; (· exact rfl); (· exact rfl)) | (refine Gx.hid (r := ?_) rfl ?_ ?_ ?_ ?_; rotate_left; (· exact rfl); (· exact rfl); (· (simp [go_sem, List.take_of_length_le, cellsN] <;> with_reducible rfl))) | (refine Gx.wr (s' := ?_) rfl ?_ ?_ ?_ ?_; rotate_left; (· exact rfl); (· (simp [go_sem, List.take_of_length_le, cellsN] <;> with_reducible rfl)); (· (simp [go_sem, List.take_of_length_le, cellsN]))) | fail
      exact Cov.ofn (nm [0, 1, 3, 2]) rfl (by simp [go_sem, List.take_of_length_le, ren, ren1, ren2, okr, okr1, okr2, ChkT, ChkN, BlkN, nf, grammarC, cellsN]) (by simp [go_sem, List.take_of_length_le, ren, ren1, ren2, okr, okr1, okr2, ChkT, ChkN, BlkN, nf, grammarC, cellsN])
  refine Holds.frz [2] [(3, .pi (cellsN M))] (.cons rfl (Fz.box rfl rfl rfl rfl) .nil) ?_
  repeat' first | (refine Holds.condT ?_ ?_; (· (simp [go_sem, List.take_of_length_le, frz, grammarC] <;> with_reducible rfl))) | (refine Holds.condF ?_ ?_; (· (simp [go_sem, List.take_of_length_le, frz, grammarC] <;> with_reducible rfl))) | refine Holds.seq ?_ | refine Holds.skip ?_ | refine Holds.exit ?_ | refine Holds.ret ?_ | refine thenA_normal ?_ | refine thenA_exit ?_ | refine thenA_ret ?_ | refine inB_normal ?_ | refine inB_ret ?_ | refine inB_here ?_ | (refine inB_past ?_ ?_; (· exact rfl)) | refine Holds.reg ?_ | refine Holds.block ?_ | refine GS.nil ?_ | refine Gd.nil ?_ | (refine Holds.any mixed ?_ ?_; (· kernel_rfl)) | (refine GS.step (s' := ?_) ?_ ?_ ?_; rotate_left; (· exact rfl); (· (simp [go_sem, List.take_of_length_le, frz, grammarC] <;> with_reducible rfl))) | (refine GS.skip ?_ ?_ ?_; (· exact rfl); (· exact rfl)) | (refine Gd.go (s' := ?_) ?_ ?_ ?_; rotate_left; (· exact rfl); (· (simp [go_sem, List.take_of_length_le, frz, grammarC] <;> with_reducible rfl))) | (refine Gd.skip ?_ ?_ ?_; (· exact rfl); (· exact rfl)) | refine Gx.nil ?_ | (refine Gx.go (s' := ?_) rfl ?_ ?_ ?_; rotate_left; (· exact rfl); (· (simp [go_sem, List.take_of_length_le, frz, grammarC] <;> with_reducible rfl))) | (refine Gx.skip rfl ?_ ?_ ?_; (· exact rfl); (· exact rfl)) | (refine Gx.skipO rfl ?_ ?_ ?_; (· exact rfl); (· exact rfl)) | (refine Gx.wo (s' := ?_) rfl ?_ ?_ ?_; rotate_left; (· exact rfl); (· (simp [go_sem, List.take_of_length_le, frz, grammarC] <;> with_reducible rfl))) | (refine Gx.skipW rfl ?_ ?_ ?_; (· exact rfl); (· exact rfl)) | (refine Gx.skipH rfl ?_ ?_ ?_; (· exact rfl); (· exact rfl)) | (refine Gx.hid (r := ?_) rfl ?_ ?_ ?_ ?_; rotate_left; (· exact rfl); (· exact rfl); (· (simp [go_sem, List.take_of_length_le, frz, grammarC] <;> with_reducible rfl))) | (refine Gx.wr (s' := ?_) rfl ?_ ?_ ?_ ?_; rotate_left; (· exact rfl); (· (simp [go_sem, List.take_of_length_le, frz, grammarC] <;> with_reducible rfl)); (· (simp [go_sem, List.take_of_length_le, frz, grammarC]))) | fail
  first | refine GS.fnn [] (cc) rfl rfl rfl rfl (by simp [go_sem, List.take_of_length_le, ren, ren1, ren2, okr, okr1, okr2, ChkN, BlkN, List.range_succ, nf, grammarC] <;> with_reducible rfl) (by simp [go_sem, List.take_of_length_le, ren, ren1, ren2, okr, okr1, okr2, ChkN, BlkN, List.range_succ, nf, grammarC]) (by simp [go_sem, List.take_of_length_le, ren, ren1, ren2, okr, okr1, okr2, ChkN, BlkN, List.range_succ, nf, grammarC]) (by simp [List.range_succ, lb]) (ChkN.toB (by simp [go_sem, List.take_of_length_le, ren, ren1, ren2, okr, okr1, okr2, ChkN, BlkN, List.range_succ, nf, grammarC])) (by decide) (by simp) rfl (.nfr (by simp) .nil) (by simp [go_sem, List.take_of_length_le, ren, ren1, ren2, okr, okr1, okr2, ChkN, BlkN, List.range_succ, nf, grammarC] <;> with_reducible rfl) ?_ | refine Gx.fnn [] (cc) rfl rfl rfl rfl rfl (by simp [go_sem, List.take_of_length_le, ren, ren1, ren2, okr, okr1, okr2, ChkN, BlkN, List.range_succ, nf, grammarC] <;> with_reducible rfl) (by simp [go_sem, List.take_of_length_le, ren, ren1, ren2, okr, okr1, okr2, ChkN, BlkN, List.range_succ, nf, grammarC]) (by simp [go_sem, List.take_of_length_le, ren, ren1, ren2, okr, okr1, okr2, ChkN, BlkN, List.range_succ, nf, grammarC]) (by simp [List.range_succ, lb]) (ChkN.toB (by simp [go_sem, List.take_of_length_le, ren, ren1, ren2, okr, okr1, okr2, ChkN, BlkN, List.range_succ, nf, grammarC])) (by decide) (by simp) rfl (.nfr (by simp) .nil) (by simp [go_sem, List.take_of_length_le, ren, ren1, ren2, okr, okr1, okr2, ChkN, BlkN, List.range_succ, nf, grammarC]) (by simp [go_sem, List.take_of_length_le, ren, ren1, ren2, okr, okr1, okr2, ChkN, BlkN, List.range_succ, nf, grammarC] <;> with_reducible rfl) ?_ | refine Gx.fnno [] (cc) rfl rfl rfl rfl rfl (by simp [go_sem, List.take_of_length_le, ren, ren1, ren2, okr, okr1, okr2, ChkN, BlkN, List.range_succ, nf, grammarC] <;> with_reducible rfl) (by simp [go_sem, List.take_of_length_le, ren, ren1, ren2, okr, okr1, okr2, ChkN, BlkN, List.range_succ, nf, grammarC]) (by simp [go_sem, List.take_of_length_le, ren, ren1, ren2, okr, okr1, okr2, ChkN, BlkN, List.range_succ, nf, grammarC]) (by simp [List.range_succ, lb]) (ChkN.toB (by simp [go_sem, List.take_of_length_le, ren, ren1, ren2, okr, okr1, okr2, ChkN, BlkN, List.range_succ, nf, grammarC])) (by decide) (by simp) rfl (.nfr (by simp) .nil) (by simp [go_sem, List.take_of_length_le, ren, ren1, ren2, okr, okr1, okr2, ChkN, BlkN, List.range_succ, nf, grammarC] <;> with_reducible rfl) ?_
  repeat' first | (refine Holds.condT ?_ ?_; (· (simp [go_sem, List.take_of_length_le] <;> with_reducible rfl))) | (refine Holds.condF ?_ ?_; (· (simp [go_sem, List.take_of_length_le] <;> with_reducible rfl))) | refine Holds.seq ?_ | refine Holds.skip ?_ | refine Holds.exit ?_ | refine Holds.ret ?_ | refine thenA_normal ?_ | refine thenA_exit ?_ | refine thenA_ret ?_ | refine inB_normal ?_ | refine inB_ret ?_ | refine inB_here ?_ | (refine inB_past ?_ ?_; (· exact rfl)) | refine Holds.reg ?_ | refine Holds.block ?_ | refine GS.nil ?_ | refine Gd.nil ?_ | (refine Holds.any mixed ?_ ?_; (· kernel_rfl)) | (refine GS.step (s' := ?_) ?_ ?_ ?_; rotate_left; (· exact rfl); (· (simp [go_sem, List.take_of_length_le] <;> with_reducible rfl))) | (refine GS.skip ?_ ?_ ?_; (· exact rfl); (· exact rfl)) | (refine Gd.go (s' := ?_) ?_ ?_ ?_; rotate_left; (· exact rfl); (· (simp [go_sem, List.take_of_length_le] <;> with_reducible rfl))) | (refine Gd.skip ?_ ?_ ?_; (· exact rfl); (· exact rfl)) | refine Gx.nil ?_ | (refine Gx.go (s' := ?_) rfl ?_ ?_ ?_; rotate_left; (· exact rfl); (· (simp [go_sem, List.take_of_length_le] <;> with_reducible rfl))) | (refine Gx.skip rfl ?_ ?_ ?_; (· exact rfl); (· exact rfl)) | (refine Gx.skipO rfl ?_ ?_ ?_; (· exact rfl); (· exact rfl)) | (refine Gx.wo (s' := ?_) rfl ?_ ?_ ?_; rotate_left; (· exact rfl); (· (simp [go_sem, List.take_of_length_le] <;> with_reducible rfl))) | (refine Gx.skipW rfl ?_ ?_ ?_; (· exact rfl); (· exact rfl)) | (refine Gx.skipH rfl ?_ ?_ ?_; (· exact rfl); (· exact rfl)) | (refine Gx.hid (r := ?_) rfl ?_ ?_ ?_ ?_; rotate_left; (· exact rfl); (· exact rfl); (· (simp [go_sem, List.take_of_length_le] <;> with_reducible rfl))) | (refine Gx.wr (s' := ?_) rfl ?_ ?_ ?_ ?_; rotate_left; (· exact rfl); (· (simp [go_sem, List.take_of_length_le] <;> with_reducible rfl)); (· (simp [go_sem, List.take_of_length_le]))) | fail
  first | refine GS.fnn [4, 3] (cd1) rfl rfl rfl rfl (by simp [go_sem, List.take_of_length_le, ren, ren1, ren2, okr, okr1, okr2, ChkN, BlkN, List.range_succ, nf] <;> with_reducible rfl) (by simp [go_sem, List.take_of_length_le, ren, ren1, ren2, okr, okr1, okr2, ChkN, BlkN, List.range_succ, nf]) (by simp [go_sem, List.take_of_length_le, ren, ren1, ren2, okr, okr1, okr2, ChkN, BlkN, List.range_succ, nf]) (by simp [List.range_succ, lb]) (ChkN.toB (by simp [go_sem, List.take_of_length_le, ren, ren1, ren2, okr, okr1, okr2, ChkN, BlkN, List.range_succ, nf])) (by decide) (by simp) rfl (.nfr (by simp) (.nfr (by simp) .nil)) (by simp [go_sem, List.take_of_length_le, ren, ren1, ren2, okr, okr1, okr2, ChkN, BlkN, List.range_succ, nf] <;> with_reducible rfl) ?_ | refine Gx.fnn [4, 3] (cd1) rfl rfl rfl rfl rfl (by simp [go_sem, List.take_of_length_le, ren, ren1, ren2, okr, okr1, okr2, ChkN, BlkN, List.range_succ, nf] <;> with_reducible rfl) (by simp [go_sem, List.take_of_length_le, ren, ren1, ren2, okr, okr1, okr2, ChkN, BlkN, List.range_succ, nf]) (by simp [go_sem, List.take_of_length_le, ren, ren1, ren2, okr, okr1, okr2, ChkN, BlkN, List.range_succ, nf]) (by simp [List.range_succ, lb]) (ChkN.toB (by simp [go_sem, List.take_of_length_le, ren, ren1, ren2, okr, okr1, okr2, ChkN, BlkN, List.range_succ, nf])) (by decide) (by simp) rfl (.nfr (by simp) (.nfr (by simp) .nil)) (by simp [go_sem, List.take_of_length_le, ren, ren1, ren2, okr, okr1, okr2, ChkN, BlkN, List.range_succ, nf]) (by simp [go_sem, List.take_of_length_le, ren, ren1, ren2, okr, okr1, okr2, ChkN, BlkN, List.range_succ, nf] <;> with_reducible rfl) ?_ | refine Gx.fnno [4, 3] (cd1) rfl rfl rfl rfl rfl (by simp [go_sem, List.take_of_length_le, ren, ren1, ren2, okr, okr1, okr2, ChkN, BlkN, List.range_succ, nf] <;> with_reducible rfl) (by simp [go_sem, List.take_of_length_le, ren, ren1, ren2, okr, okr1, okr2, ChkN, BlkN, List.range_succ, nf]) (by simp [go_sem, List.take_of_length_le, ren, ren1, ren2, okr, okr1, okr2, ChkN, BlkN, List.range_succ, nf]) (by simp [List.range_succ, lb]) (ChkN.toB (by simp [go_sem, List.take_of_length_le, ren, ren1, ren2, okr, okr1, okr2, ChkN, BlkN, List.range_succ, nf])) (by decide) (by simp) rfl (.nfr (by simp) (.nfr (by simp) .nil)) (by simp [go_sem, List.take_of_length_le, ren, ren1, ren2, okr, okr1, okr2, ChkN, BlkN, List.range_succ, nf] <;> with_reducible rfl) ?_
  repeat' first | (refine Holds.condT ?_ ?_; (· (simp [go_sem, List.take_of_length_le] <;> with_reducible rfl))) | (refine Holds.condF ?_ ?_; (· (simp [go_sem, List.take_of_length_le] <;> with_reducible rfl))) | refine Holds.seq ?_ | refine Holds.skip ?_ | refine Holds.exit ?_ | refine Holds.ret ?_ | refine thenA_normal ?_ | refine thenA_exit ?_ | refine thenA_ret ?_ | refine inB_normal ?_ | refine inB_ret ?_ | refine inB_here ?_ | (refine inB_past ?_ ?_; (· exact rfl)) | refine Holds.reg ?_ | refine Holds.block ?_ | refine GS.nil ?_ | refine Gd.nil ?_ | (refine Holds.any mixed ?_ ?_; (· kernel_rfl)) | (refine GS.step (s' := ?_) ?_ ?_ ?_; rotate_left; (· exact rfl); (· (simp [go_sem, List.take_of_length_le] <;> with_reducible rfl))) | (refine GS.skip ?_ ?_ ?_; (· exact rfl); (· exact rfl)) | (refine Gd.go (s' := ?_) ?_ ?_ ?_; rotate_left; (· exact rfl); (· (simp [go_sem, List.take_of_length_le] <;> with_reducible rfl))) | (refine Gd.skip ?_ ?_ ?_; (· exact rfl); (· exact rfl)) | refine Gx.nil ?_ | (refine Gx.go (s' := ?_) rfl ?_ ?_ ?_; rotate_left; (· exact rfl); (· (simp [go_sem, List.take_of_length_le] <;> with_reducible rfl))) | (refine Gx.skip rfl ?_ ?_ ?_; (· exact rfl); (· exact rfl)) | (refine Gx.skipO rfl ?_ ?_ ?_; (· exact rfl); (· exact rfl)) | (refine Gx.wo (s' := ?_) rfl ?_ ?_ ?_; rotate_left; (· exact rfl); (· (simp [go_sem, List.take_of_length_le] <;> with_reducible rfl))) | (refine Gx.skipW rfl ?_ ?_ ?_; (· exact rfl); (· exact rfl)) | (refine Gx.skipH rfl ?_ ?_ ?_; (· exact rfl); (· exact rfl)) | (refine Gx.hid (r := ?_) rfl ?_ ?_ ?_ ?_; rotate_left; (· exact rfl); (· exact rfl); (· (simp [go_sem, List.take_of_length_le] <;> with_reducible rfl))) | (refine Gx.wr (s' := ?_) rfl ?_ ?_ ?_ ?_; rotate_left; (· exact rfl); (· (simp [go_sem, List.take_of_length_le] <;> with_reducible rfl)); (· (simp [go_sem, List.take_of_length_le]))) | fail
  first | refine GS.cd (cr1) rfl rfl rfl rfl (by simp [go_sem, List.take_of_length_le] <;> with_reducible rfl) rfl (by exact .cons (Fz.agL (.cons (.v _) (.cons (.v _) (.cons (Fz.all rfl rfl (by simp) rfl (rules_ok _)) .nil)))) .nil) rfl ?_ | refine Gd.cd (cr1) rfl rfl rfl rfl (by simp [go_sem, List.take_of_length_le] <;> with_reducible rfl) rfl (by exact .cons (Fz.agL (.cons (.v _) (.cons (.v _) (.cons (Fz.all rfl rfl (by simp) rfl (rules_ok _)) .nil)))) .nil) rfl ?_ | refine Gx.cd (cr1) rfl rfl rfl rfl rfl (by simp [go_sem, List.take_of_length_le] <;> with_reducible rfl) rfl (by exact .cons (Fz.agL (.cons (.v _) (.cons (.v _) (.cons (Fz.all rfl rfl (by simp) rfl (rules_ok _)) .nil)))) .nil) rfl ?_
  repeat' first | (refine Holds.condT ?_ ?_; (· (simp [go_sem, List.take_of_length_le, cellsN] <;> with_reducible rfl))) | (refine Holds.condF ?_ ?_; (· (simp [go_sem, List.take_of_length_le, cellsN] <;> with_reducible rfl))) | refine Holds.seq ?_ | refine Holds.skip ?_ | refine Holds.exit ?_ | refine Holds.ret ?_ | refine thenA_normal ?_ | refine thenA_exit ?_ | refine thenA_ret ?_ | refine inB_normal ?_ | refine inB_ret ?_ | refine inB_here ?_ | (refine inB_past ?_ ?_; (· exact rfl)) | refine Holds.reg ?_ | refine Holds.block ?_ | refine GS.nil ?_ | refine Gd.nil ?_ | (refine Holds.any mixed ?_ ?_; (· kernel_rfl)) | (refine GS.step (s' := ?_) ?_ ?_ ?_; rotate_left; (· exact rfl); (· (simp [go_sem, List.take_of_length_le, cellsN] <;> with_reducible rfl))) | (refine GS.skip ?_ ?_ ?_; (· exact rfl); (· exact rfl)) | (refine Gd.go (s' := ?_) ?_ ?_ ?_; rotate_left; (· exact rfl); (· (simp [go_sem, List.take_of_length_le, cellsN] <;> with_reducible rfl))) | (refine Gd.skip ?_ ?_ ?_; (· exact rfl); (· exact rfl)) | refine Gx.nil ?_ | (refine Gx.go (s' := ?_) rfl ?_ ?_ ?_; rotate_left; (· exact rfl); (· (simp [go_sem, List.take_of_length_le, cellsN] <;> with_reducible rfl))) | (refine Gx.skip rfl ?_ ?_ ?_; (· exact rfl); (· exact rfl)) | (refine Gx.skipO rfl ?_ ?_ ?_; (· exact rfl); (· exact rfl)) | (refine Gx.wo (s' := ?_) rfl ?_ ?_ ?_; rotate_left; (· exact rfl); (· (simp [go_sem, List.take_of_length_le, cellsN] <;> with_reducible rfl))) | (refine Gx.skipW rfl ?_ ?_ ?_; (· exact rfl); (· exact rfl)) | (refine Gx.skipH rfl ?_ ?_ ?_; (· exact rfl); (· exact rfl)) | (refine Gx.hid (r := ?_) rfl ?_ ?_ ?_ ?_; rotate_left; (· exact rfl); (· exact rfl); (· (simp [go_sem, List.take_of_length_le, cellsN] <;> with_reducible rfl))) | (refine Gx.wr (s' := ?_) rfl ?_ ?_ ?_ ?_; rotate_left; (· exact rfl); (· (simp [go_sem, List.take_of_length_le, cellsN] <;> with_reducible rfl)); (· (simp [go_sem, List.take_of_length_le, cellsN]))) | fail
  first | refine GS.fnn [4, 3] (cd2) rfl rfl rfl rfl (by simp [go_sem, List.take_of_length_le, ren, ren1, ren2, okr, okr1, okr2, ChkN, BlkN, List.range_succ, nf, cellsN] <;> with_reducible rfl) (by simp [go_sem, List.take_of_length_le, ren, ren1, ren2, okr, okr1, okr2, ChkN, BlkN, List.range_succ, nf, cellsN]) (by simp [go_sem, List.take_of_length_le, ren, ren1, ren2, okr, okr1, okr2, ChkN, BlkN, List.range_succ, nf, cellsN]) (by simp [List.range_succ, lb]) (ChkN.toB (by simp [go_sem, List.take_of_length_le, ren, ren1, ren2, okr, okr1, okr2, ChkN, BlkN, List.range_succ, nf, cellsN])) (by decide) (by simp) rfl (.nfr (by simp) (.nfr (by simp) .nil)) (by simp [go_sem, List.take_of_length_le, ren, ren1, ren2, okr, okr1, okr2, ChkN, BlkN, List.range_succ, nf, cellsN] <;> with_reducible rfl) ?_ | refine Gx.fnn [4, 3] (cd2) rfl rfl rfl rfl rfl (by simp [go_sem, List.take_of_length_le, ren, ren1, ren2, okr, okr1, okr2, ChkN, BlkN, List.range_succ, nf, cellsN] <;> with_reducible rfl) (by simp [go_sem, List.take_of_length_le, ren, ren1, ren2, okr, okr1, okr2, ChkN, BlkN, List.range_succ, nf, cellsN]) (by simp [go_sem, List.take_of_length_le, ren, ren1, ren2, okr, okr1, okr2, ChkN, BlkN, List.range_succ, nf, cellsN]) (by simp [List.range_succ, lb]) (ChkN.toB (by simp [go_sem, List.take_of_length_le, ren, ren1, ren2, okr, okr1, okr2, ChkN, BlkN, List.range_succ, nf, cellsN])) (by decide) (by simp) rfl (.nfr (by simp) (.nfr (by simp) .nil)) (by simp [go_sem, List.take_of_length_le, ren, ren1, ren2, okr, okr1, okr2, ChkN, BlkN, List.range_succ, nf, cellsN]) (by simp [go_sem, List.take_of_length_le, ren, ren1, ren2, okr, okr1, okr2, ChkN, BlkN, List.range_succ, nf, cellsN] <;> with_reducible rfl) ?_ | refine Gx.fnno [4, 3] (cd2) rfl rfl rfl rfl rfl (by simp [go_sem, List.take_of_length_le, ren, ren1, ren2, okr, okr1, okr2, ChkN, BlkN, List.range_succ, nf, cellsN] <;> with_reducible rfl) (by simp [go_sem, List.take_of_length_le, ren, ren1, ren2, okr, okr1, okr2, ChkN, BlkN, List.range_succ, nf, cellsN]) (by simp [go_sem, List.take_of_length_le, ren, ren1, ren2, okr, okr1, okr2, ChkN, BlkN, List.range_succ, nf, cellsN]) (by simp [List.range_succ, lb]) (ChkN.toB (by simp [go_sem, List.take_of_length_le, ren, ren1, ren2, okr, okr1, okr2, ChkN, BlkN, List.range_succ, nf, cellsN])) (by decide) (by simp) rfl (.nfr (by simp) (.nfr (by simp) .nil)) (by simp [go_sem, List.take_of_length_le, ren, ren1, ren2, okr, okr1, okr2, ChkN, BlkN, List.range_succ, nf, cellsN] <;> with_reducible rfl) ?_
  repeat' first | (refine Holds.condT ?_ ?_; (· (simp [go_sem, List.take_of_length_le] <;> with_reducible rfl))) | (refine Holds.condF ?_ ?_; (· (simp [go_sem, List.take_of_length_le] <;> with_reducible rfl))) | refine Holds.seq ?_ | refine Holds.skip ?_ | refine Holds.exit ?_ | refine Holds.ret ?_ | refine thenA_normal ?_ | refine thenA_exit ?_ | refine thenA_ret ?_ | refine inB_normal ?_ | refine inB_ret ?_ | refine inB_here ?_ | (refine inB_past ?_ ?_; (· exact rfl)) | refine Holds.reg ?_ | refine Holds.block ?_ | refine GS.nil ?_ | refine Gd.nil ?_ | (refine Holds.any mixed ?_ ?_; (· kernel_rfl)) | (refine GS.step (s' := ?_) ?_ ?_ ?_; rotate_left; (· exact rfl); (· (simp [go_sem, List.take_of_length_le] <;> with_reducible rfl))) | (refine GS.skip ?_ ?_ ?_; (· exact rfl); (· exact rfl)) | (refine Gd.go (s' := ?_) ?_ ?_ ?_; rotate_left; (· exact rfl); (· (simp [go_sem, List.take_of_length_le] <;> with_reducible rfl))) | (refine Gd.skip ?_ ?_ ?_; (· exact rfl); (· exact rfl)) | refine Gx.nil ?_ | (refine Gx.go (s' := ?_) rfl ?_ ?_ ?_; rotate_left; (· exact rfl); (· (simp [go_sem, List.take_of_length_le] <;> with_reducible rfl))) | (refine Gx.skip rfl ?_ ?_ ?_; (· exact rfl); (· exact rfl)) | (refine Gx.skipO rfl ?_ ?_ ?_; (· exact rfl); (· exact rfl)) | (refine Gx.wo (s' := ?_) rfl ?_ ?_ ?_; rotate_left; (· exact rfl); (· (simp [go_sem, List.take_of_length_le] <;> with_reducible rfl))) | (refine Gx.skipW rfl ?_ ?_ ?_; (· exact rfl); (· exact rfl)) | (refine Gx.skipH rfl ?_ ?_ ?_; (· exact rfl); (· exact rfl)) | (refine Gx.hid (r := ?_) rfl ?_ ?_ ?_ ?_; rotate_left; (· exact rfl); (· exact rfl); (· (simp [go_sem, List.take_of_length_le] <;> with_reducible rfl))) | (refine Gx.wr (s' := ?_) rfl ?_ ?_ ?_ ?_; rotate_left; (· exact rfl); (· (simp [go_sem, List.take_of_length_le] <;> with_reducible rfl)); (· (simp [go_sem, List.take_of_length_le]))) | fail
  refine OutF.mkn (xs := ?_) (nm [4]) ?_ ?_ ?_ ?_ ?_ (by first | exact .inr rfl | exact .inl rfl)
  rotate_left
  · simp [go_sem, List.take_of_length_le] <;> with_reducible rfl
  · simp [go_sem, List.take_of_length_le, ren, ren1, ren2, okr, okr1, okr2, ChkN, BlkN, List.range_succ, nf]
  · simp [go_sem, List.take_of_length_le, ren, ren1, ren2, okr, okr1, okr2, ChkN, BlkN, List.range_succ, nf]
  · simp [go_sem, List.take_of_length_le, ren, ren1, ren2, okr, okr1, okr2, ChkN, BlkN, List.range_succ, nf]
  · rfl
end Go.Proofs.Ytabdnpgahdbciaa.En
end
section
namespace Go.Proofs.Ytabdnpgahdbciaa.En
open Go.RowKit
set_option linter.unusedSimpArgs false
set_option linter.unusedVariables false
set_option maxHeartbeats 4000000
theorem Fz.pbM {bl : List (Nat × Blk)} {n sz : Nat} {k : Blk} {row ys : List AV} (hk : lb bl n = some k) (hx : k.xs = [row]) (hz : k.sz = sz) (h : FzL bl row ys) : Fz bl (.pb n sz 0 0) (.pi ys) := by
  subst hz
  exact .pb n 0 0 k row ys hk (by rw [hx]; rfl) (by rw [List.drop_zero]; exact Nat.le_of_eq h.len) (fun q x y h1 h2 => h.get q x y (by simpa using h1) h2)
end Go.Proofs.Ytabdnpgahdbciaa.En
end
section
namespace Go.Proofs.Ytabdnpgahdbciaa.En
open Go.RowKit
set_option linter.unusedSimpArgs false
set_option linter.unusedVariables false
set_option maxHeartbeats 4000000
theorem hasN_lst (S : Int → Bool) {x : Int} (h0 : 0 ≤ x) (h5 : x ≤ 5) : hasN (lstN S) x = S x := by
  rw [hasN_dec, Bool.eq_iff_iff, decide_eq_true_iff, lstN, List.mem_filter, mem_univN]
  exact ⟨fun h => h.2, fun h => ⟨⟨h0, h5⟩, h⟩⟩
theorem lstN_len (S : Int → Bool) : (lstN S).length ≤ 6 := card_le S
theorem l1Own (xs : List Int) (hx : xs.length ≤ 1000000) : Pure Try.prog 85 [.im 1 (ints xs)] (.im 1 (ints xs)) := by
  have hb : xs.length * 8 ≤ 140737488355328 := by omega
  refine Pure.mk (rs := [.tmp 2]) (nt := 6) Try.func85 (by kernel_rfl) rfl rfl rfl (by simp) ?_
  simp only [sl]
  repeat' first | (refine Holds.condT ?_ ?_; (· (simp [go_sem, List.take_of_length_le, hb, ints_all] <;> with_reducible rfl))) | (refine Holds.condF ?_ ?_; (· (simp [go_sem, List.take_of_length_le, hb, ints_all] <;> with_reducible rfl))) | refine Holds.seq ?_ | refine Holds.skip ?_ | refine Holds.exit ?_ | refine Holds.ret ?_ | refine thenA_normal ?_ | refine thenA_exit ?_ | refine thenA_ret ?_ | refine inB_normal ?_ | refine inB_ret ?_ | refine inB_here ?_ | (refine inB_past ?_ ?_; (· exact rfl)) | refine Holds.reg ?_ | refine Holds.block ?_ | refine GS.nil ?_ | (refine GS.step (s' := ?_) ?_ ?_ ?_; rotate_left; (· exact rfl); (· (simp [go_sem, List.take_of_length_le, hb, ints_all] <;> with_reducible rfl))) | (refine GS.skip ?_ ?_ ?_; (· exact rfl); (· exact rfl)) | fail
  refine Out.mk (xs := ?_) ?_ ?_ (by first | exact .inr rfl | exact .inl rfl)
  rotate_left
  · simp [go_sem, List.take_of_length_le] <;> with_reducible rfl
  exact Fz.all rfl rfl (by simp) rfl (ints_cl _)
theorem l3Useful (g : GrammarT) (hG : OkG g) : Pure Try.prog 48 [.ag (grammarC g)] (.ag (grammarC (usefulG g))) := by
  have hlen := hG.len
  have hn1 := hG.n1
  have cm := l3Close g hG true
  have cr := l3Reached (usF g) (usF_ok hG)
  have hgc : grammarC (usF g) = [.v (.int .i64 g.1), .v (.int .i64 g.2.1), .im 2 (rules (usF g).2.2)] := rfl
  have hgu : grammarC (usefulG g) = [.v (.int .i64 g.1), .v (.int .i64 g.2.1), .im 2 (rules ((usF g).2.2.filter fun r => reachS (usF g) r.1))] := rfl
  have hfl : (usF g).2.2.length ≤ 16 := (usF_ok hG).len
  have hF0 := (usF_ok hG).l0
  have hF1 := (usF_ok hG).l1
  rw [hgc] at cr
  rw [hgu]
  have hF : (usF g).2.2 = g.2.2.filter (okU g) := rfl
  have hFg : (usF g).1 = g.1 := rfl
  rw [hFg] at hF1
  generalize reachS (usF g) = R at cr ⊢
  generalize (usF g).2.2 = F at cr hF hfl hF0 hF1 ⊢
  have hm6 := lstN_len (madeS g true)
  have hhas : ∀ x, 0 ≤ x → x ≤ 5 → hasN (lstN (madeS g true)) x = madeS g true x := fun x => hasN_lst (madeS g true)
  have hok : ∀ r, okU g r = (madeS g true r.1 && okM true (madeS g true) r.2) := fun r => rfl
  generalize okU g = ok at hF hok
  generalize lstN (madeS g true) = made at cm hm6 hhas
  generalize madeS g true = M at hhas hok
  refine Pure.mk (rs := [.cell 2 31]) (nt := 89) Try.func48 (by kernel_rfl) rfl rfl rfl (by simp) ?_
  simp only [sl, grammarC]
  repeat' first | (refine Holds.condT ?_ ?_; (· (simp [go_sem, List.take_of_length_le, grammarC] <;> with_reducible rfl))) | (refine Holds.condF ?_ ?_; (· (simp [go_sem, List.take_of_length_le, grammarC] <;> with_reducible rfl))) | refine Holds.seq ?_ | refine Holds.skip ?_ | refine Holds.exit ?_ | refine Holds.ret ?_ | refine thenA_normal ?_ | refine thenA_exit ?_ | refine thenA_ret ?_ | refine inB_normal ?_ | refine inB_ret ?_ | refine inB_here ?_ | (refine inB_past ?_ ?_; (· exact rfl)) | refine Holds.reg ?_ | refine Holds.block ?_ | refine GS.nil ?_ | refine Gd.nil ?_ | (refine Holds.any mixed ?_ ?_; (· kernel_rfl)) | (refine GS.step (s' := ?_) ?_ ?_ ?_; rotate_left; (· exact rfl); (· (simp [go_sem, List.take_of_length_le, grammarC] <;> with_reducible rfl))) | (refine GS.skip ?_ ?_ ?_; (· exact rfl); (· exact rfl)) | (refine Gd.go (s' := ?_) ?_ ?_ ?_; rotate_left; (· exact rfl); (· (simp [go_sem, List.take_of_length_le, grammarC] <;> with_reducible rfl))) | (refine Gd.skip ?_ ?_ ?_; (· exact rfl); (· exact rfl)) | fail
  first | refine GS.cc (cm) rfl rfl rfl rfl (by simp [go_sem, List.take_of_length_le, grammarC] <;> with_reducible rfl) rfl (by simp [go_sem, List.take_of_length_le, grammarC]) ?_ | refine Gd.cc (cm) rfl rfl rfl rfl (by simp [go_sem, List.take_of_length_le, grammarC] <;> with_reducible rfl) rfl (by simp [go_sem, List.take_of_length_le, grammarC]) ?_
  repeat' first | (refine Holds.condT ?_ ?_; (· (simp [go_sem, List.take_of_length_le, grammarC] <;> with_reducible rfl))) | (refine Holds.condF ?_ ?_; (· (simp [go_sem, List.take_of_length_le, grammarC] <;> with_reducible rfl))) | refine Holds.seq ?_ | refine Holds.skip ?_ | refine Holds.exit ?_ | refine Holds.ret ?_ | refine thenA_normal ?_ | refine thenA_exit ?_ | refine thenA_ret ?_ | refine inB_normal ?_ | refine inB_ret ?_ | refine inB_here ?_ | (refine inB_past ?_ ?_; (· exact rfl)) | refine Holds.reg ?_ | refine Holds.block ?_ | refine GS.nil ?_ | refine Gd.nil ?_ | (refine Holds.any mixed ?_ ?_; (· kernel_rfl)) | (refine GS.step (s' := ?_) ?_ ?_ ?_; rotate_left; (· exact rfl); (· (simp [go_sem, List.take_of_length_le, grammarC] <;> with_reducible rfl))) | (refine GS.skip ?_ ?_ ?_; (· exact rfl); (· exact rfl)) | (refine Gd.go (s' := ?_) ?_ ?_ ?_; rotate_left; (· exact rfl); (· (simp [go_sem, List.take_of_length_le, grammarC] <;> with_reducible rfl))) | (refine Gd.skip ?_ ?_ ?_; (· exact rfl); (· exact rfl)) | fail
  refine Holds.nir 2 0 2 60 2 rfl rfl rfl (by simp [go_sem]; rfl) ?_
  refine Holds.loop (ι := Nat × List RuleT) (fun i => ⟨[(1, .pb 0 3 0 0), (2, .pb 1 3 0 0), (3, .im 1 (ints made)), (4, .pb 2 3 0 0), (22, .im 2 (rules g.2.2)), (23, .v (.int .i64 g.2.2.length)), (24, .v (.int .i64 i.1))],
    [(3, ⟨60, 2, rules i.2⟩), (2, ⟨31, 3, [[.v (.int .i64 g.1), .v (.int .i64 g.2.1), .own 3 2 0 i.2.length]]⟩), (1, ⟨31, 3, [[.v (.int .i64 0), .v (.int .i64 0), .v (.slice none 0 0)]]⟩), (0, ⟨31, 3, [grammarC g]⟩)], 4⟩)
    (fun i => i.1 ≤ g.2.2.length ∧ i.2 = (g.2.2.take i.1).filter ok) (fun i => g.2.2.length - i.1) (0, []) ⟨Nat.zero_le _, rfl⟩ ?_ ?_
  · exact Cov.ofn (id) rfl (by simp [go_sem, List.take_of_length_le, ren, ren1, ren2, okr, okr1, okr2, ChkT, ChkN, BlkN, nf, grammarC, show rules [] = [] from rfl]) (by simp [go_sem, List.take_of_length_le, ren, ren1, ren2, okr, okr1, okr2, ChkT, ChkN, BlkN, nf, grammarC, show rules [] = [] from rfl])
  rintro ⟨i, L⟩ ⟨hi, hL⟩
  dsimp only at hi hL ⊢
  have stepi : wr64 ((i : Int) + 1) = ((i + 1 : Nat) : Int) := wr64_id (by omega) (by omega)
  have hLl : L.length ≤ 16 := by
    rw [hL]
    have h1 := List.length_filter_le ok (g.2.2.take i)
    rw [List.length_take] at h1
    omega
  repeat' first | (refine Holds.condT ?_ ?_; (· (simp [go_sem, List.take_of_length_le] <;> with_reducible rfl))) | (refine Holds.condF ?_ ?_; (· (simp [go_sem, List.take_of_length_le] <;> with_reducible rfl))) | refine Holds.seq ?_ | refine Holds.skip ?_ | refine Holds.exit ?_ | refine Holds.ret ?_ | refine thenA_normal ?_ | refine thenA_exit ?_ | refine thenA_ret ?_ | refine inB_normal ?_ | refine inB_ret ?_ | refine inB_here ?_ | (refine inB_past ?_ ?_; (· exact rfl)) | refine Holds.reg ?_ | refine Holds.block ?_ | refine GS.nil ?_ | refine Gd.nil ?_ | (refine Holds.any mixed ?_ ?_; (· kernel_rfl)) | (refine GS.step (s' := ?_) ?_ ?_ ?_; rotate_left; (· exact rfl); (· (simp [go_sem, List.take_of_length_le] <;> with_reducible rfl))) | (refine GS.skip ?_ ?_ ?_; (· exact rfl); (· exact rfl)) | (refine Gd.go (s' := ?_) ?_ ?_ ?_; rotate_left; (· exact rfl); (· (simp [go_sem, List.take_of_length_le] <;> with_reducible rfl))) | (refine Gd.skip ?_ ?_ ?_; (· exact rfl); (· exact rfl)) | fail
  refine Holds.cond rfl (fun h => ?_) (fun h => ?_)
  · have hlt : i < g.2.2.length := by simp at h; omega
    have hri : g.2.2[i]? = some g.2.2[i] := List.getElem?_eq_getElem hlt
    have hmem := List.getElem_mem hlt
    generalize g.2.2[i] = r at hri hmem
    have hr4 := hG.r4 r hmem
    have hr0 := hG.l0 r hmem
    have hr1 := hG.l1 r hmem
    have hs1 := hG.s1 r hmem
    have hnx : (g.2.2.take (i + 1)).filter ok = L ++ if ok r = true then [r] else [] := by
      rw [List.take_add_one, hri, List.filter_append, ← hL]
      congr 1
      by_cases e : ok r = true <;> simp [e]
    have hokr := hok r
    have ch := l1Has made r.1 (by omega)
    rw [hhas r.1 hr0 (by omega)] at ch
    repeat' first | (refine Holds.condT ?_ ?_; (· (simp [go_sem, List.take_of_length_le, get_E hri, hri, hlt, ruleC] <;> with_reducible rfl))) | (refine Holds.condF ?_ ?_; (· (simp [go_sem, List.take_of_length_le, get_E hri, hri, hlt, ruleC] <;> with_reducible rfl))) | refine Holds.seq ?_ | refine Holds.skip ?_ | refine Holds.exit ?_ | refine Holds.ret ?_ | refine thenA_normal ?_ | refine thenA_exit ?_ | refine thenA_ret ?_ | refine inB_normal ?_ | refine inB_ret ?_ | refine inB_here ?_ | (refine inB_past ?_ ?_; (· exact rfl)) | refine Holds.reg ?_ | refine Holds.block ?_ | refine GS.nil ?_ | refine Gd.nil ?_ | (refine Holds.any mixed ?_ ?_; (· kernel_rfl)) | (refine GS.step (s' := ?_) ?_ ?_ ?_; rotate_left; (· exact rfl); (· (simp [go_sem, List.take_of_length_le, get_E hri, hri, hlt, ruleC] <;> with_reducible rfl))) | (refine GS.skip ?_ ?_ ?_; (· exact rfl); (· exact rfl)) | (refine Gd.go (s' := ?_) ?_ ?_ ?_; rotate_left; (· exact rfl); (· (simp [go_sem, List.take_of_length_le, get_E hri, hri, hlt, ruleC] <;> with_reducible rfl))) | (refine Gd.skip ?_ ?_ ?_; (· exact rfl); (· exact rfl)) | fail
    first | refine GS.cc (ch) rfl rfl rfl rfl (by simp [go_sem, List.take_of_length_le, ruleC] <;> with_reducible rfl) rfl (by simp [go_sem, List.take_of_length_le, ruleC]) ?_ | refine Gd.cc (ch) rfl rfl rfl rfl (by simp [go_sem, List.take_of_length_le, ruleC] <;> with_reducible rfl) rfl (by simp [go_sem, List.take_of_length_le, ruleC]) ?_
    repeat' first | (refine Holds.condT ?_ ?_; (· (simp [go_sem, List.take_of_length_le, ruleC] <;> with_reducible rfl))) | (refine Holds.condF ?_ ?_; (· (simp [go_sem, List.take_of_length_le, ruleC] <;> with_reducible rfl))) | refine Holds.seq ?_ | refine Holds.skip ?_ | refine Holds.exit ?_ | refine Holds.ret ?_ | refine thenA_normal ?_ | refine thenA_exit ?_ | refine thenA_ret ?_ | refine inB_normal ?_ | refine inB_ret ?_ | refine inB_here ?_ | (refine inB_past ?_ ?_; (· exact rfl)) | refine Holds.reg ?_ | refine Holds.block ?_ | refine GS.nil ?_ | refine Gd.nil ?_ | (refine Holds.any mixed ?_ ?_; (· kernel_rfl)) | (refine GS.step (s' := ?_) ?_ ?_ ?_; rotate_left; (· exact rfl); (· (simp [go_sem, List.take_of_length_le, ruleC] <;> with_reducible rfl))) | (refine GS.skip ?_ ?_ ?_; (· exact rfl); (· exact rfl)) | (refine Gd.go (s' := ?_) ?_ ?_ ?_; rotate_left; (· exact rfl); (· (simp [go_sem, List.take_of_length_le, ruleC] <;> with_reducible rfl))) | (refine Gd.skip ?_ ?_ ?_; (· exact rfl); (· exact rfl)) | fail
    refine Holds.loop (ι := Nat) (fun a => ⟨[(1, .pb 0 3 0 0), (2, .pb 1 3 0 0), (3, .im 1 (ints made)), (4, .pb 2 3 0 0), (6, .pb 4 2 0 0), (7, .v (.bool (M r.1 && okM true M (r.2.take a)))), (22, .im 2 (rules g.2.2)), (23, .v (.int .i64 g.2.2.length)), (24, .v (.int .i64 i)), (33, .im 1 (ints r.2)), (34, .v (.int .i64 r.2.length)), (35, .v (.int .i64 a))],
      [(4, ⟨60, 2, [ruleC r]⟩), (3, ⟨60, 2, rules L⟩), (2, ⟨31, 3, [[.v (.int .i64 g.1), .v (.int .i64 g.2.1), .own 3 2 0 L.length]]⟩), (1, ⟨31, 3, [[.v (.int .i64 0), .v (.int .i64 0), .v (.slice none 0 0)]]⟩), (0, ⟨31, 3, [grammarC g]⟩)], 5⟩)
      (fun a => a ≤ r.2.length) (fun a => r.2.length - a) 0 (Nat.zero_le _) ?_ ?_
    · exact Cov.ofn (id) rfl (by simp [go_sem, List.take_of_length_le, ren, ren1, ren2, okr, okr1, okr2, ChkT, ChkN, BlkN, nf, grammarC, ruleC, okM]) (by simp [go_sem, List.take_of_length_le, ren, ren1, ren2, okr, okr1, okr2, ChkT, ChkN, BlkN, nf, grammarC, ruleC, okM])
    intro a ha
    have stepa : wr64 ((a : Int) + 1) = ((a + 1 : Nat) : Int) := wr64_id (by omega) (by omega)
    repeat' first | (refine Holds.condT ?_ ?_; (· (simp [go_sem, List.take_of_length_le] <;> with_reducible rfl))) | (refine Holds.condF ?_ ?_; (· (simp [go_sem, List.take_of_length_le] <;> with_reducible rfl))) | refine Holds.seq ?_ | refine Holds.skip ?_ | refine Holds.exit ?_ | refine Holds.ret ?_ | refine thenA_normal ?_ | refine thenA_exit ?_ | refine thenA_ret ?_ | refine inB_normal ?_ | refine inB_ret ?_ | refine inB_here ?_ | (refine inB_past ?_ ?_; (· exact rfl)) | refine Holds.reg ?_ | refine Holds.block ?_ | refine GS.nil ?_ | refine Gd.nil ?_ | (refine Holds.any mixed ?_ ?_; (· kernel_rfl)) | (refine GS.step (s' := ?_) ?_ ?_ ?_; rotate_left; (· exact rfl); (· (simp [go_sem, List.take_of_length_le] <;> with_reducible rfl))) | (refine GS.skip ?_ ?_ ?_; (· exact rfl); (· exact rfl)) | (refine Gd.go (s' := ?_) ?_ ?_ ?_; rotate_left; (· exact rfl); (· (simp [go_sem, List.take_of_length_le] <;> with_reducible rfl))) | (refine Gd.skip ?_ ?_ ?_; (· exact rfl); (· exact rfl)) | fail
    refine Holds.cond rfl (fun h => ?_) (fun h => ?_)
    · have hla : a < r.2.length := by simp at h; omega
      have hxa : r.2[a]? = some r.2[a] := List.getElem?_eq_getElem hla
      have hxm := List.getElem_mem hla
      generalize r.2[a] = x at hxa hxm
      have hx5 := hs1 x hxm
      have hs := okM_snoc true M hxa
      generalize okM true M (r.2.take a) = b1 at hs ⊢
      generalize M r.1 = b0
      cases hb : (b0 && b1) with
      | false =>
        have hnx : (b0 && okM true M (r.2.take (a + 1))) = false := by rw [hs, ← Bool.and_assoc, hb, Bool.false_and]
        repeat' first | (refine Holds.condT ?_ ?_; (· (simp [go_sem, List.take_of_length_le, get_E hxa, hxa, hla, hb] <;> with_reducible rfl))) | (refine Holds.condF ?_ ?_; (· (simp [go_sem, List.take_of_length_le, get_E hxa, hxa, hla, hb] <;> with_reducible rfl))) | refine Holds.seq ?_ | refine Holds.skip ?_ | refine Holds.exit ?_ | refine Holds.ret ?_ | refine thenA_normal ?_ | refine thenA_exit ?_ | refine thenA_ret ?_ | refine inB_normal ?_ | refine inB_ret ?_ | refine inB_here ?_ | (refine inB_past ?_ ?_; (· exact rfl)) | refine Holds.reg ?_ | refine Holds.block ?_ | refine GS.nil ?_ | refine Gd.nil ?_ | (refine Holds.any mixed ?_ ?_; (· kernel_rfl)) | (refine GS.step (s' := ?_) ?_ ?_ ?_; rotate_left; (· exact rfl); (· (simp [go_sem, List.take_of_length_le, get_E hxa, hxa, hla, hb] <;> with_reducible rfl))) | (refine GS.skip ?_ ?_ ?_; (· exact rfl); (· exact rfl)) | (refine Gd.go (s' := ?_) ?_ ?_ ?_; rotate_left; (· exact rfl); (· (simp [go_sem, List.take_of_length_le, get_E hxa, hxa, hla, hb] <;> with_reducible rfl))) | (refine Gd.skip ?_ ?_ ?_; (· exact rfl); (· exact rfl)) | fail
        refine ⟨a + 1, by omega, by omega, ?_⟩
        rw [stepa, hnx]
        exact Cov.ofn (id) rfl (by simp [go_sem, List.take_of_length_le, ren, ren1, ren2, okr, okr1, okr2, ChkT, ChkN, BlkN, nf, grammarC, ruleC]) (by simp [go_sem, List.take_of_length_le, ren, ren1, ren2, okr, okr1, okr2, ChkT, ChkN, BlkN, nf, grammarC, ruleC])
      | true =>
        by_cases hx0 : x < 0
        · have hnx : (b0 && okM true M (r.2.take (a + 1))) = true := by rw [hs, ← Bool.and_assoc, hb]; simp [hx0]
          repeat' first | (refine Holds.condT ?_ ?_; (· (simp [go_sem, List.take_of_length_le, get_E hxa, hxa, hla, hb, hx0] <;> with_reducible rfl))) | (refine Holds.condF ?_ ?_; (· (simp [go_sem, List.take_of_length_le, get_E hxa, hxa, hla, hb, hx0] <;> with_reducible rfl))) | refine Holds.seq ?_ | refine Holds.skip ?_ | refine Holds.exit ?_ | refine Holds.ret ?_ | refine thenA_normal ?_ | refine thenA_exit ?_ | refine thenA_ret ?_ | refine inB_normal ?_ | refine inB_ret ?_ | refine inB_here ?_ | (refine inB_past ?_ ?_; (· exact rfl)) | refine Holds.reg ?_ | refine Holds.block ?_ | refine GS.nil ?_ | refine Gd.nil ?_ | (refine Holds.any mixed ?_ ?_; (· kernel_rfl)) | (refine GS.step (s' := ?_) ?_ ?_ ?_; rotate_left; (· exact rfl); (· (simp [go_sem, List.take_of_length_le, get_E hxa, hxa, hla, hb, hx0] <;> with_reducible rfl))) | (refine GS.skip ?_ ?_ ?_; (· exact rfl); (· exact rfl)) | (refine Gd.go (s' := ?_) ?_ ?_ ?_; rotate_left; (· exact rfl); (· (simp [go_sem, List.take_of_length_le, get_E hxa, hxa, hla, hb, hx0] <;> with_reducible rfl))) | (refine Gd.skip ?_ ?_ ?_; (· exact rfl); (· exact rfl)) | fail
          refine ⟨a + 1, by omega, by omega, ?_⟩
          rw [stepa, hnx]
          exact Cov.ofn (id) rfl (by simp [go_sem, List.take_of_length_le, ren, ren1, ren2, okr, okr1, okr2, ChkT, ChkN, BlkN, nf, grammarC, ruleC]) (by simp [go_sem, List.take_of_length_le, ren, ren1, ren2, okr, okr1, okr2, ChkT, ChkN, BlkN, nf, grammarC, ruleC])
        · have hx1 : 0 ≤ x := by omega
          have hnx : (b0 && okM true M (r.2.take (a + 1))) = M x := by rw [hs, ← Bool.and_assoc, hb]; simp [hx0, hx1]
          have chx := l1Has made x (by omega)
          rw [hhas x hx1 (by omega)] at chx
          repeat' first | (refine Holds.condT ?_ ?_; (· (simp [go_sem, List.take_of_length_le, get_E hxa, hxa, hla, hb, hx0, hx1] <;> with_reducible rfl))) | (refine Holds.condF ?_ ?_; (· (simp [go_sem, List.take_of_length_le, get_E hxa, hxa, hla, hb, hx0, hx1] <;> with_reducible rfl))) | refine Holds.seq ?_ | refine Holds.skip ?_ | refine Holds.exit ?_ | refine Holds.ret ?_ | refine thenA_normal ?_ | refine thenA_exit ?_ | refine thenA_ret ?_ | refine inB_normal ?_ | refine inB_ret ?_ | refine inB_here ?_ | (refine inB_past ?_ ?_; (· exact rfl)) | refine Holds.reg ?_ | refine Holds.block ?_ | refine GS.nil ?_ | refine Gd.nil ?_ | (refine Holds.any mixed ?_ ?_; (· kernel_rfl)) | (refine GS.step (s' := ?_) ?_ ?_ ?_; rotate_left; (· exact rfl); (· (simp [go_sem, List.take_of_length_le, get_E hxa, hxa, hla, hb, hx0, hx1] <;> with_reducible rfl))) | (refine GS.skip ?_ ?_ ?_; (· exact rfl); (· exact rfl)) | (refine Gd.go (s' := ?_) ?_ ?_ ?_; rotate_left; (· exact rfl); (· (simp [go_sem, List.take_of_length_le, get_E hxa, hxa, hla, hb, hx0, hx1] <;> with_reducible rfl))) | (refine Gd.skip ?_ ?_ ?_; (· exact rfl); (· exact rfl)) | fail
          first | refine GS.cc (chx) rfl rfl rfl rfl (by simp [go_sem, List.take_of_length_le] <;> with_reducible rfl) rfl (by simp [go_sem, List.take_of_length_le]) ?_ | refine Gd.cc (chx) rfl rfl rfl rfl (by simp [go_sem, List.take_of_length_le] <;> with_reducible rfl) rfl (by simp [go_sem, List.take_of_length_le]) ?_
          repeat' first | (refine Holds.condT ?_ ?_; (· (simp [go_sem, List.take_of_length_le] <;> with_reducible rfl))) | (refine Holds.condF ?_ ?_; (· (simp [go_sem, List.take_of_length_le] <;> with_reducible rfl))) | refine Holds.seq ?_ | refine Holds.skip ?_ | refine Holds.exit ?_ | refine Holds.ret ?_ | refine thenA_normal ?_ | refine thenA_exit ?_ | refine thenA_ret ?_ | refine inB_normal ?_ | refine inB_ret ?_ | refine inB_here ?_ | (refine inB_past ?_ ?_; (· exact rfl)) | refine Holds.reg ?_ | refine Holds.block ?_ | refine GS.nil ?_ | refine Gd.nil ?_ | (refine Holds.any mixed ?_ ?_; (· kernel_rfl)) | (refine GS.step (s' := ?_) ?_ ?_ ?_; rotate_left; (· exact rfl); (· (simp [go_sem, List.take_of_length_le] <;> with_reducible rfl))) | (refine GS.skip ?_ ?_ ?_; (· exact rfl); (· exact rfl)) | (refine Gd.go (s' := ?_) ?_ ?_ ?_; rotate_left; (· exact rfl); (· (simp [go_sem, List.take_of_length_le] <;> with_reducible rfl))) | (refine Gd.skip ?_ ?_ ?_; (· exact rfl); (· exact rfl)) | fail
          refine ⟨a + 1, by omega, by omega, ?_⟩
          rw [stepa, hnx]
          exact Cov.ofn (id) rfl (by simp [go_sem, List.take_of_length_le, ren, ren1, ren2, okr, okr1, okr2, ChkT, ChkN, BlkN, nf, grammarC, ruleC]) (by simp [go_sem, List.take_of_length_le, ren, ren1, ren2, okr, okr1, okr2, ChkT, ChkN, BlkN, nf, grammarC, ruleC])
    · have hae : a = r.2.length := by simp at h; omega
      subst hae
      rw [List.take_length, ← hokr]
      have co := l1Own r.2 (by omega)
      cases hk : ok r with
      | false =>
        rw [hk] at hnx
        simp only [Bool.false_eq_true, if_false, List.append_nil] at hnx
        repeat' first | (refine Holds.condT ?_ ?_; (· (simp [go_sem, List.take_of_length_le] <;> with_reducible rfl))) | (refine Holds.condF ?_ ?_; (· (simp [go_sem, List.take_of_length_le] <;> with_reducible rfl))) | refine Holds.seq ?_ | refine Holds.skip ?_ | refine Holds.exit ?_ | refine Holds.ret ?_ | refine thenA_normal ?_ | refine thenA_exit ?_ | refine thenA_ret ?_ | refine inB_normal ?_ | refine inB_ret ?_ | refine inB_here ?_ | (refine inB_past ?_ ?_; (· exact rfl)) | refine Holds.reg ?_ | refine Holds.block ?_ | refine GS.nil ?_ | refine Gd.nil ?_ | (refine Holds.any mixed ?_ ?_; (· kernel_rfl)) | (refine GS.step (s' := ?_) ?_ ?_ ?_; rotate_left; (· exact rfl); (· (simp [go_sem, List.take_of_length_le] <;> with_reducible rfl))) | (refine GS.skip ?_ ?_ ?_; (· exact rfl); (· exact rfl)) | (refine Gd.go (s' := ?_) ?_ ?_ ?_; rotate_left; (· exact rfl); (· (simp [go_sem, List.take_of_length_le] <;> with_reducible rfl))) | (refine Gd.skip ?_ ?_ ?_; (· exact rfl); (· exact rfl)) | fail
        refine ⟨(i + 1, L), ⟨by dsimp only; omega, hnx.symm⟩, by dsimp only; omega, ?_⟩
        rw [stepi]
        exact Cov.ofn (id) rfl (by simp [go_sem, List.take_of_length_le, ren, ren1, ren2, okr, okr1, okr2, ChkT, ChkN, BlkN, nf, grammarC]) (by simp [go_sem, List.take_of_length_le, ren, ren1, ren2, okr, okr1, okr2, ChkT, ChkN, BlkN, nf, grammarC])
      | true =>
        rw [hk] at hnx
        simp only [if_true] at hnx
        have hb : (L.length + 1) * 32 ≤ 140737488355328 := by omega
        repeat' first | (refine Holds.condT ?_ ?_; (· (simp [go_sem, List.take_of_length_le, ruleC] <;> with_reducible rfl))) | (refine Holds.condF ?_ ?_; (· (simp [go_sem, List.take_of_length_le, ruleC] <;> with_reducible rfl))) | refine Holds.seq ?_ | refine Holds.skip ?_ | refine Holds.exit ?_ | refine Holds.ret ?_ | refine thenA_normal ?_ | refine thenA_exit ?_ | refine thenA_ret ?_ | refine inB_normal ?_ | refine inB_ret ?_ | refine inB_here ?_ | (refine inB_past ?_ ?_; (· exact rfl)) | refine Holds.reg ?_ | refine Holds.block ?_ | refine GS.nil ?_ | refine Gd.nil ?_ | (refine GS.step (s' := ?_) ?_ ?_ ?_; rotate_left; (· exact rfl); (· (simp [go_sem, List.take_of_length_le, ruleC] <;> with_reducible rfl))) | (refine GS.skip ?_ ?_ ?_; (· exact rfl); (· exact rfl)) | (refine Gd.go (s' := ?_) ?_ ?_ ?_; rotate_left; (· exact rfl); (· (simp [go_sem, List.take_of_length_le, ruleC] <;> with_reducible rfl))) | (refine Gd.skip ?_ ?_ ?_; (· exact rfl); (· exact rfl)) | fail
        refine Holds.anx [7, 8, 1009, 1011] [0, 1] (fun n => decide (5 ≤ n)) mixed ?_ ?_ ?_; (· kernel_rfl); (· kernel_rfl)
        repeat' first | (refine Holds.condT ?_ ?_; (· (simp [go_sem, List.take_of_length_le, ruleC] <;> with_reducible rfl))) | (refine Holds.condF ?_ ?_; (· (simp [go_sem, List.take_of_length_le, ruleC] <;> with_reducible rfl))) | refine Holds.seq ?_ | refine Holds.skip ?_ | refine Holds.exit ?_ | refine Holds.ret ?_ | refine thenA_normal ?_ | refine thenA_exit ?_ | refine thenA_ret ?_ | refine inB_normal ?_ | refine inB_ret ?_ | refine inB_here ?_ | (refine inB_past ?_ ?_; (· exact rfl)) | refine Holds.reg ?_ | refine Holds.block ?_ | refine GS.nil ?_ | refine Gd.nil ?_ | (refine GS.step (s' := ?_) ?_ ?_ ?_; rotate_left; (· exact rfl); (· (simp [go_sem, List.take_of_length_le, ruleC] <;> with_reducible rfl))) | (refine GS.skip ?_ ?_ ?_; (· exact rfl); (· exact rfl)) | (refine Gd.go (s' := ?_) ?_ ?_ ?_; rotate_left; (· exact rfl); (· (simp [go_sem, List.take_of_length_le, ruleC] <;> with_reducible rfl))) | (refine Gd.skip ?_ ?_ ?_; (· exact rfl); (· exact rfl)) | refine Gx.nil ?_ | (refine Gx.go (s' := ?_) rfl ?_ ?_ ?_; rotate_left; (· exact rfl); (· (simp [go_sem, List.take_of_length_le, ruleC] <;> with_reducible rfl))) | (refine Gx.skip rfl ?_ ?_ ?_; (· exact rfl); (· exact rfl)) | (refine Gx.skipO rfl ?_ ?_ ?_; (· exact rfl); (· exact rfl)) | (refine Gx.wo (s' := ?_) rfl ?_ ?_ ?_; rotate_left; (· exact rfl); (· (simp [go_sem, List.take_of_length_le, ruleC] <;> with_reducible rfl))) | (refine Gx.skipW rfl ?_ ?_ ?_; (· exact rfl); (· exact rfl)) | (refine Gx.skipH rfl ?_ ?_ ?_; (· exact rfl); (· exact rfl)) | (refine Gx.hid (r := ?_) rfl ?_ ?_ ?_ ?_; rotate_left; (· exact rfl); (· exact rfl); (· (simp [go_sem, List.take_of_length_le, ruleC] <;> with_reducible rfl))) | (refine Gx.wr (s' := ?_) rfl ?_ ?_ ?_ ?_; rotate_left; (· exact rfl); (· (simp [go_sem, List.take_of_length_le, ruleC] <;> with_reducible rfl)); (· (simp [go_sem, List.take_of_length_le, ruleC]))) | fail
        first | refine GS.cc (co) rfl rfl rfl rfl (by simp [go_sem, List.take_of_length_le, ruleC] <;> with_reducible rfl) rfl (by simp [go_sem, List.take_of_length_le, ruleC]) ?_ | refine Gd.cc (co) rfl rfl rfl rfl (by simp [go_sem, List.take_of_length_le, ruleC] <;> with_reducible rfl) rfl (by simp [go_sem, List.take_of_length_le, ruleC]) ?_ | refine Gx.cc (co) rfl rfl rfl rfl rfl (by simp [go_sem, List.take_of_length_le, ruleC] <;> with_reducible rfl) rfl (by simp [go_sem, List.take_of_length_le, ruleC]) ?_ | refine Gx.cch (co) rfl rfl rfl rfl rfl (by simp [go_sem, List.take_of_length_le, ruleC] <;> with_reducible rfl) rfl (by simp [go_sem, List.take_of_length_le, ruleC]) ?_
        repeat' first | (refine Holds.condT ?_ ?_; (· (simp [go_sem, List.take_of_length_le, hb, ruleC] <;> with_reducible rfl))) | (refine Holds.condF ?_ ?_; (· (simp [go_sem, List.take_of_length_le, hb, ruleC] <;> with_reducible rfl))) | refine Holds.seq ?_ | refine Holds.skip ?_ | refine Holds.exit ?_ | refine Holds.ret ?_ | refine thenA_normal ?_ | refine thenA_exit ?_ | refine thenA_ret ?_ | refine inB_normal ?_ | refine inB_ret ?_ | refine inB_here ?_ | (refine inB_past ?_ ?_; (· exact rfl)) | refine Holds.reg ?_ | refine Holds.block ?_ | refine GS.nil ?_ | refine Gd.nil ?_ | (refine GS.step (s' := ?_) ?_ ?_ ?_; rotate_left; (· exact rfl); (· (simp [go_sem, List.take_of_length_le, hb, ruleC] <;> with_reducible rfl))) | (refine GS.skip ?_ ?_ ?_; (· exact rfl); (· exact rfl)) | (refine Gd.go (s' := ?_) ?_ ?_ ?_; rotate_left; (· exact rfl); (· (simp [go_sem, List.take_of_length_le, hb, ruleC] <;> with_reducible rfl))) | (refine Gd.skip ?_ ?_ ?_; (· exact rfl); (· exact rfl)) | refine Gx.nil ?_ | (refine Gx.go (s' := ?_) rfl ?_ ?_ ?_; rotate_left; (· exact rfl); (· (simp [go_sem, List.take_of_length_le, hb, ruleC] <;> with_reducible rfl))) | (refine Gx.skip rfl ?_ ?_ ?_; (· exact rfl); (· exact rfl)) | (refine Gx.skipO rfl ?_ ?_ ?_; (· exact rfl); (· exact rfl)) | (refine Gx.wo (s' := ?_) rfl ?_ ?_ ?_; rotate_left; (· exact rfl); (· (simp [go_sem, List.take_of_length_le, hb, ruleC] <;> with_reducible rfl))) | (refine Gx.skipW rfl ?_ ?_ ?_; (· exact rfl); (· exact rfl)) | (refine Gx.skipH rfl ?_ ?_ ?_; (· exact rfl); (· exact rfl)) | (refine Gx.hid (r := ?_) rfl ?_ ?_ ?_ ?_; rotate_left; (· exact rfl); (· exact rfl); (· (simp [go_sem, List.take_of_length_le, hb, ruleC] <;> with_reducible rfl))) | (refine Gx.wr (s' := ?_) rfl ?_ ?_ ?_ ?_; rotate_left; (· exact rfl); (· (simp [go_sem, List.take_of_length_le, hb, ruleC] <;> with_reducible rfl)); (· (simp [go_sem, List.take_of_length_le, hb, ruleC]))) | fail
        refine ⟨(i + 1, L ++ [r]), ⟨by dsimp only; omega, hnx.symm⟩, by dsimp only; omega, ?_⟩
        dsimp only
        rw [stepi]
        exact Cov.ofn (nm [0, 1, 2, 7]) rfl (by simp [go_sem, List.take_of_length_le, ren, ren1, ren2, okr, okr1, okr2, ChkT, ChkN, BlkN, nf, grammarC, rules_snoc]) (by simp [go_sem, List.take_of_length_le, ren, ren1, ren2, okr, okr1, okr2, ChkT, ChkN, BlkN, nf, grammarC, rules_snoc])
  · have hie : i = g.2.2.length := by simp at h; omega
    subst hie
    rw [List.take_length, ← hF] at hL
    subst hL
    repeat' first | (refine Holds.condT ?_ ?_; (· (simp [go_sem, List.take_of_length_le] <;> with_reducible rfl))) | (refine Holds.condF ?_ ?_; (· (simp [go_sem, List.take_of_length_le] <;> with_reducible rfl))) | refine Holds.seq ?_ | refine Holds.skip ?_ | refine Holds.exit ?_ | refine Holds.ret ?_ | refine thenA_normal ?_ | refine thenA_exit ?_ | refine thenA_ret ?_ | refine inB_normal ?_ | refine inB_ret ?_ | refine inB_here ?_ | (refine inB_past ?_ ?_; (· exact rfl)) | refine Holds.reg ?_ | refine Holds.block ?_ | refine GS.nil ?_ | refine Gd.nil ?_ | (refine Holds.any mixed ?_ ?_; (· kernel_rfl)) | (refine GS.stepD 63 (s' := ?_) rfl ?_ ?_ ?_; rotate_left; (· exact rfl); (· (simp [go_sem, List.take_of_length_le] <;> with_reducible rfl))) | (refine GS.skip ?_ ?_ ?_; (· exact rfl); (· exact rfl)) | (refine Gd.go (s' := ?_) ?_ ?_ ?_; rotate_left; (· exact rfl); (· (simp [go_sem, List.take_of_length_le] <;> with_reducible rfl))) | (refine Gd.skip ?_ ?_ ?_; (· exact rfl); (· exact rfl)) | refine Gx.nil ?_ | (refine Gx.go (s' := ?_) rfl ?_ ?_ ?_; rotate_left; (· exact rfl); (· (simp [go_sem, List.take_of_length_le] <;> with_reducible rfl))) | (refine Gx.skip rfl ?_ ?_ ?_; (· exact rfl); (· exact rfl)) | (refine Gx.skipO rfl ?_ ?_ ?_; (· exact rfl); (· exact rfl)) | (refine Gx.wo (s' := ?_) rfl ?_ ?_ ?_; rotate_left; (· exact rfl); (· (simp [go_sem, List.take_of_length_le] <;> with_reducible rfl))) | (refine Gx.skipW rfl ?_ ?_ ?_; (· exact rfl); (· exact rfl)) | (refine Gx.skipH rfl ?_ ?_ ?_; (· exact rfl); (· exact rfl)) | (refine Gx.hid (r := ?_) rfl ?_ ?_ ?_ ?_; rotate_left; (· exact rfl); (· exact rfl); (· (simp [go_sem, List.take_of_length_le] <;> with_reducible rfl))) | (refine Gx.wr (s' := ?_) rfl ?_ ?_ ?_ ?_; rotate_left; (· exact rfl); (· (simp [go_sem, List.take_of_length_le] <;> with_reducible rfl)); (· (simp [go_sem, List.take_of_length_le]))) | fail
    refine GS.frz [3, 2] [(4, .pi [.v (.int .i64 g.1), .v (.int .i64 g.2.1), .im 2 (rules L)])] (.cons rfl (Fz.pbM (k := ⟨31, 3, [[.v (.int .i64 g.1), .v (.int .i64 g.2.1), .own 3 2 0 L.length]]⟩) rfl rfl rfl (.cons (.v _) (.cons (.v _) (.cons (Fz.all (k := ⟨60, 2, rules L⟩) rfl rfl (by simp) rfl (rules_ok _)) .nil)))) .nil) ?_
    repeat' first | (refine Holds.condT ?_ ?_; (· (simp [go_sem, List.take_of_length_le, frz] <;> with_reducible rfl))) | (refine Holds.condF ?_ ?_; (· (simp [go_sem, List.take_of_length_le, frz] <;> with_reducible rfl))) | refine Holds.seq ?_ | refine Holds.skip ?_ | refine Holds.exit ?_ | refine Holds.ret ?_ | refine thenA_normal ?_ | refine thenA_exit ?_ | refine thenA_ret ?_ | refine inB_normal ?_ | refine inB_ret ?_ | refine inB_here ?_ | (refine inB_past ?_ ?_; (· exact rfl)) | refine Holds.reg ?_ | refine Holds.block ?_ | refine GS.nil ?_ | refine Gd.nil ?_ | (refine Holds.any mixed ?_ ?_; (· kernel_rfl)) | (refine GS.step (s' := ?_) ?_ ?_ ?_; rotate_left; (· exact rfl); (· (simp [go_sem, List.take_of_length_le, frz] <;> with_reducible rfl))) | (refine GS.skip ?_ ?_ ?_; (· exact rfl); (· exact rfl)) | (refine Gd.go (s' := ?_) ?_ ?_ ?_; rotate_left; (· exact rfl); (· (simp [go_sem, List.take_of_length_le, frz] <;> with_reducible rfl))) | (refine Gd.skip ?_ ?_ ?_; (· exact rfl); (· exact rfl)) | refine Gx.nil ?_ | (refine Gx.go (s' := ?_) rfl ?_ ?_ ?_; rotate_left; (· exact rfl); (· (simp [go_sem, List.take_of_length_le, frz] <;> with_reducible rfl))) | (refine Gx.skip rfl ?_ ?_ ?_; (· exact rfl); (· exact rfl)) | (refine Gx.skipO rfl ?_ ?_ ?_; (· exact rfl); (· exact rfl)) | (refine Gx.wo (s' := ?_) rfl ?_ ?_ ?_; rotate_left; (· exact rfl); (· (simp [go_sem, List.take_of_length_le, frz] <;> with_reducible rfl))) | (refine Gx.skipW rfl ?_ ?_ ?_; (· exact rfl); (· exact rfl)) | (refine Gx.skipH rfl ?_ ?_ ?_; (· exact rfl); (· exact rfl)) | (refine Gx.hid (r := ?_) rfl ?_ ?_ ?_ ?_; rotate_left; (· exact rfl); (· exact rfl); (· (simp [go_sem, List.take_of_length_le, frz] <;> with_reducible rfl))) | (refine Gx.wr (s' := ?_) rfl ?_ ?_ ?_ ?_; rotate_left; (· exact rfl); (· (simp [go_sem, List.take_of_length_le, frz] <;> with_reducible rfl)); (· (simp [go_sem, List.take_of_length_le, frz]))) | fail
    first | refine GS.cc (cr) rfl rfl rfl rfl (by simp [go_sem, List.take_of_length_le] <;> with_reducible rfl) rfl (by simp [go_sem, List.take_of_length_le]) ?_ | refine Gd.cc (cr) rfl rfl rfl rfl (by simp [go_sem, List.take_of_length_le] <;> with_reducible rfl) rfl (by simp [go_sem, List.take_of_length_le]) ?_ | refine Gx.cc (cr) rfl rfl rfl rfl rfl (by simp [go_sem, List.take_of_length_le] <;> with_reducible rfl) rfl (by simp [go_sem, List.take_of_length_le]) ?_ | refine Gx.cch (cr) rfl rfl rfl rfl rfl (by simp [go_sem, List.take_of_length_le] <;> with_reducible rfl) rfl (by simp [go_sem, List.take_of_length_le]) ?_
    repeat' first | (refine Holds.condT ?_ ?_; (· (simp [go_sem, List.take_of_length_le, grammarC] <;> with_reducible rfl))) | (refine Holds.condF ?_ ?_; (· (simp [go_sem, List.take_of_length_le, grammarC] <;> with_reducible rfl))) | refine Holds.seq ?_ | refine Holds.skip ?_ | refine Holds.exit ?_ | refine Holds.ret ?_ | refine thenA_normal ?_ | refine thenA_exit ?_ | refine thenA_ret ?_ | refine inB_normal ?_ | refine inB_ret ?_ | refine inB_here ?_ | (refine inB_past ?_ ?_; (· exact rfl)) | refine Holds.reg ?_ | refine Holds.block ?_ | refine GS.nil ?_ | refine Gd.nil ?_ | (refine Holds.any mixed ?_ ?_; (· kernel_rfl)) | (refine GS.step (s' := ?_) ?_ ?_ ?_; rotate_left; (· exact rfl); (· (simp [go_sem, List.take_of_length_le, grammarC] <;> with_reducible rfl))) | (refine GS.skip ?_ ?_ ?_; (· exact rfl); (· exact rfl)) | (refine Gd.go (s' := ?_) ?_ ?_ ?_; rotate_left; (· exact rfl); (· (simp [go_sem, List.take_of_length_le, grammarC] <;> with_reducible rfl))) | (refine Gd.skip ?_ ?_ ?_; (· exact rfl); (· exact rfl)) | refine Gx.nil ?_ | (refine Gx.go (s' := ?_) rfl ?_ ?_ ?_; rotate_left; (· exact rfl); (· (simp [go_sem, List.take_of_length_le, grammarC] <;> with_reducible rfl))) | (refine Gx.skip rfl ?_ ?_ ?_; (· exact rfl); (· exact rfl)) | (refine Gx.skipO rfl ?_ ?_ ?_; (· exact rfl); (· exact rfl)) | (refine Gx.wo (s' := ?_) rfl ?_ ?_ ?_; rotate_left; (· exact rfl); (· (simp [go_sem, List.take_of_length_le, grammarC] <;> with_reducible rfl))) | (refine Gx.skipW rfl ?_ ?_ ?_; (· exact rfl); (· exact rfl)) | (refine Gx.skipH rfl ?_ ?_ ?_; (· exact rfl); (· exact rfl)) | (refine Gx.hid (r := ?_) rfl ?_ ?_ ?_ ?_; rotate_left; (· exact rfl); (· exact rfl); (· (simp [go_sem, List.take_of_length_le, grammarC] <;> with_reducible rfl))) | (refine Gx.wr (s' := ?_) rfl ?_ ?_ ?_ ?_; rotate_left; (· exact rfl); (· (simp [go_sem, List.take_of_length_le, grammarC] <;> with_reducible rfl)); (· (simp [go_sem, List.take_of_length_le, grammarC]))) | fail
    refine Holds.nir 4 0 2 60 2 rfl rfl rfl (by simp [go_sem]; rfl) ?_
    clear hhas hok stepi hlen hi h
    have hl6 := lstN_len R
    have hR : ∀ x, 0 ≤ x → x ≤ 5 → hasN (lstN R) x = R x := fun x => hasN_lst R
    refine Holds.loop (ι := Nat × List RuleT) (fun i => ⟨[(2, .pb 1 3 0 0), (10, .im 1 (ints (lstN R))), (11, .pb 4 3 0 0), (71, .im 2 (rules L)), (72, .v (.int .i64 L.length)), (73, .v (.int .i64 i.1))],
      [(5, ⟨60, 2, rules i.2⟩), (4, ⟨31, 3, [[.v (.int .i64 g.1), .v (.int .i64 g.2.1), .own 5 2 0 i.2.length]]⟩), (1, ⟨31, 3, [[.v (.int .i64 0), .v (.int .i64 0), .v (.slice none 0 0)]]⟩)], 6⟩)
      (fun i => i.1 ≤ L.length ∧ i.2 = (L.take i.1).filter fun r => R r.1) (fun i => L.length - i.1) (0, []) ⟨Nat.zero_le _, rfl⟩ ?_ ?_
    · exact Cov.ofn (id) rfl (by simp [go_sem, List.take_of_length_le, ren, ren1, ren2, okr, okr1, okr2, ChkT, ChkN, BlkN, nf, grammarC, show rules [] = [] from rfl]) (by simp [go_sem, List.take_of_length_le, ren, ren1, ren2, okr, okr1, okr2, ChkT, ChkN, BlkN, nf, grammarC, show rules [] = [] from rfl])
    rintro ⟨i, N⟩ ⟨hi, hN⟩
    dsimp only at hi hN ⊢
    have stepi : wr64 ((i : Int) + 1) = ((i + 1 : Nat) : Int) := wr64_id (by omega) (by omega)
    have hNl : N.length ≤ 16 := by
      rw [hN]
      have h1 := List.length_filter_le (fun r : RuleT => R r.1) (L.take i)
      rw [List.length_take] at h1
      omega
    repeat' first | (refine Holds.condT ?_ ?_; (· (simp [go_sem, List.take_of_length_le] <;> with_reducible rfl))) | (refine Holds.condF ?_ ?_; (· (simp [go_sem, List.take_of_length_le] <;> with_reducible rfl))) | refine Holds.seq ?_ | refine Holds.skip ?_ | refine Holds.exit ?_ | refine Holds.ret ?_ | refine thenA_normal ?_ | refine thenA_exit ?_ | refine thenA_ret ?_ | refine inB_normal ?_ | refine inB_ret ?_ | refine inB_here ?_ | (refine inB_past ?_ ?_; (· exact rfl)) | refine Holds.reg ?_ | refine Holds.block ?_ | refine GS.nil ?_ | refine Gd.nil ?_ | (refine Holds.any mixed ?_ ?_; (· kernel_rfl)) | (refine GS.step (s' := ?_) ?_ ?_ ?_; rotate_left; (· exact rfl); (· (simp [go_sem, List.take_of_length_le] <;> with_reducible rfl))) | (refine GS.skip ?_ ?_ ?_; (· exact rfl); (· exact rfl)) | (refine Gd.go (s' := ?_) ?_ ?_ ?_; rotate_left; (· exact rfl); (· (simp [go_sem, List.take_of_length_le] <;> with_reducible rfl))) | (refine Gd.skip ?_ ?_ ?_; (· exact rfl); (· exact rfl)) | refine Gx.nil ?_ | (refine Gx.go (s' := ?_) rfl ?_ ?_ ?_; rotate_left; (· exact rfl); (· (simp [go_sem, List.take_of_length_le] <;> with_reducible rfl))) | (refine Gx.skip rfl ?_ ?_ ?_; (· exact rfl); (· exact rfl)) | (refine Gx.skipO rfl ?_ ?_ ?_; (· exact rfl); (· exact rfl)) | (refine Gx.wo (s' := ?_) rfl ?_ ?_ ?_; rotate_left; (· exact rfl); (· (simp [go_sem, List.take_of_length_le] <;> with_reducible rfl))) | (refine Gx.skipW rfl ?_ ?_ ?_; (· exact rfl); (· exact rfl)) | (refine Gx.skipH rfl ?_ ?_ ?_; (· exact rfl); (· exact rfl)) | (refine Gx.hid (r := ?_) rfl ?_ ?_ ?_ ?_; rotate_left; (· exact rfl); (· exact rfl); (· (simp [go_sem, List.take_of_length_le] <;> with_reducible rfl))) | (refine Gx.wr (s' := ?_) rfl ?_ ?_ ?_ ?_; rotate_left; (· exact rfl); (· (simp [go_sem, List.take_of_length_le] <;> with_reducible rfl)); (· (simp [go_sem, List.take_of_length_le]))) | fail
    refine Holds.cond rfl (fun h => ?_) (fun h => ?_)
    · have hlt : i < L.length := by simp at h; omega
      have hri : L[i]? = some L[i] := List.getElem?_eq_getElem hlt
      have hmem := List.getElem_mem hlt
      generalize L[i] = r at hri hmem
      have hr0 := hF0 r hmem
      have hr1 := hF1 r hmem
      have hnx : (L.take (i + 1)).filter (fun r => R r.1) = N ++ if R r.1 = true then [r] else [] := by
        rw [List.take_add_one, hri, List.filter_append, ← hN]
        congr 1
        by_cases e : R r.1 = true <;> simp [e]
      have ch := l1Has (lstN R) r.1 (by omega)
      rw [hR r.1 hr0 (by omega)] at ch
      repeat' first | (refine Holds.condT ?_ ?_; (· (simp [go_sem, List.take_of_length_le, get_E hri, hri, hlt, ruleC] <;> with_reducible rfl))) | (refine Holds.condF ?_ ?_; (· (simp [go_sem, List.take_of_length_le, get_E hri, hri, hlt, ruleC] <;> with_reducible rfl))) | refine Holds.seq ?_ | refine Holds.skip ?_ | refine Holds.exit ?_ | refine Holds.ret ?_ | refine thenA_normal ?_ | refine thenA_exit ?_ | refine thenA_ret ?_ | refine inB_normal ?_ | refine inB_ret ?_ | refine inB_here ?_ | (refine inB_past ?_ ?_; (· exact rfl)) | refine Holds.reg ?_ | refine Holds.block ?_ | refine GS.nil ?_ | refine Gd.nil ?_ | (refine Holds.any mixed ?_ ?_; (· kernel_rfl)) | (refine GS.step (s' := ?_) ?_ ?_ ?_; rotate_left; (· exact rfl); (· (simp [go_sem, List.take_of_length_le, get_E hri, hri, hlt, ruleC] <;> with_reducible rfl))) | (refine GS.skip ?_ ?_ ?_; (· exact rfl); (· exact rfl)) | (refine Gd.go (s' := ?_) ?_ ?_ ?_; rotate_left; (· exact rfl); (· (simp [go_sem, List.take_of_length_le, get_E hri, hri, hlt, ruleC] <;> with_reducible rfl))) | (refine Gd.skip ?_ ?_ ?_; (· exact rfl); (· exact rfl)) | refine Gx.nil ?_ | (refine Gx.go (s' := ?_) rfl ?_ ?_ ?_; rotate_left; (· exact rfl); (· (simp [go_sem, List.take_of_length_le, get_E hri, hri, hlt, ruleC] <;> with_reducible rfl))) | (refine Gx.skip rfl ?_ ?_ ?_; (· exact rfl); (· exact rfl)) | (refine Gx.skipO rfl ?_ ?_ ?_; (· exact rfl); (· exact rfl)) | (refine Gx.wo (s' := ?_) rfl ?_ ?_ ?_; rotate_left; (· exact rfl); (· (simp [go_sem, List.take_of_length_le, get_E hri, hri, hlt, ruleC] <;> with_reducible rfl))) | (refine Gx.skipW rfl ?_ ?_ ?_; (· exact rfl); (· exact rfl)) | (refine Gx.skipH rfl ?_ ?_ ?_; (· exact rfl); (· exact rfl)) | (refine Gx.hid (r := ?_) rfl ?_ ?_ ?_ ?_; rotate_left; (· exact rfl); (· exact rfl); (· (simp [go_sem, List.take_of_length_le, get_E hri, hri, hlt, ruleC] <;> with_reducible rfl))) | (refine Gx.wr (s' := ?_) rfl ?_ ?_ ?_ ?_; rotate_left; (· exact rfl); (· (simp [go_sem, List.take_of_length_le, get_E hri, hri, hlt, ruleC] <;> with_reducible rfl)); (· (simp [go_sem, List.take_of_length_le, get_E hri, hri, hlt, ruleC]))) | fail
      first | refine GS.cc (ch) rfl rfl rfl rfl (by simp [go_sem, List.take_of_length_le, ruleC] <;> with_reducible rfl) rfl (by simp [go_sem, List.take_of_length_le, ruleC]) ?_ | refine Gd.cc (ch) rfl rfl rfl rfl (by simp [go_sem, List.take_of_length_le, ruleC] <;> with_reducible rfl) rfl (by simp [go_sem, List.take_of_length_le, ruleC]) ?_ | refine Gx.cc (ch) rfl rfl rfl rfl rfl (by simp [go_sem, List.take_of_length_le, ruleC] <;> with_reducible rfl) rfl (by simp [go_sem, List.take_of_length_le, ruleC]) ?_ | refine Gx.cch (ch) rfl rfl rfl rfl rfl (by simp [go_sem, List.take_of_length_le, ruleC] <;> with_reducible rfl) rfl (by simp [go_sem, List.take_of_length_le, ruleC]) ?_
      cases hk : R r.1 with
      | false =>
        rw [hk] at hnx
        simp only [Bool.false_eq_true, if_false, List.append_nil] at hnx
        repeat' first | (refine Holds.condT ?_ ?_; (· (simp [go_sem, List.take_of_length_le] <;> with_reducible rfl))) | (refine Holds.condF ?_ ?_; (· (simp [go_sem, List.take_of_length_le] <;> with_reducible rfl))) | refine Holds.seq ?_ | refine Holds.skip ?_ | refine Holds.exit ?_ | refine Holds.ret ?_ | refine thenA_normal ?_ | refine thenA_exit ?_ | refine thenA_ret ?_ | refine inB_normal ?_ | refine inB_ret ?_ | refine inB_here ?_ | (refine inB_past ?_ ?_; (· exact rfl)) | refine Holds.reg ?_ | refine Holds.block ?_ | refine GS.nil ?_ | refine Gd.nil ?_ | (refine Holds.any mixed ?_ ?_; (· kernel_rfl)) | (refine GS.step (s' := ?_) ?_ ?_ ?_; rotate_left; (· exact rfl); (· (simp [go_sem, List.take_of_length_le] <;> with_reducible rfl))) | (refine GS.skip ?_ ?_ ?_; (· exact rfl); (· exact rfl)) | (refine Gd.go (s' := ?_) ?_ ?_ ?_; rotate_left; (· exact rfl); (· (simp [go_sem, List.take_of_length_le] <;> with_reducible rfl))) | (refine Gd.skip ?_ ?_ ?_; (· exact rfl); (· exact rfl)) | refine Gx.nil ?_ | (refine Gx.go (s' := ?_) rfl ?_ ?_ ?_; rotate_left; (· exact rfl); (· (simp [go_sem, List.take_of_length_le] <;> with_reducible rfl))) | (refine Gx.skip rfl ?_ ?_ ?_; (· exact rfl); (· exact rfl)) | (refine Gx.skipO rfl ?_ ?_ ?_; (· exact rfl); (· exact rfl)) | (refine Gx.wo (s' := ?_) rfl ?_ ?_ ?_; rotate_left; (· exact rfl); (· (simp [go_sem, List.take_of_length_le] <;> with_reducible rfl))) | (refine Gx.skipW rfl ?_ ?_ ?_; (· exact rfl); (· exact rfl)) | (refine Gx.skipH rfl ?_ ?_ ?_; (· exact rfl); (· exact rfl)) | (refine Gx.hid (r := ?_) rfl ?_ ?_ ?_ ?_; rotate_left; (· exact rfl); (· exact rfl); (· (simp [go_sem, List.take_of_length_le] <;> with_reducible rfl))) | (refine Gx.wr (s' := ?_) rfl ?_ ?_ ?_ ?_; rotate_left; (· exact rfl); (· (simp [go_sem, List.take_of_length_le] <;> with_reducible rfl)); (· (simp [go_sem, List.take_of_length_le]))) | fail
        refine ⟨(i + 1, N), ⟨by dsimp only; omega, hnx.symm⟩, by dsimp only; omega, ?_⟩
        rw [stepi]
        exact Cov.ofn (id) rfl (by simp [go_sem, List.take_of_length_le, ren, ren1, ren2, okr, okr1, okr2, ChkT, ChkN, BlkN, nf, grammarC]) (by simp [go_sem, List.take_of_length_le, ren, ren1, ren2, okr, okr1, okr2, ChkT, ChkN, BlkN, nf, grammarC])
      | true =>
        rw [hk] at hnx
        simp only [if_true] at hnx
        have hb : (N.length + 1) * 32 ≤ 140737488355328 := by omega
        repeat' first | (refine Holds.condT ?_ ?_; (· (simp [go_sem, List.take_of_length_le, hb, ruleC] <;> with_reducible rfl))) | (refine Holds.condF ?_ ?_; (· (simp [go_sem, List.take_of_length_le, hb, ruleC] <;> with_reducible rfl))) | refine Holds.seq ?_ | refine Holds.skip ?_ | refine Holds.exit ?_ | refine Holds.ret ?_ | refine thenA_normal ?_ | refine thenA_exit ?_ | refine thenA_ret ?_ | refine inB_normal ?_ | refine inB_ret ?_ | refine inB_here ?_ | (refine inB_past ?_ ?_; (· exact rfl)) | refine Holds.reg ?_ | refine Holds.block ?_ | refine GS.nil ?_ | refine Gd.nil ?_ | (refine Holds.any mixed ?_ ?_; (· kernel_rfl)) | (refine GS.step (s' := ?_) ?_ ?_ ?_; rotate_left; (· exact rfl); (· (simp [go_sem, List.take_of_length_le, hb, ruleC] <;> with_reducible rfl))) | (refine GS.skip ?_ ?_ ?_; (· exact rfl); (· exact rfl)) | (refine Gd.go (s' := ?_) ?_ ?_ ?_; rotate_left; (· exact rfl); (· (simp [go_sem, List.take_of_length_le, hb, ruleC] <;> with_reducible rfl))) | (refine Gd.skip ?_ ?_ ?_; (· exact rfl); (· exact rfl)) | refine Gx.nil ?_ | (refine Gx.go (s' := ?_) rfl ?_ ?_ ?_; rotate_left; (· exact rfl); (· (simp [go_sem, List.take_of_length_le, hb, ruleC] <;> with_reducible rfl))) | (refine Gx.skip rfl ?_ ?_ ?_; (· exact rfl); (· exact rfl)) | (refine Gx.skipO rfl ?_ ?_ ?_; (· exact rfl); (· exact rfl)) | (refine Gx.wo (s' := ?_) rfl ?_ ?_ ?_; rotate_left; (· exact rfl); (· (simp [go_sem, List.take_of_length_le, hb, ruleC] <;> with_reducible rfl))) | (refine Gx.skipW rfl ?_ ?_ ?_; (· exact rfl); (· exact rfl)) | (refine Gx.skipH rfl ?_ ?_ ?_; (· exact rfl); (· exact rfl)) | (refine Gx.hid (r := ?_) rfl ?_ ?_ ?_ ?_; rotate_left; (· exact rfl); (· exact rfl); (· (simp [go_sem, List.take_of_length_le, hb, ruleC] <;> with_reducible rfl))) | (refine Gx.wr (s' := ?_) rfl ?_ ?_ ?_ ?_; rotate_left; (· exact rfl); (· (simp [go_sem, List.take_of_length_le, hb, ruleC] <;> with_reducible rfl)); (· (simp [go_sem, List.take_of_length_le, hb, ruleC]))) | fail
        refine ⟨(i + 1, N ++ [r]), ⟨by dsimp only; omega, hnx.symm⟩, by dsimp only; omega, ?_⟩
        dsimp only
        rw [stepi]
        exact Cov.ofn (nm [0, 1, 2, 3, 4, 9]) rfl (by simp [go_sem, List.take_of_length_le, ren, ren1, ren2, okr, okr1, okr2, ChkT, ChkN, BlkN, nf, grammarC, rules_snoc]) (by simp [go_sem, List.take_of_length_le, ren, ren1, ren2, okr, okr1, okr2, ChkT, ChkN, BlkN, nf, grammarC, rules_snoc])
    · have hie : i = L.length := by simp at h; omega
      subst hie
      rw [List.take_length] at hN
      subst hN
      repeat' first | (refine Holds.condT ?_ ?_; (· (simp [go_sem, List.take_of_length_le] <;> with_reducible rfl))) | (refine Holds.condF ?_ ?_; (· (simp [go_sem, List.take_of_length_le] <;> with_reducible rfl))) | refine Holds.seq ?_ | refine Holds.skip ?_ | refine Holds.exit ?_ | refine Holds.ret ?_ | refine thenA_normal ?_ | refine thenA_exit ?_ | refine thenA_ret ?_ | refine inB_normal ?_ | refine inB_ret ?_ | refine inB_here ?_ | (refine inB_past ?_ ?_; (· exact rfl)) | refine Holds.reg ?_ | refine Holds.block ?_ | refine GS.nil ?_ | refine Gd.nil ?_ | (refine Holds.any mixed ?_ ?_; (· kernel_rfl)) | (refine GS.step (s' := ?_) ?_ ?_ ?_; rotate_left; (· exact rfl); (· (simp [go_sem, List.take_of_length_le] <;> with_reducible rfl))) | (refine GS.skip ?_ ?_ ?_; (· exact rfl); (· exact rfl)) | (refine Gd.go (s' := ?_) ?_ ?_ ?_; rotate_left; (· exact rfl); (· (simp [go_sem, List.take_of_length_le] <;> with_reducible rfl))) | (refine Gd.skip ?_ ?_ ?_; (· exact rfl); (· exact rfl)) | refine Gx.nil ?_ | (refine Gx.go (s' := ?_) rfl ?_ ?_ ?_; rotate_left; (· exact rfl); (· (simp [go_sem, List.take_of_length_le] <;> with_reducible rfl))) | (refine Gx.skip rfl ?_ ?_ ?_; (· exact rfl); (· exact rfl)) | (refine Gx.skipO rfl ?_ ?_ ?_; (· exact rfl); (· exact rfl)) | (refine Gx.wo (s' := ?_) rfl ?_ ?_ ?_; rotate_left; (· exact rfl); (· (simp [go_sem, List.take_of_length_le] <;> with_reducible rfl))) | (refine Gx.skipW rfl ?_ ?_ ?_; (· exact rfl); (· exact rfl)) | (refine Gx.skipH rfl ?_ ?_ ?_; (· exact rfl); (· exact rfl)) | (refine Gx.hid (r := ?_) rfl ?_ ?_ ?_ ?_; rotate_left; (· exact rfl); (· exact rfl); (· (simp [go_sem, List.take_of_length_le] <;> with_reducible rfl))) | (refine Gx.wr (s' := ?_) rfl ?_ ?_ ?_ ?_; rotate_left; (· exact rfl); (· (simp [go_sem, List.take_of_length_le] <;> with_reducible rfl)); (· (simp [go_sem, List.take_of_length_le]))) | fail
      refine Out.mk (xs := ?_) ?_ ?_ (by first | exact .inr rfl | exact .inl rfl)
      rotate_left
      · simp [go_sem, List.take_of_length_le] <;> with_reducible rfl
      exact Fz.agL (.cons (.v _) (.cons (.v _) (.cons (Fz.all rfl rfl (by simp) rfl (rules_ok _)) .nil)))
end Go.Proofs.Ytabdnpgahdbciaa.En
end
section
namespace Go.Proofs.Ytabdnpgahdbciaa.En
open Go.RowKit
set_option linter.unusedSimpArgs false
set_option linter.unusedVariables false
set_option maxHeartbeats 4000000
abbrev Item3 := Int × Int × Int
def ruleN (g : GrammarT) (r : Nat) : RuleT := g.2.2.getD r (0, [])
def symAt (g : GrammarT) (x : Item3) : Option Int := (ruleN g x.1.toNat).2[x.2.1.toNat]?
inductive Ear (g : GrammarT) (w : List Int) : Nat → Nat → Nat → Nat → Prop
  | start (r : Nat) (hr : r < g.2.2.length) (hl : (ruleN g r).1 = 0) : Ear g w 0 r 0 0
  | pred (p r d f : Nat) (x : Int) (r2 : Nat) (h : Ear g w p r d f) (hx : (ruleN g r).2[d]? = some x) (hx0 : 0 ≤ x) (hr : r2 < g.2.2.length) (hl : (ruleN g r2).1 = x) : Ear g w p r2 0 p
  | comp (p r d f r2 d2 f2 : Nat) (h : Ear g w p r d f) (hd : (ruleN g r).2.length = d) (h2 : Ear g w f r2 d2 f2) (hx : (ruleN g r2).2[d2]? = some (ruleN g r).1) : Ear g w p r2 (d2 + 1) f2
  | scan (p r d f : Nat) (x : Int) (h : Ear g w p r d f) (hx : (ruleN g r).2[d]? = some x) (hx0 : x < 0) (hw : w[p]? = some (-1 - x)) : Ear g w (p + 1) r (d + 1) f
theorem Ear.bnd {g : GrammarT} {w : List Int} {p r d f : Nat} (h : Ear g w p r d f) : r < g.2.2.length ∧ d ≤ (ruleN g r).2.length ∧ f ≤ p ∧ p ≤ w.length := by
  induction h with
  | start r hr hl => exact ⟨hr, Nat.zero_le _, Nat.le_refl _, Nat.zero_le _⟩
  | pred p r d f x r2 h hx hx0 hr hl ih => exact ⟨hr, Nat.zero_le _, Nat.le_refl _, ih.2.2.2⟩
  | comp p r d f r2 d2 f2 h hd h2 hx ih ih2 => exact ⟨ih2.1, (List.getElem?_eq_some_iff.1 hx).1, Nat.le_trans ih2.2.2.1 ih.2.2.1, ih.2.2.2⟩
  | scan p r d f x h hx hx0 hw ih => exact ⟨ih.1, (List.getElem?_eq_some_iff.1 hx).1, Nat.le_succ_of_le ih.2.2.1, (List.getElem?_eq_some_iff.1 hw).1⟩
def itemN (r d f : Nat) : Item3 := ((r : Int), (d : Int), (f : Int))
def okI (g : GrammarT) (w : List Int) (p : Nat) (x : Item3) : Prop := ∃ r d f : Nat, x = itemN r d f ∧ Ear g w p r d f
theorem symAt_N (g : GrammarT) (r d f : Nat) : symAt g (itemN r d f) = (ruleN g r).2[d]? := by simp [symAt, itemN]
abbrev Sets3 := List (List Item3)
def at3 (sets : Sets3) (p : Nat) : List Item3 := sets.getD p []
def CloP (g : GrammarT) (p : Nat) (S : List Item3) (x : Item3) : Prop := ∀ y, symAt g x = some y → 0 ≤ y → ∀ r2 : Nat, r2 < g.2.2.length → (ruleN g r2).1 = y → itemN r2 0 p ∈ S
def advI (z : Item3) : Item3 := (z.1, z.2.1 + 1, z.2.2)
def CloC (g : GrammarT) (F S : List Item3) (x : Item3) : Prop := symAt g x = none → ∀ z ∈ F, symAt g z = some (ruleN g x.1.toNat).1 → advI z ∈ S
def CloS (g : GrammarT) (w : List Int) (p : Nat) (T : List Item3) (x : Item3) : Prop := ∀ y, symAt g x = some y → y < 0 → w[p]? = some (-1 - y) → advI x ∈ T
structure Snd (g : GrammarT) (w : List Int) (sets : Sets3) : Prop where
  ln : sets.length = w.length + 1
  ok : ∀ p, ∀ x ∈ at3 sets p, okI g w p x
  nd : ∀ p, (at3 sets p).Nodup
  str : ∀ r : Nat, r < g.2.2.length → (ruleN g r).1 = 0 → itemN r 0 0 ∈ at3 sets 0
def DoneI (g : GrammarT) (w : List Int) (sets : Sets3) (k : Nat) : Prop := ∀ q, q < k → ∀ x ∈ at3 sets q, CloP g q (at3 sets q) x ∧ CloC g (at3 sets x.2.2.toNat) (at3 sets q) x ∧ CloS g w q (at3 sets (q + 1)) x
theorem advI_N (r d f : Nat) : advI (itemN r d f) = itemN r (d + 1) f := by simp [advI, itemN]
theorem ear_in {g : GrammarT} {w : List Int} {sets : Sets3} (hs : Snd g w sets) (hd : DoneI g w sets (w.length + 1)) {p r d f : Nat} (h : Ear g w p r d f) : itemN r d f ∈ at3 sets p := by
  induction h with
  | start r hr hl => exact hs.str r hr hl
  | pred p r d f x r2 h hx hx0 hr hl ih =>
    have hb := h.bnd
    exact (hd p (by omega) _ ih).1 x (by rw [symAt_N]; exact hx) hx0 r2 hr hl
  | comp p r d f r2 d2 f2 h hdd h2 hx ih ih2 =>
    have hb := h.bnd
    have := (hd p (by omega) _ ih).2.1 (by rw [symAt_N]; exact List.getElem?_eq_none (by omega)) (itemN r2 d2 f2) (by simpa [itemN] using ih2) (by rw [symAt_N]; simpa [itemN] using hx)
    rwa [advI_N] at this
  | scan p r d f x h hx hx0 hw ih =>
    have hb := h.bnd
    have := (hd p (by omega) _ ih).2.2 x (by rw [symAt_N]; exact hx) hx0 hw
    rwa [advI_N] at this
theorem ear_iff {g : GrammarT} {w : List Int} {sets : Sets3} (hs : Snd g w sets) (hd : DoneI g w sets (w.length + 1)) {p : Nat} {x : Item3} : x ∈ at3 sets p ↔ okI g w p x := by
  constructor
  · exact hs.ok p x
  · rintro ⟨r, d, f, rfl, h⟩
    exact ear_in hs hd h
def univ3 : List Item3 := (List.range 16).flatMap fun r => (List.range 5).flatMap fun d => (List.range 11).map fun f => itemN r d f
theorem univ3_len : univ3.length = 880 := by decide +kernel
theorem nodupLe3 {α : Type} [DecidableEq α] : ∀ (l L : List α), l.Nodup → (∀ x ∈ l, x ∈ L) → l.length ≤ L.length
  | [], _, _, _ => Nat.zero_le _
  | x :: l, L, hn, h => by
    have hx : x ∈ L := h x (by simp)
    have hn' := List.nodup_cons.1 hn
    have := nodupLe3 l (L.erase x) hn'.2 (fun y hy => (List.mem_erase_of_ne (fun e => by subst e; exact hn'.1 hy)).2 (h y (by simp [hy])))
    rw [List.length_erase_of_mem hx] at this
    have hp : 0 < L.length := List.length_pos_of_mem hx
    simp only [List.length_cons]; omega
theorem ruleN_at {g : GrammarT} {r : Nat} (h : r < g.2.2.length) : g.2.2[r]? = some (ruleN g r) := by
  rw [ruleN, List.getD_eq_getElem?_getD, List.getElem?_eq_getElem h]; rfl
theorem good_r3 {g : GrammarT} (h : goodG g = true) {r : Nat} (hr : r < g.2.2.length) : g.2.2.length ≤ 16 ∧ (ruleN g r).2.length ≤ 4 := by
  have hd : g.2.2.getD r (0, []) = ruleN g r := rfl
  simp only [goodG, Bool.and_eq_true, decide_eq_true_eq] at h
  refine ⟨h.1.2, ?_⟩
  have ha : goodAtG g r = true := by
    cases e : goodAtG g r with
    | true => rfl
    | false => have := h.2; rw [allB_no hr e] at this; cases this
  simp only [goodAtG, hd, Bool.and_eq_true, decide_eq_true_eq] at ha
  exact ha.1.1.2
theorem good_sym {g : GrammarT} (h : goodG g = true) {r : Nat} (hr : r < g.2.2.length) {x : Int} (hx : x ∈ (ruleN g r).2) : -4 ≤ x ∧ x ≤ 5 := by
  have hd : g.2.2.getD r (0, []) = ruleN g r := rfl
  simp only [goodG, Bool.and_eq_true, decide_eq_true_eq] at h
  have h1 : 1 ≤ g.1 ∧ g.1 ≤ 6 := by simpa [inR] using h.1.1.1
  have h2 : 1 ≤ g.2.1 ∧ g.2.1 ≤ 4 := by simpa [inR] using h.1.1.2
  have ha : goodAtG g r = true := by
    cases e : goodAtG g r with
    | true => rfl
    | false => have := h.2; rw [allB_no hr e] at this; cases this
  simp only [goodAtG, hd, Bool.and_eq_true] at ha
  have := (List.all_eq_true.1 ha.1.2) x hx
  have h3 : -g.2.1 ≤ x ∧ x ≤ g.1 - 1 := by simpa [symOk, inR] using this
  omega
theorem okI_bnd {g : GrammarT} (hg : goodG g = true) {w : List Int} (hw : w.length ≤ 10) {p : Nat} {x : Item3} (h : okI g w p x) : ∃ r d f : Nat, x = itemN r d f ∧ r < g.2.2.length ∧ r < 16 ∧ d ≤ 4 ∧ d ≤ (ruleN g r).2.length ∧ f ≤ p ∧ p ≤ w.length ∧ f ≤ 10 := by
  obtain ⟨r, d, f, e, hE⟩ := h
  have hb := hE.bnd
  have h4 := good_r3 hg hb.1
  exact ⟨r, d, f, e, hb.1, by omega, by omega, hb.2.1, hb.2.2.1, hb.2.2.2, by omega⟩
theorem Snd.few {g : GrammarT} (hg : goodG g = true) {w : List Int} (hw : w.length ≤ 10) {sets : Sets3} (hs : Snd g w sets) (p : Nat) : (at3 sets p).length ≤ 880 := by
  rw [← univ3_len]
  refine nodupLe3 _ _ (hs.nd p) fun x hx => ?_
  obtain ⟨r, d, f, e, h1, h2, h3, h4, h5, h6, h7⟩ := okI_bnd hg hw (hs.ok p x hx)
  subst e
  simp only [univ3, List.mem_flatMap, List.mem_range, List.mem_map]
  exact ⟨r, h2, d, by omega, f, by omega, rfl⟩
theorem at3_set {sets : Sets3} {p : Nat} (hp : p < sets.length) (S : List Item3) : at3 (sets.set p S) p = S := by simp [at3, hp]
theorem at3_ne {sets : Sets3} {p q : Nat} (h : p ≠ q) (S : List Item3) : at3 (sets.set p S) q = at3 sets q := by simp [at3, List.getD_eq_getElem?_getD, List.getElem?_set_ne h]
structure PutR (S : List Item3) (x : Item3) (S' : List Item3) : Prop where
  mem : ∀ z, z ∈ S' ↔ z = x ∨ z ∈ S
  nd : S.Nodup → S'.Nodup
  old : x ∈ S → S' = S
  new : x ∉ S → S'.length = S.length + 1
theorem Snd.put {g : GrammarT} {w : List Int} {sets : Sets3} (hs : Snd g w sets) {p : Nat} (hp : p < sets.length) {x : Item3} (hx : okI g w p x) {S' : List Item3} (h : PutR (at3 sets p) x S') : Snd g w (sets.set p S') := by
  refine ⟨by simp [hs.ln], fun q z hz => ?_, fun q => ?_, fun r hr hl => ?_⟩
  · by_cases e : p = q
    · subst e
      rw [at3_set hp] at hz
      rcases (h.mem z).1 hz with g1 | g1
      · rw [g1]; exact hx
      · exact hs.ok p z g1
    · rw [at3_ne e] at hz; exact hs.ok q z hz
  · by_cases e : p = q
    · subst e; rw [at3_set hp]; exact h.nd (hs.nd p)
    · rw [at3_ne e]; exact hs.nd q
  · by_cases e : p = 0
    · subst e; rw [at3_set hp]; exact (h.mem _).2 (.inr (hs.str r hr hl))
    · rw [at3_ne e]; exact hs.str r hr hl
theorem DoneI.put {g : GrammarT} {w : List Int} {sets : Sets3} (hs : Snd g w sets) {k p : Nat} (hd : DoneI g w sets k) (hkp : k ≤ p) (hp : p < sets.length) {x : Item3} {S' : List Item3} (h : PutR (at3 sets p) x S') : DoneI g w (sets.set p S') k := by
  intro q hq z hz
  have hqp : p ≠ q := by omega
  rw [at3_ne hqp] at hz
  obtain ⟨h1, h2, h3⟩ := hd q hq z hz
  obtain ⟨r, d, f, e, hE⟩ := hs.ok q z hz
  have hb := hE.bnd
  have hf : p ≠ z.2.2.toNat := by rw [e]; simp [itemN]; omega
  refine ⟨by rw [at3_ne hqp]; exact h1, by rw [at3_ne hqp, at3_ne hf]; exact h2, ?_⟩
  by_cases e1 : p = q + 1
  · subst e1
    rw [at3_set hp]
    exact fun y h4 h5 h6 => (h.mem _).2 (.inr (h3 y h4 h5 h6))
  · rw [at3_ne e1]; exact h3
structure PassI (g : GrammarT) (w : List Int) (p : Nat) (S0 : List Item3) (sets : Sets3) (again : Bool) (k : Nat) : Prop where
  snd : Snd g w sets
  dn : DoneI g w sets p
  le : S0.length ≤ (at3 sets p).length
  yes : again = true → S0.length < (at3 sets p).length
  no : again = false → at3 sets p = S0 ∧ ∀ (i : Nat) (x : Item3), i < k → S0[i]? = some x → CloP g p S0 x ∧ CloC g (at3 sets x.2.2.toNat) S0 x
theorem PassI.put {g : GrammarT} {w : List Int} {p : Nat} {S0 : List Item3} {sets : Sets3} {again : Bool} {k : Nat} (h : PassI g w p S0 sets again k) (hp : p < sets.length) {x : Item3} (hx : okI g w p x) {S' : List Item3} (hr : PutR (at3 sets p) x S') : PassI g w p S0 (sets.set p S') (again || decide (x ∉ at3 sets p)) k := by
  by_cases hm : x ∈ at3 sets p
  · have e1 := hr.old hm
    have e2 : sets.set p S' = sets := by
      rw [e1]
      refine List.ext_getElem? fun i => ?_
      by_cases hi : p = i
      · subst hi; rw [List.getElem?_set_self hp, at3, List.getD_eq_getElem?_getD, List.getElem?_eq_getElem hp]; rfl
      · rw [List.getElem?_set_ne hi]
    rw [e2]
    simpa [hm] using h
  · have hl := hr.new hm
    refine ⟨h.snd.put hp hx hr, h.dn.put h.snd (Nat.le_refl _) hp hr, ?_, fun _ => ?_, fun e => ?_⟩
    · rw [at3_set hp, hl]; have := h.le; omega
    · rw [at3_set hp, hl]; have := h.le; omega
    · simp [hm] at e
theorem PassI.putNext {g : GrammarT} {w : List Int} {p : Nat} {S0 : List Item3} {sets : Sets3} {again : Bool} {k : Nat} (h : PassI g w p S0 sets again k) (hp : p + 1 < sets.length) {x : Item3} (hx : okI g w (p + 1) x) {S' : List Item3} (hr : PutR (at3 sets (p + 1)) x S') : PassI g w p S0 (sets.set (p + 1) S') again k := by
  have hne : p + 1 ≠ p := by omega
  refine ⟨h.snd.put hp hx hr, h.dn.put h.snd (by omega) hp hr, by rw [at3_ne hne]; exact h.le, by rw [at3_ne hne]; exact h.yes, fun e => ?_⟩
  rw [at3_ne hne]
  obtain ⟨h1, h2⟩ := h.no e
  refine ⟨h1, fun i z hi hz => ?_⟩
  obtain ⟨c1, c2⟩ := h2 i z hi hz
  obtain ⟨r, d, f, e2, hE⟩ := h.snd.ok p z (by rw [h1]; exact List.mem_of_getElem? hz)
  have hb := hE.bnd
  have hf : p + 1 ≠ z.2.2.toNat := by rw [e2]; simp [itemN]; omega
  exact ⟨c1, by rw [at3_ne hf]; exact c2⟩
theorem PassI.next {g : GrammarT} {w : List Int} {p : Nat} {S0 : List Item3} {sets : Sets3} {again : Bool} {k : Nat} (h : PassI g w p S0 sets again k) (hc : ∀ x, again = false → S0[k]? = some x → CloP g p S0 x ∧ CloC g (at3 sets x.2.2.toNat) S0 x) : PassI g w p S0 sets again (k + 1) := by
  refine ⟨h.snd, h.dn, h.le, h.yes, fun e => ⟨(h.no e).1, fun i x hi hx => ?_⟩⟩
  by_cases hik : i = k
  · subst hik; exact hc x e hx
  · exact (h.no e).2 i x (by omega) hx
theorem PassI.again {g : GrammarT} {w : List Int} {p : Nat} {S0 : List Item3} {sets : Sets3} {again : Bool} {k : Nat} (h : PassI g w p S0 sets again k) : PassI g w p (at3 sets p) sets false 0 :=
  ⟨h.snd, h.dn, Nat.le_refl _, fun e => (by cases e), fun _ => ⟨rfl, fun i x hi => absurd hi (Nat.not_lt_zero i)⟩⟩
theorem PassI.stop {g : GrammarT} {w : List Int} {p : Nat} {S0 : List Item3} {sets : Sets3} {k : Nat} (h : PassI g w p S0 sets false k) (hk : S0.length ≤ k) : at3 sets p = S0 ∧ ∀ x ∈ at3 sets p, CloP g p (at3 sets p) x ∧ CloC g (at3 sets x.2.2.toNat) (at3 sets p) x := by
  obtain ⟨h1, h2⟩ := h.no rfl
  refine ⟨h1, fun x hx => ?_⟩
  rw [h1] at hx ⊢
  obtain ⟨i, hi, e⟩ := List.mem_iff_getElem.1 hx
  exact h2 i x (by omega) (by rw [List.getElem?_eq_getElem hi, e])
theorem DoneI.next {g : GrammarT} {w : List Int} {p : Nat} {sets : Sets3} (h : DoneI g w sets p) (hc : ∀ x ∈ at3 sets p, CloP g p (at3 sets p) x ∧ CloC g (at3 sets x.2.2.toNat) (at3 sets p) x) (hs : ∀ x ∈ at3 sets p, CloS g w p (at3 sets (p + 1)) x) : DoneI g w sets (p + 1) := by
  intro q hq x hx
  by_cases e : q = p
  · subst e; exact ⟨(hc x hx).1, (hc x hx).2, hs x hx⟩
  · exact h q (by omega) x hx
end Go.Proofs.Ytabdnpgahdbciaa.En
end
section
namespace Go.Proofs.Ytabdnpgahdbciaa.En
open Go.RowKit
set_option linter.unusedSimpArgs false
set_option linter.unusedVariables false
@[simp] theorem nfr_nodes (l : List Node3) : nfr (nodes l) := nfr_of_ok (nodes_ok l)
@[simp] theorem nfr_edges (l : List Edge3) : nfr (edges l) := nfr_of_ok (edges_ok l)
end Go.Proofs.Ytabdnpgahdbciaa.En
end
section
namespace Go.Proofs.Ytabdnpgahdbciaa.En
open Go.RowKit
set_option linter.unusedSimpArgs false
set_option linter.unusedVariables false
set_option maxHeartbeats 4000000
@[simp] theorem onyR_nodes (l : List (Node3)) : onyR (nodes l) := fun row hr x hx => by
  have := nodes_ok l row hr x hx
  simp only [nodes, List.mem_map] at hr
  obtain ⟨n, _, rfl⟩ := hr
  simp only [nodeC, List.mem_cons, List.not_mem_nil, or_false] at hx
  rcases hx with rfl | rfl | rfl <;> simp
def edgeO (x : Edge3) : List AV := [.v (.int .i64 x.1), .v (.int .i64 x.2.1), .ow 3 1 (ints x.2.2)]
def edgesO (l : List Edge3) : List (List AV) := l.map edgeO
@[simp] theorem edgesO_len (l : List (Edge3)) : (edgesO l).length = l.length := by simp [edgesO]
@[simp] theorem edgesO_get (l : List (Edge3)) (i : Nat) : (edgesO l)[i]? = (l[i]?).map edgeO := by simp [edgesO]
@[simp] theorem edgesO_gE (l : List (Edge3)) (i : Nat) (h : i < (edgesO l).length) : (edgesO l)[i] = edgeO (l[i]'(by simpa using h)) := by simp [edgesO]
theorem edgesO_all (p : AV → Prop) (l : List (Edge3)) (h : ∀ x ∈ l, ∀ y ∈ edgeO x, p y) : ∀ row ∈ edgesO l, ∀ y ∈ row, p y := by
  intro row hr y hy
  simp only [edgesO, List.mem_map] at hr
  obtain ⟨n, hn, rfl⟩ := hr
  exact h n hn y hy
@[simp] theorem nfr_edgesO (l : List (Edge3)) : nfr (edgesO l) := edgesO_all _ l fun x _ y hy => by simp only [edgeO, List.mem_cons, List.not_mem_nil, or_false] at hy; rcases hy with rfl | rfl | rfl <;> rfl
@[simp] theorem onyR_edgesO (l : List (Edge3)) : onyR (edgesO l) := edgesO_all _ l fun x _ y hy => by simp only [edgeO, List.mem_cons, List.not_mem_nil, or_false] at hy; rcases hy with rfl | rfl | rfl <;> simp
end Go.Proofs.Ytabdnpgahdbciaa.En
end
section
namespace Go.Proofs.Ytabdnpgahdbciaa.En
open Go.RowKit
set_option linter.unusedSimpArgs false
set_option linter.unusedVariables false
set_option maxHeartbeats 4000000
def fstX {α : Type} [DecidableEq α] : List α → α → Nat → Int
  | [], _, _ => -1
  | x :: xs, n, k => if x = n then (k : Int) else fstX xs n (k + 1)
theorem fstX_at {α : Type} [DecidableEq α] {n : α} : ∀ (xs : List α) (i k : Nat), xs[i]? = some n → (∀ j, j < i → ∀ x, xs[j]? = some x → x ≠ n) → fstX xs n k = ((k + i : Nat) : Int)
  | [], i, k, h, _ => by simp at h
  | x :: xs, 0, k, h, _ => by simp at h; simp [fstX, h]
  | x :: xs, i + 1, k, h, hno => by
    have h0 : x ≠ n := hno 0 (by omega) x (by simp)
    unfold fstX
    rw [if_neg h0, fstX_at xs i (k + 1) (by simpa using h) fun j hj y hy => hno (j + 1) (by omega) y (by simpa using hy)]
    congr 1; omega
theorem fstX_no {α : Type} [DecidableEq α] {n : α} : ∀ (xs : List α) (k : Nat), n ∉ xs → fstX xs n k = -1
  | [], k, _ => rfl
  | x :: xs, k, h => by
    unfold fstX
    rw [if_neg (fun e => h (by simp [e])), fstX_no xs (k + 1) fun g => h (.tail _ g)]
theorem fstX_in {α : Type} [DecidableEq α] (n : α) : ∀ (xs : List α) (k : Nat), -1 ≤ fstX xs n k ∧ fstX xs n k ≤ (k : Int) + xs.length
  | [], k => by simp [fstX]
  | x :: xs, k => by
    unfold fstX
    have := fstX_in n xs (k + 1)
    split <;> simp only [List.length_cons] <;> omega
theorem not_memX {α : Type} {xs : List α} {n : α} (h : ∀ (i : Nat) (x : α), xs[i]? = some x → x ≠ n) : n ∉ xs := fun hm => by
  obtain ⟨i, hi⟩ := List.mem_iff_getElem?.1 hm
  exact h i n hi rfl
end Go.Proofs.Ytabdnpgahdbciaa.En
end
section
namespace Go.Proofs.Ytabdnpgahdbciaa.En
open Go.RowKit
set_option linter.unusedSimpArgs false
set_option linter.unusedVariables false
set_option maxHeartbeats 8000000
end Go.Proofs.Ytabdnpgahdbciaa.En
end
section
namespace Go.Proofs.Ytabdnpgahdbciaa.En
open Go.RowKit
set_option linter.unusedSimpArgs false
set_option linter.unusedVariables false
set_option maxHeartbeats 8000000
def lessI (a b : Item3) : Bool := if a.2.2 = b.2.2 then (if a.1 = b.1 then decide (a.2.1 < b.2.1) else decide (a.1 < b.1)) else decide (a.2.2 < b.2.2)
theorem lessI_iff (a b : Item3) : lessI a b = true ↔ a.2.2 < b.2.2 ∨ (a.2.2 = b.2.2 ∧ (a.1 < b.1 ∨ (a.1 = b.1 ∧ a.2.1 < b.2.1))) := by
  unfold lessI
  split
  · split
    · simp only [decide_eq_true_eq]; omega
    · simp only [decide_eq_true_eq]; omega
  · simp only [decide_eq_true_eq]; omega
theorem lessI_irr (a : Item3) : lessI a a = false := by
  cases h : lessI a a with
  | false => rfl
  | true => rw [lessI_iff] at h; omega
theorem lessI_trans {a b c : Item3} (h : lessI a b = true) (k : lessI b c = true) : lessI a c = true := by
  rw [lessI_iff] at *; omega
theorem lessI_total {a b : Item3} (h : a ≠ b) (k : ¬ lessI a b = true) : lessI b a = true := by
  rw [lessI_iff] at *
  have : ¬ (a.1 = b.1 ∧ a.2.1 = b.2.1 ∧ a.2.2 = b.2.2) := fun ⟨e1, e2, e3⟩ => h (Prod.ext e1 (Prod.ext e2 e3))
  omega
def cutF (S : List Item3) (x : Item3) : Nat → Nat
  | 0 => 0
  | k + 1 => if lessI x (S.getD k (0, 0, 0)) then cutF S x k else k + 1
theorem cutF_le (S : List Item3) (x : Item3) : ∀ k, cutF S x k ≤ k
  | 0 => Nat.le_refl _
  | k + 1 => by unfold cutF; have := cutF_le S x k; split <;> omega
theorem cutF_hi (S : List Item3) (x : Item3) : ∀ k i, cutF S x k ≤ i → i < k → lessI x (S.getD i (0, 0, 0)) = true
  | 0, i, _, h => absurd h (Nat.not_lt_zero i)
  | k + 1, i, h1, h2 => by
    unfold cutF at h1
    split at h1
    · rename_i h
      by_cases e : i = k
      · subst e; exact h
      · exact cutF_hi S x k i h1 (by omega)
    · omega
theorem cutF_lo (S : List Item3) (x : Item3) : ∀ k, 0 < cutF S x k → lessI x (S.getD (cutF S x k - 1) (0, 0, 0)) = false
  | 0, h => absurd h (Nat.not_lt_zero 0)
  | k + 1, h => by
    unfold cutF at h ⊢
    split
    · rename_i g; rw [if_pos g] at h; exact cutF_lo S x k h
    · rename_i g; simpa using g
def cutI (S : List Item3) (x : Item3) : Nat := cutF S x S.length
def metI (S : List Item3) (x : Item3) : Bool := decide (0 < cutI S x) && decide (S.getD (cutI S x - 1) (0, 0, 0) = x)
def putI (S : List Item3) (x : Item3) : List Item3 := if metI S x then S else S.take (cutI S x) ++ [x] ++ S.drop (cutI S x)
def SortI (S : List Item3) : Prop := S.Pairwise fun a b => lessI a b = true
theorem sortI_at {S : List Item3} (h : SortI S) {i j : Nat} (hij : i < j) (hj : j < S.length) : lessI (S.getD i (0, 0, 0)) (S.getD j (0, 0, 0)) = true := by
  have := List.pairwise_iff_getElem.1 h i j (by omega) hj hij
  simpa [List.getD_eq_getElem?_getD, List.getElem?_eq_getElem (show i < S.length by omega), List.getElem?_eq_getElem hj] using this
theorem sortI_nodup {S : List Item3} (h : SortI S) : S.Nodup := h.imp fun {a b} hab e => by subst e; rw [lessI_irr] at hab; cases hab
theorem metI_iff {S : List Item3} (h : SortI S) (x : Item3) : metI S x = true ↔ x ∈ S := by
  have hle := cutF_le S x S.length
  constructor
  · intro hm
    simp only [metI, Bool.and_eq_true] at hm
    have h1 := of_decide_eq_true hm.1
    have h2 := of_decide_eq_true hm.2
    have hlt : cutI S x - 1 < S.length := by unfold cutI at h1 ⊢; omega
    rw [← h2, List.getD_eq_getElem?_getD, List.getElem?_eq_getElem hlt]
    exact List.getElem_mem hlt
  · intro hm
    obtain ⟨i, hi, e⟩ := List.mem_iff_getElem.1 hm
    have hgi : S.getD i (0, 0, 0) = x := by rw [List.getD_eq_getElem?_getD, List.getElem?_eq_getElem hi]; exact e
    have hlt : i < cutI S x := Nat.lt_of_not_le fun hge => by
      have := cutF_hi S x S.length i hge hi
      rw [hgi, lessI_irr] at this; cases this
    have h0 : 0 < cutI S x := by omega
    have hlo := cutF_lo S x S.length h0
    have he : i = cutI S x - 1 := by
      refine Classical.byContradiction fun hne => ?_
      have hlt2 : cutI S x - 1 < S.length := by unfold cutI at h0 ⊢; omega
      have := sortI_at h (show i < cutI S x - 1 by omega) hlt2
      rw [hgi] at this
      unfold cutI at this
      rw [this] at hlo; cases hlo
    simp only [metI, Bool.and_eq_true]
    exact ⟨decide_eq_true h0, decide_eq_true (by rw [← he]; exact hgi)⟩
theorem putI_sort {S : List Item3} (h : SortI S) (x : Item3) : SortI (putI S x) := by
  unfold putI
  split
  · exact h
  · rename_i hm
    have hx : x ∉ S := fun g => hm ((metI_iff h x).2 g)
    have hle : cutI S x ≤ S.length := cutF_le S x S.length
    have hlow : ∀ a ∈ S.take (cutI S x), lessI a x = true := fun a ha => by
      obtain ⟨i, hi, e⟩ := List.mem_iff_getElem.1 ha
      rw [List.length_take] at hi
      rw [List.getElem_take] at e
      have haS : a ∈ S := e ▸ List.getElem_mem _
      have hlo := cutF_lo S x S.length (show 0 < cutF S x S.length by unfold cutI at hi; omega)
      have hlt : cutI S x - 1 < S.length := by omega
      have hk : lessI (S.getD (cutI S x - 1) (0, 0, 0)) x = true := by
        refine lessI_total (fun e2 => hx ?_) (by unfold cutI; rw [hlo]; simp)
        rw [e2, List.getD_eq_getElem?_getD, List.getElem?_eq_getElem hlt]; exact List.getElem_mem hlt
      have hgi : S.getD i (0, 0, 0) = a := by rw [List.getD_eq_getElem?_getD, List.getElem?_eq_getElem (show i < S.length by omega)]; exact e
      by_cases e3 : i = cutI S x - 1
      · rw [← hgi, e3]; exact hk
      · rw [← hgi]; exact lessI_trans (sortI_at h (by omega) hlt) hk
    have hhigh : ∀ b ∈ S.drop (cutI S x), lessI x b = true := fun b hb => by
      obtain ⟨i, hi, e⟩ := List.mem_iff_getElem.1 hb
      rw [List.length_drop] at hi
      rw [List.getElem_drop] at e
      have := cutF_hi S x S.length (cutI S x + i) (by unfold cutI; omega) (by omega)
      rw [List.getD_eq_getElem?_getD, List.getElem?_eq_getElem (show cutI S x + i < S.length by omega)] at this
      rw [← e]; exact this
    rw [List.append_assoc]
    refine List.pairwise_append.2 ⟨h.sublist (List.take_sublist _ _), ?_, fun a ha b hb => ?_⟩
    · exact List.pairwise_cons.2 ⟨hhigh, h.sublist (List.drop_sublist _ _)⟩
    · rcases List.mem_append.1 hb with g | g
      · rw [List.mem_singleton] at g; subst g; exact hlow a ha
      · exact lessI_trans (hlow a ha) (hhigh b g)
theorem putI_R {S : List Item3} (h : SortI S) (x : Item3) : PutR S x (putI S x) := by
  have hs := putI_sort h x
  refine ⟨fun z => ?_, fun _ => sortI_nodup hs, fun hm => ?_, fun hm => ?_⟩
  · unfold putI
    split
    · rename_i g
      have := (metI_iff h x).1 g
      constructor
      · exact .inr
      · rintro (e | e)
        · rw [e]; exact this
        · exact e
    · simp only [List.mem_append, List.mem_singleton]
      constructor
      · rintro ((g | g) | g)
        · exact .inr (List.mem_of_mem_take g)
        · exact .inl g
        · exact .inr (List.mem_of_mem_drop g)
      · rintro (g | g)
        · exact .inl (.inr g)
        · rw [← List.take_append_drop (cutI S x) S] at g
          rcases List.mem_append.1 g with e | e
          · exact .inl (.inl e)
          · exact .inr e
  · unfold putI; rw [if_pos ((metI_iff h x).2 hm)]
  · unfold putI
    rw [if_neg (fun g => hm ((metI_iff h x).1 g))]
    have hle : cutI S x ≤ S.length := cutF_le S x S.length
    simp; omega
theorem metI_dec {S : List Item3} (h : SortI S) (x : Item3) : (!metI S x) = decide (x ∉ S) := by
  by_cases hm : x ∈ S
  · rw [(metI_iff h x).2 hm]; simp [hm]
  · have : metI S x = false := by cases e : metI S x with
      | false => rfl
      | true => exact absurd ((metI_iff h x).1 e) hm
    rw [this]; simp [hm]
/-! #### walks -/
theorem nodes_all (l : List Node3) (P : List AV → Prop) : (∀ x, x ∈ nodes l → P x) ↔ ∀ n, n ∈ l → P (nodeC n) := by
  simp only [nodes, List.mem_map]
  exact ⟨fun h n hn => h _ ⟨n, hn, rfl⟩, fun h x ⟨n, hn, e⟩ => e ▸ h n hn⟩
theorem nodes_take (l : List Node3) (k : Nat) : (nodes l).take k = nodes (l.take k) := by simp [nodes, List.map_take]
theorem nodes_drop (l : List Node3) (k : Nat) : (nodes l).drop k = nodes (l.drop k) := by simp [nodes, List.map_drop]
theorem eqItem3 : EqT Try.prog 56 3 := EqT.mk (by kernel_rfl) (by kernel_rfl) (by kernel_rfl) (by kernel_rfl) (by kernel_rfl)
theorem l13Less (a b : Item3) : Pure Try.prog 101 [.ag (nodeC a), .ag (nodeC b)] (.v (.bool (lessI a b))) := by
  refine Pure.mk (rs := [.tmp 4]) (nt := 30) Try.func101 (by kernel_rfl) rfl rfl rfl (by simp) ?_
  simp only [sl, nodeC]
  unfold lessI
  by_cases h1 : a.2.2 = b.2.2
  · have h1' : (a.2.2 != b.2.2) = false := by simp [h1]
    by_cases h2 : a.1 = b.1
    · have h2' : (a.1 != b.1) = false := by simp [h2]
      rw [if_pos h1, if_pos h2]
      repeat' first | (refine Holds.condT ?_ ?_; (· (simp [go_sem, List.take_of_length_le, nodeC, h1', h2'] <;> with_reducible rfl))) | (refine Holds.condF ?_ ?_; (· (simp [go_sem, List.take_of_length_le, nodeC, h1', h2'] <;> with_reducible rfl))) | refine Holds.seq ?_ | refine Holds.skip ?_ | refine Holds.exit ?_ | refine Holds.ret ?_ | refine thenA_normal ?_ | refine thenA_exit ?_ | refine thenA_ret ?_ | refine inB_normal ?_ | refine inB_ret ?_ | refine inB_here ?_ | (refine inB_past ?_ ?_; (· exact rfl)) | refine Holds.reg ?_ | refine Holds.block ?_ | refine GS.nil ?_ | (refine GS.step (s' := ?_) ?_ ?_ ?_; rotate_left; (· exact rfl); (· (simp [go_sem, List.take_of_length_le, nodeC, h1', h2'] <;> with_reducible rfl))) | (refine GS.skip ?_ ?_ ?_; (· exact rfl); (· exact rfl)) | fail
      refine Out.mk (xs := ?_) ?_ ?_ (by first | exact .inr rfl | exact .inl rfl)
      rotate_left
      · simp [go_sem, List.take_of_length_le] <;> with_reducible rfl
      exact .v _
    · have h2' : (a.1 != b.1) = true := by simp [h2]
      rw [if_pos h1, if_neg h2]
      repeat' first | (refine Holds.condT ?_ ?_; (· (simp [go_sem, List.take_of_length_le, nodeC, h1', h2'] <;> with_reducible rfl))) | (refine Holds.condF ?_ ?_; (· (simp [go_sem, List.take_of_length_le, nodeC, h1', h2'] <;> with_reducible rfl))) | refine Holds.seq ?_ | refine Holds.skip ?_ | refine Holds.exit ?_ | refine Holds.ret ?_ | refine thenA_normal ?_ | refine thenA_exit ?_ | refine thenA_ret ?_ | refine inB_normal ?_ | refine inB_ret ?_ | refine inB_here ?_ | (refine inB_past ?_ ?_; (· exact rfl)) | refine Holds.reg ?_ | refine Holds.block ?_ | refine GS.nil ?_ | (refine GS.step (s' := ?_) ?_ ?_ ?_; rotate_left; (· exact rfl); (· (simp [go_sem, List.take_of_length_le, nodeC, h1', h2'] <;> with_reducible rfl))) | (refine GS.skip ?_ ?_ ?_; (· exact rfl); (· exact rfl)) | fail
      refine Out.mk (xs := ?_) ?_ ?_ (by first | exact .inr rfl | exact .inl rfl)
      rotate_left
      · simp [go_sem, List.take_of_length_le] <;> with_reducible rfl
      exact .v _
  · have h1' : (a.2.2 != b.2.2) = true := by simp [h1]
    rw [if_neg h1]
    repeat' first | (refine Holds.condT ?_ ?_; (· (simp [go_sem, List.take_of_length_le, nodeC, h1'] <;> with_reducible rfl))) | (refine Holds.condF ?_ ?_; (· (simp [go_sem, List.take_of_length_le, nodeC, h1'] <;> with_reducible rfl))) | refine Holds.seq ?_ | refine Holds.skip ?_ | refine Holds.exit ?_ | refine Holds.ret ?_ | refine thenA_normal ?_ | refine thenA_exit ?_ | refine thenA_ret ?_ | refine inB_normal ?_ | refine inB_ret ?_ | refine inB_here ?_ | (refine inB_past ?_ ?_; (· exact rfl)) | refine Holds.reg ?_ | refine Holds.block ?_ | refine GS.nil ?_ | (refine GS.step (s' := ?_) ?_ ?_ ?_; rotate_left; (· exact rfl); (· (simp [go_sem, List.take_of_length_le, nodeC, h1'] <;> with_reducible rfl))) | (refine GS.skip ?_ ?_ ?_; (· exact rfl); (· exact rfl)) | fail
    refine Out.mk (xs := ?_) ?_ ?_ (by first | exact .inr rfl | exact .inl rfl)
    rotate_left
    · simp [go_sem, List.take_of_length_le] <;> with_reducible rfl
    exact .v _
theorem l13Put (S : List Item3) (x : Item3) (hS : S.length ≤ 4000) : Pure Try.prog 77 [.im 3 (nodes S), .ag (nodeC x)] (.tu [.im 3 (nodes (putI S x)), .v (.bool (!metI S x))]) := by
  refine Pure.mk (rs := [.tmp 4, .tmp 5]) (nt := 52) Try.func77 (by kernel_rfl) rfl rfl rfl (by simp) ?_
  simp only [sl, nodeC]
  repeat' first | (refine Holds.condT ?_ ?_; (· (simp [go_sem, List.take_of_length_le] <;> with_reducible rfl))) | (refine Holds.condF ?_ ?_; (· (simp [go_sem, List.take_of_length_le] <;> with_reducible rfl))) | refine Holds.seq ?_ | refine Holds.skip ?_ | refine Holds.exit ?_ | refine Holds.ret ?_ | refine thenA_normal ?_ | refine thenA_exit ?_ | refine thenA_ret ?_ | refine inB_normal ?_ | refine inB_ret ?_ | refine inB_here ?_ | (refine inB_past ?_ ?_; (· exact rfl)) | refine Holds.reg ?_ | refine Holds.block ?_ | refine GS.nil ?_ | refine Gd.nil ?_ | (refine Holds.any mixed ?_ ?_; (· kernel_rfl)) | (refine GS.step (s' := ?_) ?_ ?_ ?_; rotate_left; (· exact rfl); (· (simp [go_sem, List.take_of_length_le] <;> with_reducible rfl))) | (refine GS.skip ?_ ?_ ?_; (· exact rfl); (· exact rfl)) | (refine Gd.go (s' := ?_) ?_ ?_ ?_; rotate_left; (· exact rfl); (· (simp [go_sem, List.take_of_length_le] <;> with_reducible rfl))) | (refine Gd.skip ?_ ?_ ?_; (· exact rfl); (· exact rfl)) | fail
  refine Holds.loop (ι := Nat) (fun k => ⟨[(0, .im 3 (nodes S)), (3, .pb 0 3 0 0), (6, .v (.int .i64 k))], [(0, ⟨56, 3, [nodeC x]⟩)], 1⟩)
    (fun k => k ≤ S.length ∧ cutF S x k = cutI S x) (fun k => k) S.length ⟨Nat.le_refl _, rfl⟩ ?_ ?_
  · exact Cov.ofn (id) rfl (by simp [go_sem, List.take_of_length_le, ren, ren1, ren2, okr, okr1, okr2, ChkT, ChkN, BlkN, nf, nodeC]) (by simp [go_sem, List.take_of_length_le, ren, ren1, ren2, okr, okr1, okr2, ChkT, ChkN, BlkN, nf, nodeC])
  rintro k ⟨hk, hc⟩
  have hm1 : wr64 ((k : Int) - 1) = (k : Int) - 1 := wr64_id (by omega) (by omega)
  have exitC : (k = 0 ∨ (0 < k ∧ lessI x (S.getD (k - 1) (0, 0, 0)) = false)) → cutI S x = k := by
    rintro (e | ⟨e1, e2⟩)
    · subst e; rw [← hc]; rfl
    · obtain ⟨q, rfl⟩ : ∃ q, k = q + 1 := ⟨k - 1, by omega⟩
      rw [← hc, cutF, if_neg (by simpa using e2)]
  have hk0 : (0 : Int) ≤ k := by omega
  have hb0 : ∀ n : Nat, n ≤ 8001 → n * 24 ≤ 140737488355328 := fun n hn => by omega
  cases k with
  | zero =>
    have e := exitC (.inl rfl)
    have hp : putI S x = [x] ++ S := by unfold putI metI; rw [e]; simp
    have hme : metI S x = false := by unfold metI; rw [e]; simp
    rw [hme, hp]
    have hb1 := hb0 S.length (by omega)
    have hb2 := hb0 (S.length + 1) (by omega)
    have hb3 := hb0 (1 + S.length) (by omega)
    repeat' first | (refine Holds.condT ?_ ?_; (· (simp [go_sem, List.take_of_length_le] <;> with_reducible rfl))) | (refine Holds.condF ?_ ?_; (· (simp [go_sem, List.take_of_length_le] <;> with_reducible rfl))) | refine Holds.seq ?_ | refine Holds.skip ?_ | refine Holds.exit ?_ | refine Holds.ret ?_ | refine thenA_normal ?_ | refine thenA_exit ?_ | refine thenA_ret ?_ | refine inB_normal ?_ | refine inB_ret ?_ | refine inB_here ?_ | (refine inB_past ?_ ?_; (· exact rfl)) | refine Holds.reg ?_ | refine Holds.block ?_ | refine GS.nil ?_ | refine Gd.nil ?_ | (refine GS.step (s' := ?_) ?_ ?_ ?_; rotate_left; (· exact rfl); (· (simp [go_sem, List.take_of_length_le] <;> with_reducible rfl))) | (refine GS.skip ?_ ?_ ?_; (· exact rfl); (· exact rfl)) | (refine Gd.go (s' := ?_) ?_ ?_ ?_; rotate_left; (· exact rfl); (· (simp [go_sem, List.take_of_length_le] <;> with_reducible rfl))) | (refine Gd.skip ?_ ?_ ?_; (· exact rfl); (· exact rfl)) | fail
    (refine Holds.any mixed ?_ ?_; (· kernel_rfl))
    repeat' first | (refine Holds.condT ?_ ?_; (· (simp [go_sem, List.take_of_length_le] <;> with_reducible rfl))) | (refine Holds.condF ?_ ?_; (· (simp [go_sem, List.take_of_length_le] <;> with_reducible rfl))) | refine Holds.seq ?_ | refine Holds.skip ?_ | refine Holds.exit ?_ | refine Holds.ret ?_ | refine thenA_normal ?_ | refine thenA_exit ?_ | refine thenA_ret ?_ | refine inB_normal ?_ | refine inB_ret ?_ | refine inB_here ?_ | (refine inB_past ?_ ?_; (· exact rfl)) | refine Holds.reg ?_ | refine Holds.block ?_ | refine GS.nil ?_ | refine Gd.nil ?_ | (refine GS.step (s' := ?_) ?_ ?_ ?_; rotate_left; (· exact rfl); (· (simp [go_sem, List.take_of_length_le] <;> with_reducible rfl))) | (refine GS.skip ?_ ?_ ?_; (· exact rfl); (· exact rfl)) | (refine Gd.go (s' := ?_) ?_ ?_ ?_; rotate_left; (· exact rfl); (· (simp [go_sem, List.take_of_length_le] <;> with_reducible rfl))) | (refine Gd.skip ?_ ?_ ?_; (· exact rfl); (· exact rfl)) | fail
    (refine Holds.any mixed ?_ ?_; (· kernel_rfl))
    repeat' first | (refine Holds.condT ?_ ?_; (· (simp [go_sem, List.take_of_length_le, hb1, hb2, nodes_all, nodeC] <;> with_reducible rfl))) | (refine Holds.condF ?_ ?_; (· (simp [go_sem, List.take_of_length_le, hb1, hb2, nodes_all, nodeC] <;> with_reducible rfl))) | refine Holds.seq ?_ | refine Holds.skip ?_ | refine Holds.exit ?_ | refine Holds.ret ?_ | refine thenA_normal ?_ | refine thenA_exit ?_ | refine thenA_ret ?_ | refine inB_normal ?_ | refine inB_ret ?_ | refine inB_here ?_ | (refine inB_past ?_ ?_; (· exact rfl)) | refine Holds.reg ?_ | refine Holds.block ?_ | refine GS.nil ?_ | refine Gd.nil ?_ | (refine GS.step (s' := ?_) ?_ ?_ ?_; rotate_left; (· exact rfl); (· (simp [go_sem, List.take_of_length_le, hb1, hb2, nodes_all, nodeC] <;> with_reducible rfl))) | (refine GS.skip ?_ ?_ ?_; (· exact rfl); (· exact rfl)) | (refine Gd.go (s' := ?_) ?_ ?_ ?_; rotate_left; (· exact rfl); (· (simp [go_sem, List.take_of_length_le, hb1, hb2, nodes_all, nodeC] <;> with_reducible rfl))) | (refine Gd.skip ?_ ?_ ?_; (· exact rfl); (· exact rfl)) | fail
    refine Holds.anx [0, 4, 1007] [1, 2, 3, 5, 2006] (fun n => decide (3 ≤ n)) mixed ?_ ?_ ?_; (· kernel_rfl); (· kernel_rfl)
    repeat' first | (refine Holds.condT ?_ ?_; (· (simp [go_sem, List.take_of_length_le, nodeC] <;> with_reducible rfl))) | (refine Holds.condF ?_ ?_; (· (simp [go_sem, List.take_of_length_le, nodeC] <;> with_reducible rfl))) | refine Holds.seq ?_ | refine Holds.skip ?_ | refine Holds.exit ?_ | refine Holds.ret ?_ | refine thenA_normal ?_ | refine thenA_exit ?_ | refine thenA_ret ?_ | refine inB_normal ?_ | refine inB_ret ?_ | refine inB_here ?_ | (refine inB_past ?_ ?_; (· exact rfl)) | refine Holds.reg ?_ | refine Holds.block ?_ | refine GS.nil ?_ | refine Gd.nil ?_ | (refine GS.step (s' := ?_) ?_ ?_ ?_; rotate_left; (· exact rfl); (· (simp [go_sem, List.take_of_length_le, nodeC] <;> with_reducible rfl))) | (refine GS.skip ?_ ?_ ?_; (· exact rfl); (· exact rfl)) | (refine Gd.go (s' := ?_) ?_ ?_ ?_; rotate_left; (· exact rfl); (· (simp [go_sem, List.take_of_length_le, nodeC] <;> with_reducible rfl))) | (refine Gd.skip ?_ ?_ ?_; (· exact rfl); (· exact rfl)) | refine Gx.nil ?_ | (refine Gx.go (s' := ?_) rfl ?_ ?_ ?_; rotate_left; (· exact rfl); (· (simp [go_sem, List.take_of_length_le, nodeC] <;> with_reducible rfl))) | (refine Gx.skip rfl ?_ ?_ ?_; (· exact rfl); (· exact rfl)) | (refine Gx.skipO rfl ?_ ?_ ?_; (· exact rfl); (· exact rfl)) | (refine Gx.wo (s' := ?_) rfl ?_ ?_ ?_; rotate_left; (· exact rfl); (· (simp [go_sem, List.take_of_length_le, nodeC] <;> with_reducible rfl))) | (refine Gx.skipW rfl ?_ ?_ ?_; (· exact rfl); (· exact rfl)) | (refine Gx.skipH rfl ?_ ?_ ?_; (· exact rfl); (· exact rfl)) | (refine Gx.hid (r := ?_) rfl ?_ ?_ ?_ ?_; rotate_left; (· exact rfl); (· exact rfl); (· (simp [go_sem, List.take_of_length_le, nodeC] <;> with_reducible rfl))) | (refine Gx.wr (s' := ?_) rfl ?_ ?_ ?_ ?_; rotate_left; (· exact rfl); (· (simp [go_sem, List.take_of_length_le, nodeC] <;> with_reducible rfl)); (· (simp [go_sem, List.take_of_length_le, nodeC]))) | fail
    refine Gx.bs (sz := 3) (e := 56) (rows := [nodeC x]) [(46, .ag (nodeC x))] rfl rfl rfl rfl rfl (by simp [go_sem, List.take_of_length_le, Op.operands, cl, cl1, nodeC]) (by simp [go_sem, List.take_of_length_le, Op.operands, cl, cl1, nodeC]) (by simp [go_sem, List.take_of_length_le, Op.operands, cl, cl1, nodeC]) ?_
    repeat' first | (refine Holds.condT ?_ ?_; (· (simp [go_sem, List.take_of_length_le, nodeC, hb3, nodes_all] <;> with_reducible rfl))) | (refine Holds.condF ?_ ?_; (· (simp [go_sem, List.take_of_length_le, nodeC, hb3, nodes_all] <;> with_reducible rfl))) | refine Holds.seq ?_ | refine Holds.skip ?_ | refine Holds.exit ?_ | refine Holds.ret ?_ | refine thenA_normal ?_ | refine thenA_exit ?_ | refine thenA_ret ?_ | refine inB_normal ?_ | refine inB_ret ?_ | refine inB_here ?_ | (refine inB_past ?_ ?_; (· exact rfl)) | refine Holds.reg ?_ | refine Holds.block ?_ | refine GS.nil ?_ | refine Gd.nil ?_ | (refine GS.step (s' := ?_) ?_ ?_ ?_; rotate_left; (· exact rfl); (· (simp [go_sem, List.take_of_length_le, nodeC, hb3, nodes_all] <;> with_reducible rfl))) | (refine GS.skip ?_ ?_ ?_; (· exact rfl); (· exact rfl)) | (refine Gd.go (s' := ?_) ?_ ?_ ?_; rotate_left; (· exact rfl); (· (simp [go_sem, List.take_of_length_le, nodeC, hb3, nodes_all] <;> with_reducible rfl))) | (refine Gd.skip ?_ ?_ ?_; (· exact rfl); (· exact rfl)) | refine Gx.nil ?_ | (refine Gx.go (s' := ?_) rfl ?_ ?_ ?_; rotate_left; (· exact rfl); (· (simp [go_sem, List.take_of_length_le, nodeC, hb3, nodes_all] <;> with_reducible rfl))) | (refine Gx.skip rfl ?_ ?_ ?_; (· exact rfl); (· exact rfl)) | (refine Gx.skipO rfl ?_ ?_ ?_; (· exact rfl); (· exact rfl)) | (refine Gx.wo (s' := ?_) rfl ?_ ?_ ?_; rotate_left; (· exact rfl); (· (simp [go_sem, List.take_of_length_le, nodeC, hb3, nodes_all] <;> with_reducible rfl))) | (refine Gx.skipW rfl ?_ ?_ ?_; (· exact rfl); (· exact rfl)) | (refine Gx.skipH rfl ?_ ?_ ?_; (· exact rfl); (· exact rfl)) | (refine Gx.hid (r := ?_) rfl ?_ ?_ ?_ ?_; rotate_left; (· exact rfl); (· exact rfl); (· (simp [go_sem, List.take_of_length_le, nodeC, hb3, nodes_all] <;> with_reducible rfl))) | (refine Gx.wr (s' := ?_) rfl ?_ ?_ ?_ ?_; rotate_left; (· exact rfl); (· (simp [go_sem, List.take_of_length_le, nodeC, hb3, nodes_all] <;> with_reducible rfl)); (· (simp [go_sem, List.take_of_length_le, nodeC, hb3, nodes_all]))) | fail
    refine Out.mk (xs := ?_) ?_ ?_ (by first | exact .inr rfl | exact .inl rfl)
    rotate_left
    · simp [go_sem, List.take_of_length_le] <;> with_reducible rfl
    exact Fz.tuL (.cons (Fz.all rfl rfl (by simp; omega) (by simp [nodes, nodeC]) (nodes_ok _)) (.cons (.v _) .nil))
  | succ q =>
    have hq1 : wr64 (((q + 1 : Nat) : Int) - 1) = (q : Int) := by rw [wr64_id (by omega) (by omega)]; omega
    have hq2 : wr64 (q : Int) = (q : Int) := wr64_id (by omega) (by omega)
    have hq3 : wr64 ((q : Int) + 1 - 1) = (q : Int) := by rw [show (q : Int) + 1 - 1 = q by omega]; exact hq2
    have hql : q < S.length := by omega
    have hxq : S[q]? = some S[q] := List.getElem?_eq_getElem hql
    have hgd : S.getD q (0, 0, 0) = S[q] := by simp [hql]
    have cl := l13Less x S[q]
    rw [cutF, hgd] at hc
    have hq0 : (0 : Int) < (q : Int) + 1 := by omega
    have hqq : ((q + 1 : Nat) : Int) = (q : Int) + 1 := by omega
    rw [Nat.add_sub_cancel, hgd] at exitC
    generalize S[q] = y at hxq hgd cl hc exitC
    repeat' first | (refine Holds.condT ?_ ?_; (· (simp [go_sem, List.take_of_length_le] <;> with_reducible rfl))) | (refine Holds.condF ?_ ?_; (· (simp [go_sem, List.take_of_length_le] <;> with_reducible rfl))) | refine Holds.seq ?_ | refine Holds.skip ?_ | refine Holds.exit ?_ | refine Holds.ret ?_ | refine thenA_normal ?_ | refine thenA_exit ?_ | refine thenA_ret ?_ | refine inB_normal ?_ | refine inB_ret ?_ | refine inB_here ?_ | (refine inB_past ?_ ?_; (· exact rfl)) | refine Holds.reg ?_ | refine Holds.block ?_ | refine GS.nil ?_ | refine Gd.nil ?_ | (refine GS.step (s' := ?_) ?_ ?_ ?_; rotate_left; (· exact rfl); (· (simp [go_sem, List.take_of_length_le] <;> with_reducible rfl))) | (refine GS.skip ?_ ?_ ?_; (· exact rfl); (· exact rfl)) | (refine Gd.go (s' := ?_) ?_ ?_ ?_; rotate_left; (· exact rfl); (· (simp [go_sem, List.take_of_length_le] <;> with_reducible rfl))) | (refine Gd.skip ?_ ?_ ?_; (· exact rfl); (· exact rfl)) | refine Gx.nil ?_ | (refine Gx.go (s' := ?_) rfl ?_ ?_ ?_; rotate_left; (· exact rfl); (· (simp [go_sem, List.take_of_length_le] <;> with_reducible rfl))) | (refine Gx.skip rfl ?_ ?_ ?_; (· exact rfl); (· exact rfl)) | (refine Gx.skipO rfl ?_ ?_ ?_; (· exact rfl); (· exact rfl)) | (refine Gx.wo (s' := ?_) rfl ?_ ?_ ?_; rotate_left; (· exact rfl); (· (simp [go_sem, List.take_of_length_le] <;> with_reducible rfl))) | (refine Gx.skipW rfl ?_ ?_ ?_; (· exact rfl); (· exact rfl)) | (refine Gx.skipH rfl ?_ ?_ ?_; (· exact rfl); (· exact rfl)) | (refine Gx.hid (r := ?_) rfl ?_ ?_ ?_ ?_; rotate_left; (· exact rfl); (· exact rfl); (· (simp [go_sem, List.take_of_length_le] <;> with_reducible rfl))) | (refine Gx.wr (s' := ?_) rfl ?_ ?_ ?_ ?_; rotate_left; (· exact rfl); (· (simp [go_sem, List.take_of_length_le] <;> with_reducible rfl)); (· (simp [go_sem, List.take_of_length_le]))) | fail
    (refine Holds.any mixed ?_ ?_; (· kernel_rfl))
    repeat' first | (refine Holds.condT ?_ ?_; (· (simp [go_sem, List.take_of_length_le, hq0, hq1, hq2, hq3, hql, get_E hxq, hxq, nodeC, hqq] <;> with_reducible rfl))) | (refine Holds.condF ?_ ?_; (· (simp [go_sem, List.take_of_length_le, hq0, hq1, hq2, hq3, hql, get_E hxq, hxq, nodeC, hqq] <;> with_reducible rfl))) | refine Holds.seq ?_ | refine Holds.skip ?_ | refine Holds.exit ?_ | refine Holds.ret ?_ | refine thenA_normal ?_ | refine thenA_exit ?_ | refine thenA_ret ?_ | refine inB_normal ?_ | refine inB_ret ?_ | refine inB_here ?_ | (refine inB_past ?_ ?_; (· exact rfl)) | refine Holds.reg ?_ | refine Holds.block ?_ | refine GS.nil ?_ | refine Gd.nil ?_ | (refine GS.step (s' := ?_) ?_ ?_ ?_; rotate_left; (· exact rfl); (· (simp [go_sem, List.take_of_length_le, hq0, hq1, hq2, hq3, hql, get_E hxq, hxq, nodeC, hqq] <;> with_reducible rfl))) | (refine GS.skip ?_ ?_ ?_; (· exact rfl); (· exact rfl)) | (refine Gd.go (s' := ?_) ?_ ?_ ?_; rotate_left; (· exact rfl); (· (simp [go_sem, List.take_of_length_le, hq0, hq1, hq2, hq3, hql, get_E hxq, hxq, nodeC, hqq] <;> with_reducible rfl))) | (refine Gd.skip ?_ ?_ ?_; (· exact rfl); (· exact rfl)) | refine Gx.nil ?_ | (refine Gx.go (s' := ?_) rfl ?_ ?_ ?_; rotate_left; (· exact rfl); (· (simp [go_sem, List.take_of_length_le, hq0, hq1, hq2, hq3, hql, get_E hxq, hxq, nodeC, hqq] <;> with_reducible rfl))) | (refine Gx.skip rfl ?_ ?_ ?_; (· exact rfl); (· exact rfl)) | (refine Gx.skipO rfl ?_ ?_ ?_; (· exact rfl); (· exact rfl)) | (refine Gx.wo (s' := ?_) rfl ?_ ?_ ?_; rotate_left; (· exact rfl); (· (simp [go_sem, List.take_of_length_le, hq0, hq1, hq2, hq3, hql, get_E hxq, hxq, nodeC, hqq] <;> with_reducible rfl))) | (refine Gx.skipW rfl ?_ ?_ ?_; (· exact rfl); (· exact rfl)) | (refine Gx.skipH rfl ?_ ?_ ?_; (· exact rfl); (· exact rfl)) | (refine Gx.hid (r := ?_) rfl ?_ ?_ ?_ ?_; rotate_left; (· exact rfl); (· exact rfl); (· (simp [go_sem, List.take_of_length_le, hq0, hq1, hq2, hq3, hql, get_E hxq, hxq, nodeC, hqq] <;> with_reducible rfl))) | (refine Gx.wr (s' := ?_) rfl ?_ ?_ ?_ ?_; rotate_left; (· exact rfl); (· (simp [go_sem, List.take_of_length_le, hq0, hq1, hq2, hq3, hql, get_E hxq, hxq, nodeC, hqq] <;> with_reducible rfl)); (· (simp [go_sem, List.take_of_length_le, hq0, hq1, hq2, hq3, hql, get_E hxq, hxq, nodeC, hqq]))) | fail
    first | refine GS.cc (cl) rfl rfl rfl rfl (by simp [go_sem, List.take_of_length_le, nodeC] <;> with_reducible rfl) rfl (by simp [go_sem, List.take_of_length_le, nodeC]) ?_ | refine Gd.cc (cl) rfl rfl rfl rfl (by simp [go_sem, List.take_of_length_le, nodeC] <;> with_reducible rfl) rfl (by simp [go_sem, List.take_of_length_le, nodeC]) ?_ | refine Gx.cc (cl) rfl rfl rfl rfl rfl (by simp [go_sem, List.take_of_length_le, nodeC] <;> with_reducible rfl) rfl (by simp [go_sem, List.take_of_length_le, nodeC]) ?_
    cases hless : lessI x y with
    | true =>
      rw [hless, if_pos rfl] at hc
      repeat' first | (refine Holds.condT ?_ ?_; (· (simp [go_sem, List.take_of_length_le, hq1, hq2, hq3, hqq] <;> with_reducible rfl))) | (refine Holds.condF ?_ ?_; (· (simp [go_sem, List.take_of_length_le, hq1, hq2, hq3, hqq] <;> with_reducible rfl))) | refine Holds.seq ?_ | refine Holds.skip ?_ | refine Holds.exit ?_ | refine Holds.ret ?_ | refine thenA_normal ?_ | refine thenA_exit ?_ | refine thenA_ret ?_ | refine inB_normal ?_ | refine inB_ret ?_ | refine inB_here ?_ | (refine inB_past ?_ ?_; (· exact rfl)) | refine Holds.reg ?_ | refine Holds.block ?_ | refine GS.nil ?_ | refine Gd.nil ?_ | (refine GS.step (s' := ?_) ?_ ?_ ?_; rotate_left; (· exact rfl); (· (simp [go_sem, List.take_of_length_le, hq1, hq2, hq3, hqq] <;> with_reducible rfl))) | (refine GS.skip ?_ ?_ ?_; (· exact rfl); (· exact rfl)) | (refine Gd.go (s' := ?_) ?_ ?_ ?_; rotate_left; (· exact rfl); (· (simp [go_sem, List.take_of_length_le, hq1, hq2, hq3, hqq] <;> with_reducible rfl))) | (refine Gd.skip ?_ ?_ ?_; (· exact rfl); (· exact rfl)) | refine Gx.nil ?_ | (refine Gx.go (s' := ?_) rfl ?_ ?_ ?_; rotate_left; (· exact rfl); (· (simp [go_sem, List.take_of_length_le, hq1, hq2, hq3, hqq] <;> with_reducible rfl))) | (refine Gx.skip rfl ?_ ?_ ?_; (· exact rfl); (· exact rfl)) | (refine Gx.skipO rfl ?_ ?_ ?_; (· exact rfl); (· exact rfl)) | (refine Gx.wo (s' := ?_) rfl ?_ ?_ ?_; rotate_left; (· exact rfl); (· (simp [go_sem, List.take_of_length_le, hq1, hq2, hq3, hqq] <;> with_reducible rfl))) | (refine Gx.skipW rfl ?_ ?_ ?_; (· exact rfl); (· exact rfl)) | (refine Gx.skipH rfl ?_ ?_ ?_; (· exact rfl); (· exact rfl)) | (refine Gx.hid (r := ?_) rfl ?_ ?_ ?_ ?_; rotate_left; (· exact rfl); (· exact rfl); (· (simp [go_sem, List.take_of_length_le, hq1, hq2, hq3, hqq] <;> with_reducible rfl))) | (refine Gx.wr (s' := ?_) rfl ?_ ?_ ?_ ?_; rotate_left; (· exact rfl); (· (simp [go_sem, List.take_of_length_le, hq1, hq2, hq3, hqq] <;> with_reducible rfl)); (· (simp [go_sem, List.take_of_length_le, hq1, hq2, hq3, hqq]))) | fail
      refine ⟨q, ⟨by omega, hc⟩, by omega, ?_⟩
      exact Cov.ofn (id) rfl (by simp [go_sem, List.take_of_length_le, ren, ren1, ren2, okr, okr1, okr2, ChkT, ChkN, BlkN, nf, nodeC]) (by simp [go_sem, List.take_of_length_le, ren, ren1, ren2, okr, okr1, okr2, ChkT, ChkN, BlkN, nf, nodeC])
    | false =>
      have e := exitC (.inr ⟨by omega, hless⟩)
      have hmet : metI S x = decide (y = x) := by
        unfold metI
        rw [e, Nat.add_sub_cancel, hgd, decide_eq_true (show 0 < q + 1 by omega), Bool.true_and]
      by_cases hyx : y = x
      · have hme : metI S x = true := by rw [hmet]; exact decide_eq_true hyx
        have hp : putI S x = S := by unfold putI; rw [if_pos hme]
        rw [hme, hp]
        repeat' first | (refine Holds.condT ?_ ?_; (· (simp [go_sem, List.take_of_length_le] <;> with_reducible rfl))) | (refine Holds.condF ?_ ?_; (· (simp [go_sem, List.take_of_length_le] <;> with_reducible rfl))) | refine Holds.seq ?_ | refine Holds.skip ?_ | refine Holds.exit ?_ | refine Holds.ret ?_ | refine thenA_normal ?_ | refine thenA_exit ?_ | refine thenA_ret ?_ | refine inB_normal ?_ | refine inB_ret ?_ | refine inB_here ?_ | (refine inB_past ?_ ?_; (· exact rfl)) | refine Holds.reg ?_ | refine Holds.block ?_ | refine GS.nil ?_ | refine Gd.nil ?_ | (refine GS.step (s' := ?_) ?_ ?_ ?_; rotate_left; (· exact rfl); (· (simp [go_sem, List.take_of_length_le] <;> with_reducible rfl))) | (refine GS.skip ?_ ?_ ?_; (· exact rfl); (· exact rfl)) | (refine Gd.go (s' := ?_) ?_ ?_ ?_; rotate_left; (· exact rfl); (· (simp [go_sem, List.take_of_length_le] <;> with_reducible rfl))) | (refine Gd.skip ?_ ?_ ?_; (· exact rfl); (· exact rfl)) | refine Gx.nil ?_ | (refine Gx.go (s' := ?_) rfl ?_ ?_ ?_; rotate_left; (· exact rfl); (· (simp [go_sem, List.take_of_length_le] <;> with_reducible rfl))) | (refine Gx.skip rfl ?_ ?_ ?_; (· exact rfl); (· exact rfl)) | (refine Gx.skipO rfl ?_ ?_ ?_; (· exact rfl); (· exact rfl)) | (refine Gx.wo (s' := ?_) rfl ?_ ?_ ?_; rotate_left; (· exact rfl); (· (simp [go_sem, List.take_of_length_le] <;> with_reducible rfl))) | (refine Gx.skipW rfl ?_ ?_ ?_; (· exact rfl); (· exact rfl)) | (refine Gx.skipH rfl ?_ ?_ ?_; (· exact rfl); (· exact rfl)) | (refine Gx.hid (r := ?_) rfl ?_ ?_ ?_ ?_; rotate_left; (· exact rfl); (· exact rfl); (· (simp [go_sem, List.take_of_length_le] <;> with_reducible rfl))) | (refine Gx.wr (s' := ?_) rfl ?_ ?_ ?_ ?_; rotate_left; (· exact rfl); (· (simp [go_sem, List.take_of_length_le] <;> with_reducible rfl)); (· (simp [go_sem, List.take_of_length_le]))) | fail
        (refine Holds.any mixed ?_ ?_; (· kernel_rfl))
        repeat' first | (refine Holds.condT ?_ ?_; (· (simp [go_sem, List.take_of_length_le, hq0, hq1, hq2, hq3, hql, get_E hxq, hxq, nodeC, hqq] <;> with_reducible rfl))) | (refine Holds.condF ?_ ?_; (· (simp [go_sem, List.take_of_length_le, hq0, hq1, hq2, hq3, hql, get_E hxq, hxq, nodeC, hqq] <;> with_reducible rfl))) | refine Holds.seq ?_ | refine Holds.skip ?_ | refine Holds.exit ?_ | refine Holds.ret ?_ | refine thenA_normal ?_ | refine thenA_exit ?_ | refine thenA_ret ?_ | refine inB_normal ?_ | refine inB_ret ?_ | refine inB_here ?_ | (refine inB_past ?_ ?_; (· exact rfl)) | refine Holds.reg ?_ | refine Holds.block ?_ | refine GS.nil ?_ | refine Gd.nil ?_ | (refine GS.step (s' := ?_) ?_ ?_ ?_; rotate_left; (· exact rfl); (· (simp [go_sem, List.take_of_length_le, hq0, hq1, hq2, hq3, hql, get_E hxq, hxq, nodeC, hqq] <;> with_reducible rfl))) | (refine GS.skip ?_ ?_ ?_; (· exact rfl); (· exact rfl)) | (refine Gd.go (s' := ?_) ?_ ?_ ?_; rotate_left; (· exact rfl); (· (simp [go_sem, List.take_of_length_le, hq0, hq1, hq2, hq3, hql, get_E hxq, hxq, nodeC, hqq] <;> with_reducible rfl))) | (refine Gd.skip ?_ ?_ ?_; (· exact rfl); (· exact rfl)) | refine Gx.nil ?_ | (refine Gx.go (s' := ?_) rfl ?_ ?_ ?_; rotate_left; (· exact rfl); (· (simp [go_sem, List.take_of_length_le, hq0, hq1, hq2, hq3, hql, get_E hxq, hxq, nodeC, hqq] <;> with_reducible rfl))) | (refine Gx.skip rfl ?_ ?_ ?_; (· exact rfl); (· exact rfl)) | (refine Gx.skipO rfl ?_ ?_ ?_; (· exact rfl); (· exact rfl)) | (refine Gx.wo (s' := ?_) rfl ?_ ?_ ?_; rotate_left; (· exact rfl); (· (simp [go_sem, List.take_of_length_le, hq0, hq1, hq2, hq3, hql, get_E hxq, hxq, nodeC, hqq] <;> with_reducible rfl))) | (refine Gx.skipW rfl ?_ ?_ ?_; (· exact rfl); (· exact rfl)) | (refine Gx.skipH rfl ?_ ?_ ?_; (· exact rfl); (· exact rfl)) | (refine Gx.hid (r := ?_) rfl ?_ ?_ ?_ ?_; rotate_left; (· exact rfl); (· exact rfl); (· (simp [go_sem, List.take_of_length_le, hq0, hq1, hq2, hq3, hql, get_E hxq, hxq, nodeC, hqq] <;> with_reducible rfl))) | (refine Gx.wr (s' := ?_) rfl ?_ ?_ ?_ ?_; rotate_left; (· exact rfl); (· (simp [go_sem, List.take_of_length_le, hq0, hq1, hq2, hq3, hql, get_E hxq, hxq, nodeC, hqq] <;> with_reducible rfl)); (· (simp [go_sem, List.take_of_length_le, hq0, hq1, hq2, hq3, hql, get_E hxq, hxq, nodeC, hqq]))) | fail
        refine Gd.calm rfl rfl (.eqS (n := 3) (xs := [y.1, y.2.1, y.2.2]) (ys := [x.1, x.2.1, x.2.2]) rfl eqItem3 rfl rfl rfl rfl rfl) ?_
        rw [show decide ([y.1, y.2.1, y.2.2] = [x.1, x.2.1, x.2.2]) = true by rw [hyx]; simp]
        repeat' first | (refine Holds.condT ?_ ?_; (· (simp [go_sem, List.take_of_length_le] <;> with_reducible rfl))) | (refine Holds.condF ?_ ?_; (· (simp [go_sem, List.take_of_length_le] <;> with_reducible rfl))) | refine Holds.seq ?_ | refine Holds.skip ?_ | refine Holds.exit ?_ | refine Holds.ret ?_ | refine thenA_normal ?_ | refine thenA_exit ?_ | refine thenA_ret ?_ | refine inB_normal ?_ | refine inB_ret ?_ | refine inB_here ?_ | (refine inB_past ?_ ?_; (· exact rfl)) | refine Holds.reg ?_ | refine Holds.block ?_ | refine GS.nil ?_ | refine Gd.nil ?_ | (refine GS.step (s' := ?_) ?_ ?_ ?_; rotate_left; (· exact rfl); (· (simp [go_sem, List.take_of_length_le] <;> with_reducible rfl))) | (refine GS.skip ?_ ?_ ?_; (· exact rfl); (· exact rfl)) | (refine Gd.go (s' := ?_) ?_ ?_ ?_; rotate_left; (· exact rfl); (· (simp [go_sem, List.take_of_length_le] <;> with_reducible rfl))) | (refine Gd.skip ?_ ?_ ?_; (· exact rfl); (· exact rfl)) | refine Gx.nil ?_ | (refine Gx.go (s' := ?_) rfl ?_ ?_ ?_; rotate_left; (· exact rfl); (· (simp [go_sem, List.take_of_length_le] <;> with_reducible rfl))) | (refine Gx.skip rfl ?_ ?_ ?_; (· exact rfl); (· exact rfl)) | (refine Gx.skipO rfl ?_ ?_ ?_; (· exact rfl); (· exact rfl)) | (refine Gx.wo (s' := ?_) rfl ?_ ?_ ?_; rotate_left; (· exact rfl); (· (simp [go_sem, List.take_of_length_le] <;> with_reducible rfl))) | (refine Gx.skipW rfl ?_ ?_ ?_; (· exact rfl); (· exact rfl)) | (refine Gx.skipH rfl ?_ ?_ ?_; (· exact rfl); (· exact rfl)) | (refine Gx.hid (r := ?_) rfl ?_ ?_ ?_ ?_; rotate_left; (· exact rfl); (· exact rfl); (· (simp [go_sem, List.take_of_length_le] <;> with_reducible rfl))) | (refine Gx.wr (s' := ?_) rfl ?_ ?_ ?_ ?_; rotate_left; (· exact rfl); (· (simp [go_sem, List.take_of_length_le] <;> with_reducible rfl)); (· (simp [go_sem, List.take_of_length_le]))) | fail
        refine Out.mk (xs := ?_) ?_ ?_ (by first | exact .inr rfl | exact .inl rfl)
        rotate_left
        · simp [go_sem, List.take_of_length_le] <;> with_reducible rfl
        exact Fz.tuL (.cons (.im _ _) (.cons (.v _) .nil))
      · have hme : metI S x = false := by rw [hmet]; exact decide_eq_false hyx
        have hp : putI S x = S.take (q + 1) ++ [x] ++ S.drop (q + 1) := by unfold putI; rw [if_neg (by rw [hme]; simp), e]
        rw [hme, hp]
        have hne : decide ([y.1, y.2.1, y.2.2] = [x.1, x.2.1, x.2.2]) = false := by
          refine decide_eq_false fun h => hyx ?_
          exact node_ext h
        have htl : (S.take (q + 1)).length = q + 1 := by rw [List.length_take]; omega
        have hdl : (S.drop (q + 1)).length = S.length - (q + 1) := List.length_drop
        have hmin : min (q + 1) S.length = q + 1 := by omega
        have hb1 := hb0 (S.length - (q + 1)) (by omega)
        have hb2 := hb0 (q + 1) (by omega)
        have hb3 := hb0 (q + 1 + 1) (by omega)
        have hb4 := hb0 (q + 1 + 1 + (S.length - (q + 1))) (by omega)
        have hqS : (q : Int) + 1 ≤ S.length := by omega
        have hq01 : (0 : Int) ≤ (q : Int) + 1 := by omega
        have hqT : ((q : Int) + 1).toNat = q + 1 := by omega
        repeat' first | (refine Holds.condT ?_ ?_; (· (simp [go_sem, List.take_of_length_le] <;> with_reducible rfl))) | (refine Holds.condF ?_ ?_; (· (simp [go_sem, List.take_of_length_le] <;> with_reducible rfl))) | refine Holds.seq ?_ | refine Holds.skip ?_ | refine Holds.exit ?_ | refine Holds.ret ?_ | refine thenA_normal ?_ | refine thenA_exit ?_ | refine thenA_ret ?_ | refine inB_normal ?_ | refine inB_ret ?_ | refine inB_here ?_ | (refine inB_past ?_ ?_; (· exact rfl)) | refine Holds.reg ?_ | refine Holds.block ?_ | refine GS.nil ?_ | refine Gd.nil ?_ | (refine GS.step (s' := ?_) ?_ ?_ ?_; rotate_left; (· exact rfl); (· (simp [go_sem, List.take_of_length_le] <;> with_reducible rfl))) | (refine GS.skip ?_ ?_ ?_; (· exact rfl); (· exact rfl)) | (refine Gd.go (s' := ?_) ?_ ?_ ?_; rotate_left; (· exact rfl); (· (simp [go_sem, List.take_of_length_le] <;> with_reducible rfl))) | (refine Gd.skip ?_ ?_ ?_; (· exact rfl); (· exact rfl)) | refine Gx.nil ?_ | (refine Gx.go (s' := ?_) rfl ?_ ?_ ?_; rotate_left; (· exact rfl); (· (simp [go_sem, List.take_of_length_le] <;> with_reducible rfl))) | (refine Gx.skip rfl ?_ ?_ ?_; (· exact rfl); (· exact rfl)) | (refine Gx.skipO rfl ?_ ?_ ?_; (· exact rfl); (· exact rfl)) | (refine Gx.wo (s' := ?_) rfl ?_ ?_ ?_; rotate_left; (· exact rfl); (· (simp [go_sem, List.take_of_length_le] <;> with_reducible rfl))) | (refine Gx.skipW rfl ?_ ?_ ?_; (· exact rfl); (· exact rfl)) | (refine Gx.skipH rfl ?_ ?_ ?_; (· exact rfl); (· exact rfl)) | (refine Gx.hid (r := ?_) rfl ?_ ?_ ?_ ?_; rotate_left; (· exact rfl); (· exact rfl); (· (simp [go_sem, List.take_of_length_le] <;> with_reducible rfl))) | (refine Gx.wr (s' := ?_) rfl ?_ ?_ ?_ ?_; rotate_left; (· exact rfl); (· (simp [go_sem, List.take_of_length_le] <;> with_reducible rfl)); (· (simp [go_sem, List.take_of_length_le]))) | fail
        (refine Holds.any mixed ?_ ?_; (· kernel_rfl))
        repeat' first | (refine Holds.condT ?_ ?_; (· (simp [go_sem, List.take_of_length_le, hq0, hq1, hq2, hq3, hql, get_E hxq, hxq, nodeC, hqq] <;> with_reducible rfl))) | (refine Holds.condF ?_ ?_; (· (simp [go_sem, List.take_of_length_le, hq0, hq1, hq2, hq3, hql, get_E hxq, hxq, nodeC, hqq] <;> with_reducible rfl))) | refine Holds.seq ?_ | refine Holds.skip ?_ | refine Holds.exit ?_ | refine Holds.ret ?_ | refine thenA_normal ?_ | refine thenA_exit ?_ | refine thenA_ret ?_ | refine inB_normal ?_ | refine inB_ret ?_ | refine inB_here ?_ | (refine inB_past ?_ ?_; (· exact rfl)) | refine Holds.reg ?_ | refine Holds.block ?_ | refine GS.nil ?_ | refine Gd.nil ?_ | (refine GS.step (s' := ?_) ?_ ?_ ?_; rotate_left; (· exact rfl); (· (simp [go_sem, List.take_of_length_le, hq0, hq1, hq2, hq3, hql, get_E hxq, hxq, nodeC, hqq] <;> with_reducible rfl))) | (refine GS.skip ?_ ?_ ?_; (· exact rfl); (· exact rfl)) | (refine Gd.go (s' := ?_) ?_ ?_ ?_; rotate_left; (· exact rfl); (· (simp [go_sem, List.take_of_length_le, hq0, hq1, hq2, hq3, hql, get_E hxq, hxq, nodeC, hqq] <;> with_reducible rfl))) | (refine Gd.skip ?_ ?_ ?_; (· exact rfl); (· exact rfl)) | refine Gx.nil ?_ | (refine Gx.go (s' := ?_) rfl ?_ ?_ ?_; rotate_left; (· exact rfl); (· (simp [go_sem, List.take_of_length_le, hq0, hq1, hq2, hq3, hql, get_E hxq, hxq, nodeC, hqq] <;> with_reducible rfl))) | (refine Gx.skip rfl ?_ ?_ ?_; (· exact rfl); (· exact rfl)) | (refine Gx.skipO rfl ?_ ?_ ?_; (· exact rfl); (· exact rfl)) | (refine Gx.wo (s' := ?_) rfl ?_ ?_ ?_; rotate_left; (· exact rfl); (· (simp [go_sem, List.take_of_length_le, hq0, hq1, hq2, hq3, hql, get_E hxq, hxq, nodeC, hqq] <;> with_reducible rfl))) | (refine Gx.skipW rfl ?_ ?_ ?_; (· exact rfl); (· exact rfl)) | (refine Gx.skipH rfl ?_ ?_ ?_; (· exact rfl); (· exact rfl)) | (refine Gx.hid (r := ?_) rfl ?_ ?_ ?_ ?_; rotate_left; (· exact rfl); (· exact rfl); (· (simp [go_sem, List.take_of_length_le, hq0, hq1, hq2, hq3, hql, get_E hxq, hxq, nodeC, hqq] <;> with_reducible rfl))) | (refine Gx.wr (s' := ?_) rfl ?_ ?_ ?_ ?_; rotate_left; (· exact rfl); (· (simp [go_sem, List.take_of_length_le, hq0, hq1, hq2, hq3, hql, get_E hxq, hxq, nodeC, hqq] <;> with_reducible rfl)); (· (simp [go_sem, List.take_of_length_le, hq0, hq1, hq2, hq3, hql, get_E hxq, hxq, nodeC, hqq]))) | fail
        refine Gd.calm rfl rfl (.eqS (n := 3) (xs := [y.1, y.2.1, y.2.2]) (ys := [x.1, x.2.1, x.2.2]) rfl eqItem3 rfl rfl rfl rfl rfl) ?_
        rw [hne]
        repeat' first | (refine Holds.condT ?_ ?_; (· (simp [go_sem, List.take_of_length_le, hk, hqq, hqS, hqT, hq01, hdl, hb1, hmin, nodes_drop, nodes_take, nodes_all, nodeC] <;> with_reducible rfl))) | (refine Holds.condF ?_ ?_; (· (simp [go_sem, List.take_of_length_le, hk, hqq, hqS, hqT, hq01, hdl, hb1, hmin, nodes_drop, nodes_take, nodes_all, nodeC] <;> with_reducible rfl))) | refine Holds.seq ?_ | refine Holds.skip ?_ | refine Holds.exit ?_ | refine Holds.ret ?_ | refine thenA_normal ?_ | refine thenA_exit ?_ | refine thenA_ret ?_ | refine inB_normal ?_ | refine inB_ret ?_ | refine inB_here ?_ | (refine inB_past ?_ ?_; (· exact rfl)) | refine Holds.reg ?_ | refine Holds.block ?_ | refine GS.nil ?_ | refine Gd.nil ?_ | (refine GS.step (s' := ?_) ?_ ?_ ?_; rotate_left; (· exact rfl); (· (simp [go_sem, List.take_of_length_le, hk, hqq, hqS, hqT, hq01, hdl, hb1, hmin, nodes_drop, nodes_take, nodes_all, nodeC] <;> with_reducible rfl))) | (refine GS.skip ?_ ?_ ?_; (· exact rfl); (· exact rfl)) | (refine Gd.go (s' := ?_) ?_ ?_ ?_; rotate_left; (· exact rfl); (· (simp [go_sem, List.take_of_length_le, hk, hqq, hqS, hqT, hq01, hdl, hb1, hmin, nodes_drop, nodes_take, nodes_all, nodeC] <;> with_reducible rfl))) | (refine Gd.skip ?_ ?_ ?_; (· exact rfl); (· exact rfl)) | refine Gx.nil ?_ | (refine Gx.go (s' := ?_) rfl ?_ ?_ ?_; rotate_left; (· exact rfl); (· (simp [go_sem, List.take_of_length_le, hk, hqq, hqS, hqT, hq01, hdl, hb1, hmin, nodes_drop, nodes_take, nodes_all, nodeC] <;> with_reducible rfl))) | (refine Gx.skip rfl ?_ ?_ ?_; (· exact rfl); (· exact rfl)) | (refine Gx.skipO rfl ?_ ?_ ?_; (· exact rfl); (· exact rfl)) | (refine Gx.wo (s' := ?_) rfl ?_ ?_ ?_; rotate_left; (· exact rfl); (· (simp [go_sem, List.take_of_length_le, hk, hqq, hqS, hqT, hq01, hdl, hb1, hmin, nodes_drop, nodes_take, nodes_all, nodeC] <;> with_reducible rfl))) | (refine Gx.skipW rfl ?_ ?_ ?_; (· exact rfl); (· exact rfl)) | (refine Gx.skipH rfl ?_ ?_ ?_; (· exact rfl); (· exact rfl)) | (refine Gx.hid (r := ?_) rfl ?_ ?_ ?_ ?_; rotate_left; (· exact rfl); (· exact rfl); (· (simp [go_sem, List.take_of_length_le, hk, hqq, hqS, hqT, hq01, hdl, hb1, hmin, nodes_drop, nodes_take, nodes_all, nodeC] <;> with_reducible rfl))) | (refine Gx.wr (s' := ?_) rfl ?_ ?_ ?_ ?_; rotate_left; (· exact rfl); (· (simp [go_sem, List.take_of_length_le, hk, hqq, hqS, hqT, hq01, hdl, hb1, hmin, nodes_drop, nodes_take, nodes_all, nodeC] <;> with_reducible rfl)); (· (simp [go_sem, List.take_of_length_le, hk, hqq, hqS, hqT, hq01, hdl, hb1, hmin, nodes_drop, nodes_take, nodes_all, nodeC]))) | fail
        refine Holds.anx [0, 4, 1007] [1, 2, 3, 5, 2006] (fun n => decide (3 ≤ n)) mixed ?_ ?_ ?_; (· kernel_rfl); (· kernel_rfl)
        repeat' first | (refine Holds.condT ?_ ?_; (· (simp [go_sem, List.take_of_length_le, hk, hqq, hqS, hqT, hq01, htl, hb2, hb3, hmin, nodes_drop, nodes_take, nodes_all, nodeC] <;> with_reducible rfl))) | (refine Holds.condF ?_ ?_; (· (simp [go_sem, List.take_of_length_le, hk, hqq, hqS, hqT, hq01, htl, hb2, hb3, hmin, nodes_drop, nodes_take, nodes_all, nodeC] <;> with_reducible rfl))) | refine Holds.seq ?_ | refine Holds.skip ?_ | refine Holds.exit ?_ | refine Holds.ret ?_ | refine thenA_normal ?_ | refine thenA_exit ?_ | refine thenA_ret ?_ | refine inB_normal ?_ | refine inB_ret ?_ | refine inB_here ?_ | (refine inB_past ?_ ?_; (· exact rfl)) | refine Holds.reg ?_ | refine Holds.block ?_ | refine GS.nil ?_ | refine Gd.nil ?_ | (refine GS.step (s' := ?_) ?_ ?_ ?_; rotate_left; (· exact rfl); (· (simp [go_sem, List.take_of_length_le, hk, hqq, hqS, hqT, hq01, htl, hb2, hb3, hmin, nodes_drop, nodes_take, nodes_all, nodeC] <;> with_reducible rfl))) | (refine GS.skip ?_ ?_ ?_; (· exact rfl); (· exact rfl)) | (refine Gd.go (s' := ?_) ?_ ?_ ?_; rotate_left; (· exact rfl); (· (simp [go_sem, List.take_of_length_le, hk, hqq, hqS, hqT, hq01, htl, hb2, hb3, hmin, nodes_drop, nodes_take, nodes_all, nodeC] <;> with_reducible rfl))) | (refine Gd.skip ?_ ?_ ?_; (· exact rfl); (· exact rfl)) | refine Gx.nil ?_ | (refine Gx.go (s' := ?_) rfl ?_ ?_ ?_; rotate_left; (· exact rfl); (· (simp [go_sem, List.take_of_length_le, hk, hqq, hqS, hqT, hq01, htl, hb2, hb3, hmin, nodes_drop, nodes_take, nodes_all, nodeC] <;> with_reducible rfl))) | (refine Gx.skip rfl ?_ ?_ ?_; (· exact rfl); (· exact rfl)) | (refine Gx.skipO rfl ?_ ?_ ?_; (· exact rfl); (· exact rfl)) | (refine Gx.wo (s' := ?_) rfl ?_ ?_ ?_; rotate_left; (· exact rfl); (· (simp [go_sem, List.take_of_length_le, hk, hqq, hqS, hqT, hq01, htl, hb2, hb3, hmin, nodes_drop, nodes_take, nodes_all, nodeC] <;> with_reducible rfl))) | (refine Gx.skipW rfl ?_ ?_ ?_; (· exact rfl); (· exact rfl)) | (refine Gx.skipH rfl ?_ ?_ ?_; (· exact rfl); (· exact rfl)) | (refine Gx.hid (r := ?_) rfl ?_ ?_ ?_ ?_; rotate_left; (· exact rfl); (· exact rfl); (· (simp [go_sem, List.take_of_length_le, hk, hqq, hqS, hqT, hq01, htl, hb2, hb3, hmin, nodes_drop, nodes_take, nodes_all, nodeC] <;> with_reducible rfl))) | (refine Gx.wr (s' := ?_) rfl ?_ ?_ ?_ ?_; rotate_left; (· exact rfl); (· (simp [go_sem, List.take_of_length_le, hk, hqq, hqS, hqT, hq01, htl, hb2, hb3, hmin, nodes_drop, nodes_take, nodes_all, nodeC] <;> with_reducible rfl)); (· (simp [go_sem, List.take_of_length_le, hk, hqq, hqS, hqT, hq01, htl, hb2, hb3, hmin, nodes_drop, nodes_take, nodes_all, nodeC]))) | fail
        refine Gx.bs (sz := 3) (e := 56) (rows := [nodeC x]) [(46, .ag (nodeC x))] rfl rfl rfl rfl rfl (by simp [go_sem, List.take_of_length_le, Op.operands, cl, cl1, nodeC]) (by simp [go_sem, List.take_of_length_le, Op.operands, cl, cl1, nodeC]) (by simp [go_sem, List.take_of_length_le, Op.operands, cl, cl1, nodeC]) ?_
        repeat' first | (refine Holds.condT ?_ ?_; (· (simp [go_sem, List.take_of_length_le, nodeC, hb2, hb3, hb4, hmin, hdl, nodes_all, nodes_take, nodes_drop] <;> with_reducible rfl))) | (refine Holds.condF ?_ ?_; (· (simp [go_sem, List.take_of_length_le, nodeC, hb2, hb3, hb4, hmin, hdl, nodes_all, nodes_take, nodes_drop] <;> with_reducible rfl))) | refine Holds.seq ?_ | refine Holds.skip ?_ | refine Holds.exit ?_ | refine Holds.ret ?_ | refine thenA_normal ?_ | refine thenA_exit ?_ | refine thenA_ret ?_ | refine inB_normal ?_ | refine inB_ret ?_ | refine inB_here ?_ | (refine inB_past ?_ ?_; (· exact rfl)) | refine Holds.reg ?_ | refine Holds.block ?_ | refine GS.nil ?_ | refine Gd.nil ?_ | (refine GS.step (s' := ?_) ?_ ?_ ?_; rotate_left; (· exact rfl); (· (simp [go_sem, List.take_of_length_le, nodeC, hb2, hb3, hb4, hmin, hdl, nodes_all, nodes_take, nodes_drop] <;> with_reducible rfl))) | (refine GS.skip ?_ ?_ ?_; (· exact rfl); (· exact rfl)) | (refine Gd.go (s' := ?_) ?_ ?_ ?_; rotate_left; (· exact rfl); (· (simp [go_sem, List.take_of_length_le, nodeC, hb2, hb3, hb4, hmin, hdl, nodes_all, nodes_take, nodes_drop] <;> with_reducible rfl))) | (refine Gd.skip ?_ ?_ ?_; (· exact rfl); (· exact rfl)) | refine Gx.nil ?_ | (refine Gx.go (s' := ?_) rfl ?_ ?_ ?_; rotate_left; (· exact rfl); (· (simp [go_sem, List.take_of_length_le, nodeC, hb2, hb3, hb4, hmin, hdl, nodes_all, nodes_take, nodes_drop] <;> with_reducible rfl))) | (refine Gx.skip rfl ?_ ?_ ?_; (· exact rfl); (· exact rfl)) | (refine Gx.skipO rfl ?_ ?_ ?_; (· exact rfl); (· exact rfl)) | (refine Gx.wo (s' := ?_) rfl ?_ ?_ ?_; rotate_left; (· exact rfl); (· (simp [go_sem, List.take_of_length_le, nodeC, hb2, hb3, hb4, hmin, hdl, nodes_all, nodes_take, nodes_drop] <;> with_reducible rfl))) | (refine Gx.skipW rfl ?_ ?_ ?_; (· exact rfl); (· exact rfl)) | (refine Gx.skipH rfl ?_ ?_ ?_; (· exact rfl); (· exact rfl)) | (refine Gx.hid (r := ?_) rfl ?_ ?_ ?_ ?_; rotate_left; (· exact rfl); (· exact rfl); (· (simp [go_sem, List.take_of_length_le, nodeC, hb2, hb3, hb4, hmin, hdl, nodes_all, nodes_take, nodes_drop] <;> with_reducible rfl))) | (refine Gx.wr (s' := ?_) rfl ?_ ?_ ?_ ?_; rotate_left; (· exact rfl); (· (simp [go_sem, List.take_of_length_le, nodeC, hb2, hb3, hb4, hmin, hdl, nodes_all, nodes_take, nodes_drop] <;> with_reducible rfl)); (· (simp [go_sem, List.take_of_length_le, nodeC, hb2, hb3, hb4, hmin, hdl, nodes_all, nodes_take, nodes_drop]))) | fail
        refine Out.mk (xs := ?_) ?_ ?_ (by first | exact .inr rfl | exact .inl rfl)
        rotate_left
        · simp [go_sem, List.take_of_length_le] <;> with_reducible rfl
        exact Fz.tuL (.cons (Fz.all rfl rfl (by simp; omega) (by simp [nodes, nodeC]) (nodes_ok _)) (.cons (.v _) .nil))
end Go.Proofs.Ytabdnpgahdbciaa.En
end
section
namespace Go.Proofs.Ytabdnpgahdbciaa.En
open Go.RowKit
set_option linter.unusedSimpArgs false
set_option linter.unusedVariables false
set_option maxHeartbeats 8000000
def itemssC (s : List Item3) : List AV := [.im 3 (nodes s)]
def itemss (sets : Sets3) : List (List AV) := sets.map itemssC
@[simp] theorem itemss_len (xs : Sets3) : (itemss xs).length = xs.length := by simp [itemss]
@[simp] theorem itemss_get (xs : Sets3) (i : Nat) : (itemss xs)[i]? = (xs[i]?).map itemssC := by simp [itemss]
@[simp] theorem itemss_gE (xs : Sets3) (i : Nat) (h : i < (itemss xs).length) : (itemss xs)[i] = itemssC (xs[i]'(by simpa using h)) := by simp [itemss]
theorem itemss_set (xs : Sets3) (i : Nat) (s : List Item3) : (itemss xs).set i [.im 3 (nodes s)] = itemss (xs.set i s) := by simp [itemss, itemssC, List.map_set]
theorem itemss_ok (xs : Sets3) : rowsOk (itemss xs) := by
  intro row hr x hx
  simp only [itemss, List.mem_map] at hr
  obtain ⟨s, _, rfl⟩ := hr
  simp only [itemssC, List.mem_singleton] at hx
  subst hx; rfl
@[simp] theorem nfr_itemss (xs : Sets3) : nfr (itemss xs) := nfr_of_ok (itemss_ok xs)
def rulesOf (g : GrammarT) (non : Int) : List Int := idxs (fun r : RuleT => r.1 == non) 0 g.2.2
theorem l1Rules (g : GrammarT) (non : Int) (hg : g.2.2.length ≤ 16) : Pure Try.prog 76 [.ag (grammarC g), .v (.int .i64 non)] (.im 1 (ints (rulesOf g non))) := by
  refine Pure.mk (rs := [.tmp 4]) (nt := 26) Try.func76 (by kernel_rfl) rfl rfl rfl (by simp) ?_
  simp only [sl, grammarC]
  repeat' first | (refine Holds.condT ?_ ?_; (· (simp [go_sem, List.take_of_length_le] <;> with_reducible rfl))) | (refine Holds.condF ?_ ?_; (· (simp [go_sem, List.take_of_length_le] <;> with_reducible rfl))) | refine Holds.seq ?_ | refine Holds.skip ?_ | refine Holds.exit ?_ | refine Holds.ret ?_ | refine thenA_normal ?_ | refine thenA_exit ?_ | refine thenA_ret ?_ | refine inB_normal ?_ | refine inB_ret ?_ | refine inB_here ?_ | (refine inB_past ?_ ?_; (· exact rfl)) | refine Holds.reg ?_ | refine Holds.block ?_ | refine GS.nil ?_ | (refine GS.step (s' := ?_) ?_ ?_ ?_; rotate_left; (· exact rfl); (· (simp [go_sem, List.take_of_length_le] <;> with_reducible rfl))) | (refine GS.skip ?_ ?_ ?_; (· exact rfl); (· exact rfl)) | fail
  refine Holds.niw 5 3 1 rfl ?_
  refine Holds.loop (ι := Nat) (fun i => ⟨[(1, .v (.int .i64 non)), (5, .own 1 1 0 (idxs (fun r : RuleT => r.1 == non) 0 (g.2.2.take i)).length), (9, .im 2 (rules g.2.2)), (10, .v (.int .i64 g.2.2.length)), (11, .v (.int .i64 i))], [(1, ⟨3, 1, ints (idxs (fun r : RuleT => r.1 == non) 0 (g.2.2.take i))⟩), (0, ⟨31, 3, [grammarC g]⟩)], 2⟩)
    (fun i => i ≤ g.2.2.length) (fun i => g.2.2.length - i) 0 (Nat.zero_le _) ?_ ?_
  · exact Cov.ofn (id) rfl (by simp [go_sem, List.take_of_length_le, ren, ren1, ren2, okr, okr1, okr2, ChkT, ChkN, BlkN, nf, niw, grammarC, idxs, show ints [] = [] from rfl]) (by simp [go_sem, List.take_of_length_le, ren, ren1, ren2, okr, okr1, okr2, ChkT, ChkN, BlkN, nf, niw, grammarC, idxs, show ints [] = [] from rfl])
  intro i hi
  have stepi : wr64 ((i : Int) + 1) = ((i + 1 : Nat) : Int) := wr64_id (by omega) (by omega)
  have hil : (idxs (fun r : RuleT => r.1 == non) 0 (g.2.2.take i)).length ≤ 16 := by have := idxs_len (fun r : RuleT => r.1 == non) (g.2.2.take i) 0; rw [List.length_take] at this; omega
  repeat' first | (refine Holds.condT ?_ ?_; (· (simp [go_sem, List.take_of_length_le] <;> with_reducible rfl))) | (refine Holds.condF ?_ ?_; (· (simp [go_sem, List.take_of_length_le] <;> with_reducible rfl))) | refine Holds.seq ?_ | refine Holds.skip ?_ | refine Holds.exit ?_ | refine Holds.ret ?_ | refine thenA_normal ?_ | refine thenA_exit ?_ | refine thenA_ret ?_ | refine inB_normal ?_ | refine inB_ret ?_ | refine inB_here ?_ | (refine inB_past ?_ ?_; (· exact rfl)) | refine Holds.reg ?_ | refine Holds.block ?_ | refine GS.nil ?_ | (refine GS.step (s' := ?_) ?_ ?_ ?_; rotate_left; (· exact rfl); (· (simp [go_sem, List.take_of_length_le] <;> with_reducible rfl))) | (refine GS.skip ?_ ?_ ?_; (· exact rfl); (· exact rfl)) | fail
  refine Holds.cond rfl (fun h => ?_) (fun h => ?_)
  · have hlt : i < g.2.2.length := by simp at h; omega
    have hxi : g.2.2[i]? = some g.2.2[i] := List.getElem?_eq_getElem hlt
    generalize g.2.2[i] = r at hxi
    have hnx := idxs_next (fun r : RuleT => r.1 == non) hxi
    generalize idxs (fun r : RuleT => r.1 == non) 0 (g.2.2.take i) = L at hnx hil ⊢
    have hb : (L.length + 1) * 8 ≤ 140737488355328 := by omega
    cases he : (r.1 == non) with
    | true =>
      rw [he, if_pos rfl] at hnx
      repeat' first | (refine Holds.condT ?_ ?_; (· (simp [go_sem, List.take_of_length_le, get_E hxi, hxi, hlt, ruleC, he, hb] <;> with_reducible rfl))) | (refine Holds.condF ?_ ?_; (· (simp [go_sem, List.take_of_length_le, get_E hxi, hxi, hlt, ruleC, he, hb] <;> with_reducible rfl))) | refine Holds.seq ?_ | refine Holds.skip ?_ | refine Holds.exit ?_ | refine Holds.ret ?_ | refine thenA_normal ?_ | refine thenA_exit ?_ | refine thenA_ret ?_ | refine inB_normal ?_ | refine inB_ret ?_ | refine inB_here ?_ | (refine inB_past ?_ ?_; (· exact rfl)) | refine Holds.reg ?_ | refine Holds.block ?_ | refine GS.nil ?_ | (refine GS.step (s' := ?_) ?_ ?_ ?_; rotate_left; (· exact rfl); (· (simp [go_sem, List.take_of_length_le, get_E hxi, hxi, hlt, ruleC, he, hb] <;> with_reducible rfl))) | (refine GS.skip ?_ ?_ ?_; (· exact rfl); (· exact rfl)) | fail
      refine ⟨i + 1, by omega, by omega, ?_⟩
      rw [stepi, hnx]
      exact Cov.ofn (nm [0, 5]) rfl (by simp [go_sem, List.take_of_length_le, ren, ren1, ren2, okr, okr1, okr2, ChkT, ChkN, BlkN, nf, grammarC, ints_snoc]) (by simp [go_sem, List.take_of_length_le, ren, ren1, ren2, okr, okr1, okr2, ChkT, ChkN, BlkN, nf, grammarC, ints_snoc])
    | false =>
      rw [he, if_neg (by simp)] at hnx
      rw [List.append_nil] at hnx
      repeat' first | (refine Holds.condT ?_ ?_; (· (simp [go_sem, List.take_of_length_le, get_E hxi, hxi, hlt, ruleC, he] <;> with_reducible rfl))) | (refine Holds.condF ?_ ?_; (· (simp [go_sem, List.take_of_length_le, get_E hxi, hxi, hlt, ruleC, he] <;> with_reducible rfl))) | refine Holds.seq ?_ | refine Holds.skip ?_ | refine Holds.exit ?_ | refine Holds.ret ?_ | refine thenA_normal ?_ | refine thenA_exit ?_ | refine thenA_ret ?_ | refine inB_normal ?_ | refine inB_ret ?_ | refine inB_here ?_ | (refine inB_past ?_ ?_; (· exact rfl)) | refine Holds.reg ?_ | refine Holds.block ?_ | refine GS.nil ?_ | (refine GS.step (s' := ?_) ?_ ?_ ?_; rotate_left; (· exact rfl); (· (simp [go_sem, List.take_of_length_le, get_E hxi, hxi, hlt, ruleC, he] <;> with_reducible rfl))) | (refine GS.skip ?_ ?_ ?_; (· exact rfl); (· exact rfl)) | fail
      refine ⟨i + 1, by omega, by omega, ?_⟩
      rw [stepi, hnx]
      exact Cov.ofn (id) rfl (by simp [go_sem, List.take_of_length_le, ren, ren1, ren2, okr, okr1, okr2, ChkT, ChkN, BlkN, nf, grammarC]) (by simp [go_sem, List.take_of_length_le, ren, ren1, ren2, okr, okr1, okr2, ChkT, ChkN, BlkN, nf, grammarC])
  · have hle : i = g.2.2.length := by simp at h; omega
    subst hle
    rw [List.take_length]
    repeat' first | (refine Holds.condT ?_ ?_; (· (simp [go_sem, List.take_of_length_le] <;> with_reducible rfl))) | (refine Holds.condF ?_ ?_; (· (simp [go_sem, List.take_of_length_le] <;> with_reducible rfl))) | refine Holds.seq ?_ | refine Holds.skip ?_ | refine Holds.exit ?_ | refine Holds.ret ?_ | refine thenA_normal ?_ | refine thenA_exit ?_ | refine thenA_ret ?_ | refine inB_normal ?_ | refine inB_ret ?_ | refine inB_here ?_ | (refine inB_past ?_ ?_; (· exact rfl)) | refine Holds.reg ?_ | refine Holds.block ?_ | refine GS.nil ?_ | (refine GS.step (s' := ?_) ?_ ?_ ?_; rotate_left; (· exact rfl); (· (simp [go_sem, List.take_of_length_le] <;> with_reducible rfl))) | (refine GS.skip ?_ ?_ ?_; (· exact rfl); (· exact rfl)) | fail
    refine Out.mk (xs := ?_) ?_ ?_ (by first | exact .inr rfl | exact .inl rfl)
    rotate_left
    · simp [go_sem, List.take_of_length_le] <;> with_reducible rfl
    exact Fz.all rfl rfl (by simp [rulesOf]) rfl (ints_cl _)
def symV (s : Option Int) : Int × Bool := match s with
  | some y => (y, true)
  | none => (0, false)
theorem l13At (g : GrammarT) (r d f : Nat) (hr : r < g.2.2.length) (hd : d ≤ (ruleN g r).2.length) : Pure Try.prog 49 [.ag (grammarC g), .ag (nodeC (itemN r d f))] (.tu [.v (.int .i64 (symV (symAt g (itemN r d f))).1), .v (.bool (symV (symAt g (itemN r d f))).2)]) := by
  rw [symAt_N]
  have hrr := ruleN_at hr
  generalize ruleN g r = R at hd hrr ⊢
  refine Pure.mk (rs := [.tmp 4, .tmp 5]) (nt := 24) Try.func49 (by kernel_rfl) rfl rfl rfl (by simp) ?_
  simp only [sl, grammarC, nodeC, itemN]
  by_cases hl : d = R.2.length
  · have hn : R.2[d]? = none := List.getElem?_eq_none (by omega)
    rw [hn, symV]
    repeat' first | (refine Holds.condT ?_ ?_; (· (simp [go_sem, List.take_of_length_le, get_E hrr, hrr, hr, ruleC, hl] <;> with_reducible rfl))) | (refine Holds.condF ?_ ?_; (· (simp [go_sem, List.take_of_length_le, get_E hrr, hrr, hr, ruleC, hl] <;> with_reducible rfl))) | refine Holds.seq ?_ | refine Holds.skip ?_ | refine Holds.exit ?_ | refine Holds.ret ?_ | refine thenA_normal ?_ | refine thenA_exit ?_ | refine thenA_ret ?_ | refine inB_normal ?_ | refine inB_ret ?_ | refine inB_here ?_ | (refine inB_past ?_ ?_; (· exact rfl)) | refine Holds.reg ?_ | refine Holds.block ?_ | refine GS.nil ?_ | (refine GS.step (s' := ?_) ?_ ?_ ?_; rotate_left; (· exact rfl); (· (simp [go_sem, List.take_of_length_le, get_E hrr, hrr, hr, ruleC, hl] <;> with_reducible rfl))) | (refine GS.skip ?_ ?_ ?_; (· exact rfl); (· exact rfl)) | fail
    refine Out.mk (xs := ?_) ?_ ?_ (by first | exact .inr rfl | exact .inl rfl)
    rotate_left
    · simp [go_sem, List.take_of_length_le] <;> with_reducible rfl
    exact Fz.cl rfl
  · have hdl : d < R.2.length := by omega
    have hx : R.2[d]? = some R.2[d] := List.getElem?_eq_getElem hdl
    generalize R.2[d] = y at hx
    have hl' : ((d : Int) == (R.2.length : Int)) = false := by simp; omega
    have hl2 : ¬ (d : Int) = (R.2.length : Int) := by omega
    rw [hx, symV]
    repeat' first | (refine Holds.condT ?_ ?_; (· (simp [go_sem, List.take_of_length_le, get_E hrr, hrr, hr, ruleC, hl, hl', hl2, hdl, get_E hx, hx] <;> with_reducible rfl))) | (refine Holds.condF ?_ ?_; (· (simp [go_sem, List.take_of_length_le, get_E hrr, hrr, hr, ruleC, hl, hl', hl2, hdl, get_E hx, hx] <;> with_reducible rfl))) | refine Holds.seq ?_ | refine Holds.skip ?_ | refine Holds.exit ?_ | refine Holds.ret ?_ | refine thenA_normal ?_ | refine thenA_exit ?_ | refine thenA_ret ?_ | refine inB_normal ?_ | refine inB_ret ?_ | refine inB_here ?_ | (refine inB_past ?_ ?_; (· exact rfl)) | refine Holds.reg ?_ | refine Holds.block ?_ | refine GS.nil ?_ | (refine GS.step (s' := ?_) ?_ ?_ ?_; rotate_left; (· exact rfl); (· (simp [go_sem, List.take_of_length_le, get_E hrr, hrr, hr, ruleC, hl, hl', hl2, hdl, get_E hx, hx] <;> with_reducible rfl))) | (refine GS.skip ?_ ?_ ?_; (· exact rfl); (· exact rfl)) | fail
    refine Out.mk (xs := ?_) ?_ ?_ (by first | exact .inr rfl | exact .inl rfl)
    rotate_left
    · simp [go_sem, List.take_of_length_le] <;> with_reducible rfl
    exact Fz.cl rfl
def moreL (g : GrammarT) (sets : Sets3) (p : Nat) (x : Item3) : List Item3 := match symAt g x with
  | some y => if 0 ≤ y then (rulesOf g y).map fun r => (r, 0, (p : Int)) else []
  | none => ((at3 sets x.2.2.toNat).filter fun z => decide (symAt g z = some (ruleN g x.1.toNat).1)).map advI
def advL (l : List Item3) : List Item3 := l.map advI
@[simp] theorem advL_len (l : List Item3) : (advL l).length = l.length := by simp [advL]
theorem advL_snoc (l : List Item3) (r d f : Nat) : advL (l ++ [itemN r d f]) = advL l ++ [((r : Int), (d : Int) + 1, (f : Int))] := by simp [advL, advI, itemN]
def wfI (g : GrammarT) (z : Item3) : Prop := ∃ r d f : Nat, z = itemN r d f ∧ r < g.2.2.length ∧ d ≤ (ruleN g r).2.length
theorem rulesOf_len (g : GrammarT) (non : Int) : (rulesOf g non).length ≤ g.2.2.length := idxs_len _ _ _
theorem nodes_snoc1 (l : List Node3) (a b c : Int) : nodes l ++ [[.v (.int .i64 a), .v (.int .i64 b), .v (.int .i64 c)]] = nodes (l ++ [(a, b, c)]) := by simp [nodes, nodeC]
theorem l13More (g : GrammarT) (hg : g.2.2.length ≤ 16) (hg4 : ∀ r, r < g.2.2.length → (ruleN g r).2.length ≤ 4) (sets : Sets3) (p r d f : Nat) (hr : r < g.2.2.length) (hd : d ≤ (ruleN g r).2.length) (hf : f < sets.length) (hfl : (at3 sets f).length ≤ 880) (hw : ∀ z ∈ at3 sets f, wfI g z) : Fn Try.prog 78 0 [.ag (grammarC g), .im 1 (itemss sets), .v (.int .i64 p), .ag (nodeC (itemN r d f))] [] (.own 0 3 0 (moreL g sets p (itemN r d f)).length) 1 [(0, ⟨56, 3, nodes (moreL g sets p (itemN r d f))⟩)] := by
  have ca := l13At g r d f hr hd
  have hm : moreL g sets p (itemN r d f) = match symAt g (itemN r d f) with
    | some y => if 0 ≤ y then (rulesOf g y).map fun r => (r, 0, (p : Int)) else []
    | none => ((at3 sets f).filter fun z => decide (symAt g z = some (ruleN g r).1)).map advI := rfl
  rw [hm]
  generalize hV : (match symAt g (itemN r d f) with
    | some y => if 0 ≤ y then (rulesOf g y).map fun r => (r, 0, (p : Int)) else []
    | none => ((at3 sets f).filter fun z => decide (symAt g z = some (ruleN g r).1)).map advI) = V
  clear hm
  have hrr := ruleN_at hr
  simp only [itemN, nodeC] at ca
  refine Fn.mk (rs := [.tmp 8]) (nt := 84) Try.func78 (by kernel_rfl) rfl rfl rfl (by simp) ?_
  simp only [sl, grammarC, nodeC, itemN]
  repeat' first | (refine Holds.condT ?_ ?_; (· (simp [go_sem, List.take_of_length_le] <;> with_reducible rfl))) | (refine Holds.condF ?_ ?_; (· (simp [go_sem, List.take_of_length_le] <;> with_reducible rfl))) | refine Holds.seq ?_ | refine Holds.skip ?_ | refine Holds.exit ?_ | refine Holds.ret ?_ | refine thenA_normal ?_ | refine thenA_exit ?_ | refine thenA_ret ?_ | refine inB_normal ?_ | refine inB_ret ?_ | refine inB_here ?_ | (refine inB_past ?_ ?_; (· exact rfl)) | refine Holds.reg ?_ | refine Holds.block ?_ | refine GS.nil ?_ | (refine GS.step (s' := ?_) ?_ ?_ ?_; rotate_left; (· exact rfl); (· (simp [go_sem, List.take_of_length_le] <;> with_reducible rfl))) | (refine GS.skip ?_ ?_ ?_; (· exact rfl); (· exact rfl)) | fail
  cases hs : symAt g (itemN r d f) with
  | some y =>
    rw [show symAt g (↑r, ↑d, ↑f) = some y from hs] at ca
    simp only [symV] at ca
    rw [hs] at hV
    dsimp only at hV
    refine GS.cc (ca) rfl rfl rfl rfl (by simp [go_sem, List.take_of_length_le, grammarC] <;> with_reducible rfl) rfl (by simp [go_sem, List.take_of_length_le, grammarC]) ?_
    by_cases hy : 0 ≤ y
    · rw [if_pos hy] at hV
      subst hV
      have cr := l1Rules g y hg
      have hll := rulesOf_len g y
      generalize rulesOf g y = is at cr hll ⊢
      have hyl : (is.map fun r => ((r, 0, (p : Int)) : Item3)).length = is.length := by simp
      have hyg : ∀ (i : Nat) (k : Int), is[i]? = some k → (is.map fun r => ((r, 0, (p : Int)) : Item3))[i]? = some (k, 0, (p : Int)) := fun i k h => by simp [h]
      generalize (is.map fun r => ((r, 0, (p : Int)) : Item3)) = ys at hyl hyg ⊢
      repeat' first | (refine Holds.condT ?_ ?_; (· (simp [go_sem, List.take_of_length_le, hy, grammarC] <;> with_reducible rfl))) | (refine Holds.condF ?_ ?_; (· (simp [go_sem, List.take_of_length_le, hy, grammarC] <;> with_reducible rfl))) | refine Holds.seq ?_ | refine Holds.skip ?_ | refine Holds.exit ?_ | refine Holds.ret ?_ | refine thenA_normal ?_ | refine thenA_exit ?_ | refine thenA_ret ?_ | refine inB_normal ?_ | refine inB_ret ?_ | refine inB_here ?_ | (refine inB_past ?_ ?_; (· exact rfl)) | refine Holds.reg ?_ | refine Holds.block ?_ | refine GS.nil ?_ | (refine GS.step (s' := ?_) ?_ ?_ ?_; rotate_left; (· exact rfl); (· (simp [go_sem, List.take_of_length_le, hy, grammarC] <;> with_reducible rfl))) | (refine GS.skip ?_ ?_ ?_; (· exact rfl); (· exact rfl)) | fail
      refine GS.cc (cr) rfl rfl rfl rfl (by simp [go_sem, List.take_of_length_le, grammarC] <;> with_reducible rfl) rfl (by simp [go_sem, List.take_of_length_le, grammarC]) ?_
      repeat' first | (refine Holds.condT ?_ ?_; (· (simp [go_sem, List.take_of_length_le] <;> with_reducible rfl))) | (refine Holds.condF ?_ ?_; (· (simp [go_sem, List.take_of_length_le] <;> with_reducible rfl))) | refine Holds.seq ?_ | refine Holds.skip ?_ | refine Holds.exit ?_ | refine Holds.ret ?_ | refine thenA_normal ?_ | refine thenA_exit ?_ | refine thenA_ret ?_ | refine inB_normal ?_ | refine inB_ret ?_ | refine inB_here ?_ | (refine inB_past ?_ ?_; (· exact rfl)) | refine Holds.reg ?_ | refine Holds.block ?_ | refine GS.nil ?_ | (refine GS.step (s' := ?_) ?_ ?_ ?_; rotate_left; (· exact rfl); (· (simp [go_sem, List.take_of_length_le] <;> with_reducible rfl))) | (refine GS.skip ?_ ?_ ?_; (· exact rfl); (· exact rfl)) | fail
      refine Holds.niw 9 56 3 rfl ?_
      refine Holds.loop (ι := Nat) (fun i => ⟨[(2, .v (.int .i64 p)), (9, .own 2 3 0 i), (29, .im 1 (ints is)), (30, .v (.int .i64 is.length)), (31, .v (.int .i64 i))], [(2, ⟨56, 3, nodes (ys.take i)⟩), (1, ⟨56, 3, [nodeC (itemN r d f)]⟩), (0, ⟨31, 3, [grammarC g]⟩)], 3⟩)
        (fun i => i ≤ is.length) (fun i => is.length - i) 0 (Nat.zero_le _) ?_ ?_
      · exact Cov.ofn (id) rfl (by simp [go_sem, List.take_of_length_le, ren, ren1, ren2, okr, okr1, okr2, ChkT, ChkN, BlkN, nf, niw, grammarC, nodeC, itemN, show nodes [] = [] from rfl]) (by simp [go_sem, List.take_of_length_le, ren, ren1, ren2, okr, okr1, okr2, ChkT, ChkN, BlkN, nf, niw, grammarC, nodeC, itemN, show nodes [] = [] from rfl])
      intro i hi
      have stepi : wr64 ((i : Int) + 1) = ((i + 1 : Nat) : Int) := wr64_id (by omega) (by omega)
      repeat' first | (refine Holds.condT ?_ ?_; (· (simp [go_sem, List.take_of_length_le] <;> with_reducible rfl))) | (refine Holds.condF ?_ ?_; (· (simp [go_sem, List.take_of_length_le] <;> with_reducible rfl))) | refine Holds.seq ?_ | refine Holds.skip ?_ | refine Holds.exit ?_ | refine Holds.ret ?_ | refine thenA_normal ?_ | refine thenA_exit ?_ | refine thenA_ret ?_ | refine inB_normal ?_ | refine inB_ret ?_ | refine inB_here ?_ | (refine inB_past ?_ ?_; (· exact rfl)) | refine Holds.reg ?_ | refine Holds.block ?_ | refine GS.nil ?_ | (refine GS.step (s' := ?_) ?_ ?_ ?_; rotate_left; (· exact rfl); (· (simp [go_sem, List.take_of_length_le] <;> with_reducible rfl))) | (refine GS.skip ?_ ?_ ?_; (· exact rfl); (· exact rfl)) | fail
      refine Holds.cond rfl (fun h => ?_) (fun h => ?_)
      · have hlt : i < is.length := by simp at h; omega
        have hxi : is[i]? = some is[i] := List.getElem?_eq_getElem hlt
        generalize is[i] = k at hxi
        have hnx : ys.take (i + 1) = ys.take i ++ [(k, 0, (p : Int))] := by rw [List.take_add_one, hyg i k hxi]; rfl
        have hml : (ys.take i).length = i := by rw [List.length_take]; omega
        generalize ys.take i = L at hnx hml ⊢
        have hb : (i + 1) * 24 ≤ 140737488355328 := by omega
        repeat' first | (refine Holds.condT ?_ ?_; (· (simp [go_sem, List.take_of_length_le, get_E hxi, hxi, hlt, hml, hb] <;> with_reducible rfl))) | (refine Holds.condF ?_ ?_; (· (simp [go_sem, List.take_of_length_le, get_E hxi, hxi, hlt, hml, hb] <;> with_reducible rfl))) | refine Holds.seq ?_ | refine Holds.skip ?_ | refine Holds.exit ?_ | refine Holds.ret ?_ | refine thenA_normal ?_ | refine thenA_exit ?_ | refine thenA_ret ?_ | refine inB_normal ?_ | refine inB_ret ?_ | refine inB_here ?_ | (refine inB_past ?_ ?_; (· exact rfl)) | refine Holds.reg ?_ | refine Holds.block ?_ | refine GS.nil ?_ | (refine GS.step (s' := ?_) ?_ ?_ ?_; rotate_left; (· exact rfl); (· (simp [go_sem, List.take_of_length_le, get_E hxi, hxi, hlt, hml, hb] <;> with_reducible rfl))) | (refine GS.skip ?_ ?_ ?_; (· exact rfl); (· exact rfl)) | fail
        refine ⟨i + 1, by omega, by omega, ?_⟩
        rw [stepi, hnx]
        exact Cov.ofn (nm [0, 1, 5]) rfl (by simp [go_sem, List.take_of_length_le, ren, ren1, ren2, okr, okr1, okr2, ChkT, ChkN, BlkN, nf, grammarC, nodeC, itemN, nodes_snoc1, hml]) (by simp [go_sem, List.take_of_length_le, ren, ren1, ren2, okr, okr1, okr2, ChkT, ChkN, BlkN, nf, grammarC, nodeC, itemN, nodes_snoc1, hml])
      · have hle : i = is.length := by simp at h; omega
        subst hle
        rw [List.take_of_length_le (by omega)]
        repeat' first | (refine Holds.condT ?_ ?_; (· (simp [go_sem, List.take_of_length_le] <;> with_reducible rfl))) | (refine Holds.condF ?_ ?_; (· (simp [go_sem, List.take_of_length_le] <;> with_reducible rfl))) | refine Holds.seq ?_ | refine Holds.skip ?_ | refine Holds.exit ?_ | refine Holds.ret ?_ | refine thenA_normal ?_ | refine thenA_exit ?_ | refine thenA_ret ?_ | refine inB_normal ?_ | refine inB_ret ?_ | refine inB_here ?_ | (refine inB_past ?_ ?_; (· exact rfl)) | refine Holds.reg ?_ | refine Holds.block ?_ | refine GS.nil ?_ | (refine GS.step (s' := ?_) ?_ ?_ ?_; rotate_left; (· exact rfl); (· (simp [go_sem, List.take_of_length_le] <;> with_reducible rfl))) | (refine GS.skip ?_ ?_ ?_; (· exact rfl); (· exact rfl)) | fail
        refine OutF.mkn (xs := ?_) (nm [2]) ?_ ?_ ?_ ?_ ?_ (by first | exact .inr rfl | exact .inl rfl)
        rotate_left
        · simp [go_sem, List.take_of_length_le, hyl] <;> with_reducible rfl
        · simp [go_sem, List.take_of_length_le, ren, ren1, ren2, okr, okr1, okr2, ChkN, BlkN, List.range_succ, nf, hyl]
        · simp [go_sem, List.take_of_length_le, ren, ren1, ren2, okr, okr1, okr2, ChkN, BlkN, List.range_succ, nf, hyl]
        · simp [go_sem, List.take_of_length_le, ren, ren1, ren2, okr, okr1, okr2, ChkN, BlkN, List.range_succ, nf, hyl]
        · rfl
    · rw [if_neg hy] at hV
      subst hV
      repeat' first | (refine Holds.condT ?_ ?_; (· (simp [go_sem, List.take_of_length_le, hy] <;> with_reducible rfl))) | (refine Holds.condF ?_ ?_; (· (simp [go_sem, List.take_of_length_le, hy] <;> with_reducible rfl))) | refine Holds.seq ?_ | refine Holds.skip ?_ | refine Holds.exit ?_ | refine Holds.ret ?_ | refine thenA_normal ?_ | refine thenA_exit ?_ | refine thenA_ret ?_ | refine inB_normal ?_ | refine inB_ret ?_ | refine inB_here ?_ | (refine inB_past ?_ ?_; (· exact rfl)) | refine Holds.reg ?_ | refine Holds.block ?_ | refine GS.nil ?_ | (refine GS.step (s' := ?_) ?_ ?_ ?_; rotate_left; (· exact rfl); (· (simp [go_sem, List.take_of_length_le, hy] <;> with_reducible rfl))) | (refine GS.skip ?_ ?_ ?_; (· exact rfl); (· exact rfl)) | fail
      refine OutF.cov (Cov.niw (t := 8) 56 3 rfl) ?_
      refine OutF.mkn (xs := ?_) (nm [2]) ?_ ?_ ?_ ?_ ?_ (by first | exact .inr rfl | exact .inl rfl)
      rotate_left
      · simp [go_sem, List.take_of_length_le, niw, show nodes [] = [] from rfl] <;> with_reducible rfl
      · simp [go_sem, List.take_of_length_le, ren, ren1, ren2, okr, okr1, okr2, ChkN, BlkN, List.range_succ, nf, niw, show nodes [] = [] from rfl]
      · simp [go_sem, List.take_of_length_le, ren, ren1, ren2, okr, okr1, okr2, ChkN, BlkN, List.range_succ, nf, niw, show nodes [] = [] from rfl]
      · simp [go_sem, List.take_of_length_le, ren, ren1, ren2, okr, okr1, okr2, ChkN, BlkN, List.range_succ, nf, niw, show nodes [] = [] from rfl]
      · rfl
  | none =>
    rw [show symAt g (↑r, ↑d, ↑f) = none from hs] at ca
    simp only [symV] at ca
    rw [hs] at hV
    change advL _ = V at hV
    subst hV
    have hF : sets[f]? = some (at3 sets f) := by rw [at3, List.getD_eq_getElem?_getD, List.getElem?_eq_getElem hf]; rfl
    generalize at3 sets f = F at hF hfl hw ⊢
    have hlf : ∀ i, ((F.take i).filter fun z => decide (symAt g z = some (ruleN g r).1)).length ≤ 880 := fun i => by
      have h1 := List.length_filter_le (fun z => decide (symAt g z = some (ruleN g r).1)) (F.take i)
      rw [List.length_take] at h1; omega
    refine GS.cc (ca) rfl rfl rfl rfl (by simp [go_sem, List.take_of_length_le, grammarC] <;> with_reducible rfl) rfl (by simp [go_sem, List.take_of_length_le, grammarC]) ?_
    repeat' first | (refine Holds.condT ?_ ?_; (· (simp [go_sem, List.take_of_length_le, get_E hF, hF, hf, itemssC] <;> with_reducible rfl))) | (refine Holds.condF ?_ ?_; (· (simp [go_sem, List.take_of_length_le, get_E hF, hF, hf, itemssC] <;> with_reducible rfl))) | refine Holds.seq ?_ | refine Holds.skip ?_ | refine Holds.exit ?_ | refine Holds.ret ?_ | refine thenA_normal ?_ | refine thenA_exit ?_ | refine thenA_ret ?_ | refine inB_normal ?_ | refine inB_ret ?_ | refine inB_here ?_ | (refine inB_past ?_ ?_; (· exact rfl)) | refine Holds.reg ?_ | refine Holds.block ?_ | refine GS.nil ?_ | (refine GS.step (s' := ?_) ?_ ?_ ?_; rotate_left; (· exact rfl); (· (simp [go_sem, List.take_of_length_le, get_E hF, hF, hf, itemssC] <;> with_reducible rfl))) | (refine GS.skip ?_ ?_ ?_; (· exact rfl); (· exact rfl)) | fail
    refine Holds.niw 9 56 3 rfl ?_
    refine Holds.loop (ι := Nat) (fun i => ⟨[(4, .pb 0 3 0 0), (7, .pb 1 3 0 0), (9, .own 2 3 0 ((F.take i).filter fun z => decide (symAt g z = some (ruleN g r).1)).length), (47, .im 3 (nodes F)), (48, .v (.int .i64 F.length)), (49, .v (.int .i64 i))], [(2, ⟨56, 3, nodes (advL ((F.take i).filter fun z => decide (symAt g z = some (ruleN g r).1)))⟩), (1, ⟨56, 3, [nodeC (itemN r d f)]⟩), (0, ⟨31, 3, [grammarC g]⟩)], 3⟩)
      (fun i => i ≤ F.length) (fun i => F.length - i) 0 (Nat.zero_le _) ?_ ?_
    · exact Cov.ofn (id) rfl (by simp [go_sem, List.take_of_length_le, ren, ren1, ren2, okr, okr1, okr2, ChkT, ChkN, BlkN, nf, niw, grammarC, nodeC, itemN, show advL [] = [] from rfl, show nodes [] = [] from rfl]) (by simp [go_sem, List.take_of_length_le, ren, ren1, ren2, okr, okr1, okr2, ChkT, ChkN, BlkN, nf, niw, grammarC, nodeC, itemN, show advL [] = [] from rfl, show nodes [] = [] from rfl])
    intro i hi
    have stepi : wr64 ((i : Int) + 1) = ((i + 1 : Nat) : Int) := wr64_id (by omega) (by omega)
    repeat' first | (refine Holds.condT ?_ ?_; (· (simp [go_sem, List.take_of_length_le] <;> with_reducible rfl))) | (refine Holds.condF ?_ ?_; (· (simp [go_sem, List.take_of_length_le] <;> with_reducible rfl))) | refine Holds.seq ?_ | refine Holds.skip ?_ | refine Holds.exit ?_ | refine Holds.ret ?_ | refine thenA_normal ?_ | refine thenA_exit ?_ | refine thenA_ret ?_ | refine inB_normal ?_ | refine inB_ret ?_ | refine inB_here ?_ | (refine inB_past ?_ ?_; (· exact rfl)) | refine Holds.reg ?_ | refine Holds.block ?_ | refine GS.nil ?_ | (refine GS.step (s' := ?_) ?_ ?_ ?_; rotate_left; (· exact rfl); (· (simp [go_sem, List.take_of_length_le] <;> with_reducible rfl))) | (refine GS.skip ?_ ?_ ?_; (· exact rfl); (· exact rfl)) | fail
    refine Holds.cond rfl (fun h => ?_) (fun h => ?_)
    · have hlt : i < F.length := by simp at h; omega
      have hxi : F[i]? = some F[i] := List.getElem?_eq_getElem hlt
      obtain ⟨r2, d2, f2, e, hr2, hd2⟩ := hw _ (List.getElem_mem hlt)
      rw [e] at hxi
      have cz := l13At g r2 d2 f2 hr2 hd2
      simp only [itemN, nodeC] at cz
      have hll := hlf i
      have hnx : (F.take (i + 1)).filter (fun z => decide (symAt g z = some (ruleN g r).1)) = (F.take i).filter (fun z => decide (symAt g z = some (ruleN g r).1)) ++ if symAt g (itemN r2 d2 f2) = some (ruleN g r).1 then [itemN r2 d2 f2] else [] := by
        rw [List.take_add_one, hxi, Option.toList_some, List.filter_append]
        by_cases hc : symAt g (itemN r2 d2 f2) = some (ruleN g r).1 <;> simp [hc]
      generalize (F.take i).filter (fun z => decide (symAt g z = some (ruleN g r).1)) = L at hnx hll ⊢
      have hb : (L.length + 1) * 24 ≤ 140737488355328 := by omega
      have hw2 : wr64 ((d2 : Int) + 1) = (d2 : Int) + 1 := wr64_id (by omega) (by have := hg4 r2 hr2; omega)
      repeat' first | (refine Holds.condT ?_ ?_; (· (simp [go_sem, List.take_of_length_le, get_E hxi, hxi, hlt, nodeC, itemN, grammarC] <;> with_reducible rfl))) | (refine Holds.condF ?_ ?_; (· (simp [go_sem, List.take_of_length_le, get_E hxi, hxi, hlt, nodeC, itemN, grammarC] <;> with_reducible rfl))) | refine Holds.seq ?_ | refine Holds.skip ?_ | refine Holds.exit ?_ | refine Holds.ret ?_ | refine thenA_normal ?_ | refine thenA_exit ?_ | refine thenA_ret ?_ | refine inB_normal ?_ | refine inB_ret ?_ | refine inB_here ?_ | (refine inB_past ?_ ?_; (· exact rfl)) | refine Holds.reg ?_ | refine Holds.block ?_ | refine GS.nil ?_ | (refine GS.step (s' := ?_) ?_ ?_ ?_; rotate_left; (· exact rfl); (· (simp [go_sem, List.take_of_length_le, get_E hxi, hxi, hlt, nodeC, itemN, grammarC] <;> with_reducible rfl))) | (refine GS.skip ?_ ?_ ?_; (· exact rfl); (· exact rfl)) | fail
      cases hs2 : symAt g (itemN r2 d2 f2) with
      | none =>
        rw [hs2, if_neg (by simp), List.append_nil] at hnx
        rw [show symAt g (↑r2, ↑d2, ↑f2) = none from hs2] at cz
        simp only [symV] at cz
        refine GS.cc (cz) rfl rfl rfl rfl (by simp [go_sem, List.take_of_length_le, grammarC] <;> with_reducible rfl) rfl (by simp [go_sem, List.take_of_length_le, grammarC]) ?_
        repeat' first | (refine Holds.condT ?_ ?_; (· (simp [go_sem, List.take_of_length_le] <;> with_reducible rfl))) | (refine Holds.condF ?_ ?_; (· (simp [go_sem, List.take_of_length_le] <;> with_reducible rfl))) | refine Holds.seq ?_ | refine Holds.skip ?_ | refine Holds.exit ?_ | refine Holds.ret ?_ | refine thenA_normal ?_ | refine thenA_exit ?_ | refine thenA_ret ?_ | refine inB_normal ?_ | refine inB_ret ?_ | refine inB_here ?_ | (refine inB_past ?_ ?_; (· exact rfl)) | refine Holds.reg ?_ | refine Holds.block ?_ | refine GS.nil ?_ | (refine GS.step (s' := ?_) ?_ ?_ ?_; rotate_left; (· exact rfl); (· (simp [go_sem, List.take_of_length_le] <;> with_reducible rfl))) | (refine GS.skip ?_ ?_ ?_; (· exact rfl); (· exact rfl)) | fail
        refine ⟨i + 1, by omega, by omega, ?_⟩
        rw [stepi, hnx]
        exact Cov.ofn (id) rfl (by simp [go_sem, List.take_of_length_le, ren, ren1, ren2, okr, okr1, okr2, ChkT, ChkN, BlkN, nf, grammarC, nodeC, itemN]) (by simp [go_sem, List.take_of_length_le, ren, ren1, ren2, okr, okr1, okr2, ChkT, ChkN, BlkN, nf, grammarC, nodeC, itemN])
      | some y2 =>
        rw [hs2] at hnx
        rw [show symAt g (↑r2, ↑d2, ↑f2) = some y2 from hs2] at cz
        simp only [symV] at cz
        refine GS.cc (cz) rfl rfl rfl rfl (by simp [go_sem, List.take_of_length_le, grammarC] <;> with_reducible rfl) rfl (by simp [go_sem, List.take_of_length_le, grammarC]) ?_
        by_cases hyl : y2 = (ruleN g r).1
        · have hyl' : (y2 == (ruleN g r).1) = true := by simp [hyl]
          rw [if_pos (by rw [hyl])] at hnx
          repeat' first | (refine Holds.condT ?_ ?_; (· (simp [go_sem, List.take_of_length_le, get_E hrr, hrr, hr, ruleC, hyl', hw2, hb, nodeC, itemN, grammarC] <;> with_reducible rfl))) | (refine Holds.condF ?_ ?_; (· (simp [go_sem, List.take_of_length_le, get_E hrr, hrr, hr, ruleC, hyl', hw2, hb, nodeC, itemN, grammarC] <;> with_reducible rfl))) | refine Holds.seq ?_ | refine Holds.skip ?_ | refine Holds.exit ?_ | refine Holds.ret ?_ | refine thenA_normal ?_ | refine thenA_exit ?_ | refine thenA_ret ?_ | refine inB_normal ?_ | refine inB_ret ?_ | refine inB_here ?_ | (refine inB_past ?_ ?_; (· exact rfl)) | refine Holds.reg ?_ | refine Holds.block ?_ | refine GS.nil ?_ | (refine GS.step (s' := ?_) ?_ ?_ ?_; rotate_left; (· exact rfl); (· (simp [go_sem, List.take_of_length_le, get_E hrr, hrr, hr, ruleC, hyl', hw2, hb, nodeC, itemN, grammarC] <;> with_reducible rfl))) | (refine GS.skip ?_ ?_ ?_; (· exact rfl); (· exact rfl)) | fail
          refine ⟨i + 1, by omega, by omega, ?_⟩
          rw [stepi, hnx, advL_snoc]
          exact Cov.ofn (nm [0, 1, 6]) rfl (by simp [go_sem, List.take_of_length_le, ren, ren1, ren2, okr, okr1, okr2, ChkT, ChkN, BlkN, nf, grammarC, nodeC, itemN, nodes_snoc1]) (by simp [go_sem, List.take_of_length_le, ren, ren1, ren2, okr, okr1, okr2, ChkT, ChkN, BlkN, nf, grammarC, nodeC, itemN, nodes_snoc1])
        · have hyl' : (y2 == (ruleN g r).1) = false := by simp [hyl]
          rw [if_neg (by intro e; injection e with e; exact hyl e), List.append_nil] at hnx
          repeat' first | (refine Holds.condT ?_ ?_; (· (simp [go_sem, List.take_of_length_le, get_E hrr, hrr, hr, ruleC, hyl', nodeC, itemN, grammarC] <;> with_reducible rfl))) | (refine Holds.condF ?_ ?_; (· (simp [go_sem, List.take_of_length_le, get_E hrr, hrr, hr, ruleC, hyl', nodeC, itemN, grammarC] <;> with_reducible rfl))) | refine Holds.seq ?_ | refine Holds.skip ?_ | refine Holds.exit ?_ | refine Holds.ret ?_ | refine thenA_normal ?_ | refine thenA_exit ?_ | refine thenA_ret ?_ | refine inB_normal ?_ | refine inB_ret ?_ | refine inB_here ?_ | (refine inB_past ?_ ?_; (· exact rfl)) | refine Holds.reg ?_ | refine Holds.block ?_ | refine GS.nil ?_ | (refine GS.step (s' := ?_) ?_ ?_ ?_; rotate_left; (· exact rfl); (· (simp [go_sem, List.take_of_length_le, get_E hrr, hrr, hr, ruleC, hyl', nodeC, itemN, grammarC] <;> with_reducible rfl))) | (refine GS.skip ?_ ?_ ?_; (· exact rfl); (· exact rfl)) | fail
          refine ⟨i + 1, by omega, by omega, ?_⟩
          rw [stepi, hnx]
          exact Cov.ofn (id) rfl (by simp [go_sem, List.take_of_length_le, ren, ren1, ren2, okr, okr1, okr2, ChkT, ChkN, BlkN, nf, grammarC, nodeC, itemN]) (by simp [go_sem, List.take_of_length_le, ren, ren1, ren2, okr, okr1, okr2, ChkT, ChkN, BlkN, nf, grammarC, nodeC, itemN])
    · have hle : i = F.length := by simp at h; omega
      subst hle
      rw [List.take_length]
      repeat' first | (refine Holds.condT ?_ ?_; (· (simp [go_sem, List.take_of_length_le] <;> with_reducible rfl))) | (refine Holds.condF ?_ ?_; (· (simp [go_sem, List.take_of_length_le] <;> with_reducible rfl))) | refine Holds.seq ?_ | refine Holds.skip ?_ | refine Holds.exit ?_ | refine Holds.ret ?_ | refine thenA_normal ?_ | refine thenA_exit ?_ | refine thenA_ret ?_ | refine inB_normal ?_ | refine inB_ret ?_ | refine inB_here ?_ | (refine inB_past ?_ ?_; (· exact rfl)) | refine Holds.reg ?_ | refine Holds.block ?_ | refine GS.nil ?_ | (refine GS.step (s' := ?_) ?_ ?_ ?_; rotate_left; (· exact rfl); (· (simp [go_sem, List.take_of_length_le] <;> with_reducible rfl))) | (refine GS.skip ?_ ?_ ?_; (· exact rfl); (· exact rfl)) | fail
      refine OutF.mkn (xs := ?_) (nm [2]) ?_ ?_ ?_ ?_ ?_ (by first | exact .inr rfl | exact .inl rfl)
      rotate_left
      · simp [go_sem, List.take_of_length_le] <;> with_reducible rfl
      · simp [go_sem, List.take_of_length_le, ren, ren1, ren2, okr, okr1, okr2, ChkN, BlkN, List.range_succ, nf]
      · simp [go_sem, List.take_of_length_le, ren, ren1, ren2, okr, okr1, okr2, ChkN, BlkN, List.range_succ, nf]
      · simp [go_sem, List.take_of_length_le, ren, ren1, ren2, okr, okr1, okr2, ChkN, BlkN, List.range_succ, nf]
      · rfl
end Go.Proofs.Ytabdnpgahdbciaa.En
end
section
namespace Go.Proofs.Ytabdnpgahdbciaa.En
open Go.RowKit
set_option linter.unusedSimpArgs false
set_option linter.unusedVariables false
set_option maxHeartbeats 4000000
theorem sortI_ext : ∀ {x y : List Item3}, SortI x → SortI y → (∀ z, z ∈ x ↔ z ∈ y) → x = y
  | [], [], _, _, _ => rfl
  | [], v :: y, _, _, h3 => by have := (h3 v).2 (by simp); cases this
  | u :: x, [], _, _, h3 => by have := (h3 u).1 (by simp); cases this
  | u :: x, v :: y, h1, h2, h3 => by
    have hu := (List.pairwise_cons.1 h1).1
    have hv := (List.pairwise_cons.1 h2).1
    have huv : u = v := by
      rcases List.mem_cons.1 ((h3 u).1 (by simp)) with e | e
      · exact e
      · have l1 := hv u e
        rcases List.mem_cons.1 ((h3 v).2 (by simp)) with e2 | e2
        · exact e2.symm
        · have l2 := hu v e2
          have := lessI_trans l1 l2
          rw [lessI_irr] at this; cases this
    subst huv
    congr 1
    refine sortI_ext (List.pairwise_cons.1 h1).2 (List.pairwise_cons.1 h2).2 fun z => ?_
    constructor
    · intro hz
      rcases List.mem_cons.1 ((h3 z).1 (by simp [hz])) with e | e
      · subst e; have := hu z hz; rw [lessI_irr] at this; cases this
      · exact e
    · intro hz
      rcases List.mem_cons.1 ((h3 z).2 (by simp [hz])) with e | e
      · subst e; have := hv z hz; rw [lessI_irr] at this; cases this
      · exact e
def Srt (sets : Sets3) : Prop := ∀ p, SortI (at3 sets p)
theorem Srt.put {sets : Sets3} (h : Srt sets) {p : Nat} (hp : p < sets.length) (x : Item3) : Srt (sets.set p (putI (at3 sets p) x)) := fun q => by
  by_cases e : p = q
  · subst e; rw [at3_set hp]; exact putI_sort (h p) x
  · rw [at3_ne e]; exact h q
theorem idxs_iff {α : Type} (q : α → Bool) : ∀ (xs : List α) (k : Nat) (z : Int), z ∈ idxs q k xs ↔ ∃ (j : Nat) (x : α), z = ((k + j : Nat) : Int) ∧ xs[j]? = some x ∧ q x = true
  | [], k, z => by simp [idxs]
  | x :: xs, k, z => by
    have ih := idxs_iff q xs (k + 1) z
    unfold idxs
    constructor
    · intro h
      by_cases hq : q x = true
      · rw [if_pos hq] at h
        rcases List.mem_cons.1 h with e | e
        · exact ⟨0, x, by simpa using e, rfl, hq⟩
        · obtain ⟨j, y, e1, e2, e3⟩ := ih.1 e
          exact ⟨j + 1, y, by rw [e1]; congr 1; omega, by simpa using e2, e3⟩
      · rw [if_neg hq] at h
        obtain ⟨j, y, e1, e2, e3⟩ := ih.1 h
        exact ⟨j + 1, y, by rw [e1]; congr 1; omega, by simpa using e2, e3⟩
    · rintro ⟨j, y, e1, e2, e3⟩
      cases j with
      | zero =>
        simp only [List.getElem?_cons_zero, Option.some.injEq] at e2
        subst e2
        rw [if_pos e3]
        exact List.mem_cons.2 (.inl (by simpa using e1))
      | succ j =>
        have hm : z ∈ idxs q (k + 1) xs := ih.2 ⟨j, y, by rw [e1]; congr 1; omega, by simpa using e2, e3⟩
        split
        · exact List.mem_cons.2 (.inr hm)
        · exact hm
theorem rulesOf_mem {g : GrammarT} {y z : Int} : z ∈ rulesOf g y ↔ ∃ r : Nat, z = (r : Int) ∧ r < g.2.2.length ∧ (ruleN g r).1 = y := by
  rw [rulesOf, idxs_iff]
  constructor
  · rintro ⟨j, x, e1, e2, e3⟩
    have hj := (List.getElem?_eq_some_iff.1 e2).1
    have := ruleN_at hj
    rw [e2] at this
    injection this with this
    refine ⟨j, by rw [e1, Nat.zero_add], hj, ?_⟩
    rw [← this]; simpa using e3
  · rintro ⟨r, e1, hr, hl⟩
    exact ⟨r, ruleN g r, by rw [e1, Nat.zero_add], ruleN_at hr, by simpa using hl⟩
theorem moreL_ok {g : GrammarT} {w : List Int} {sets : Sets3} (hs : Snd g w sets) {p : Nat} {x : Item3} (hx : okI g w p x) : ∀ y ∈ moreL g sets p x, okI g w p y := by
  obtain ⟨r, d, f, rfl, hE⟩ := hx
  have hb := hE.bnd
  intro y hy
  unfold moreL at hy
  cases hsy : symAt g (itemN r d f) with
  | some s =>
    rw [hsy] at hy
    dsimp only at hy
    split at hy
    · rename_i h0
      obtain ⟨z, hz, rfl⟩ := List.mem_map.1 hy
      obtain ⟨r2, rfl, hr2, hl⟩ := rulesOf_mem.1 hz
      exact ⟨r2, 0, p, rfl, Ear.pred p r d f s r2 hE (by rw [← symAt_N g r d f]; exact hsy) h0 hr2 hl⟩
    · cases hy
  | none =>
    rw [hsy] at hy
    dsimp only at hy
    obtain ⟨z, hz, rfl⟩ := List.mem_map.1 hy
    obtain ⟨hz1, hz2⟩ := List.mem_filter.1 hz
    have hz2 := of_decide_eq_true hz2
    have hf : (itemN r d f).2.2.toNat = f := by simp [itemN]
    rw [hf] at hz1
    obtain ⟨r2, d2, f2, rfl, hE2⟩ := hs.ok f z hz1
    rw [symAt_N] at hz2 hsy
    have hd : (ruleN g r).2.length = d := by
      have := List.getElem?_eq_none_iff.1 hsy
      omega
    rw [advI_N]
    exact ⟨r2, d2 + 1, f2, rfl, Ear.comp p r d f r2 d2 f2 hE hd hE2 (by simpa [itemN] using hz2)⟩
theorem moreL_clo {g : GrammarT} {sets : Sets3} {p : Nat} {x : Item3} {S : List Item3} (h : ∀ y ∈ moreL g sets p x, y ∈ S) : CloP g p S x ∧ CloC g (at3 sets x.2.2.toNat) S x := by
  constructor
  · intro y hy h0 r2 hr2 hl
    refine h _ ?_
    unfold moreL
    rw [hy]
    dsimp only
    rw [if_pos h0]
    exact List.mem_map.2 ⟨(r2 : Int), rulesOf_mem.2 ⟨r2, rfl, hr2, hl⟩, rfl⟩
  · intro hn z hz hsz
    refine h _ ?_
    unfold moreL
    rw [hn]
    dsimp only
    exact List.mem_map.2 ⟨z, List.mem_filter.2 ⟨hz, decide_eq_true hsz⟩, rfl⟩
theorem moreL_len {g : GrammarT} (hg : g.2.2.length ≤ 16) {sets : Sets3} {p : Nat} {x : Item3} (hf : (at3 sets x.2.2.toNat).length ≤ 880) : (moreL g sets p x).length ≤ 880 := by
  unfold moreL
  split
  · split
    · have := rulesOf_len g (by assumption); simp; omega
    · simp
  · have := List.length_filter_le (fun z => decide (symAt g z = some (ruleN g x.1.toNat).1)) (at3 sets x.2.2.toNat)
    simp; omega
def strL (is : List Int) : List Item3 := is.foldl (fun S r => putI S (r, 0, 0)) []
theorem strL_next {is : List Int} {i : Nat} {r : Int} (h : is[i]? = some r) : strL (is.take (i + 1)) = putI (strL (is.take i)) (r, 0, 0) := by
  rw [strL, strL, List.take_add_one, h, List.foldl_append]; rfl
theorem strL_ok (is : List Int) : SortI (strL is) ∧ ∀ z, z ∈ strL is ↔ ∃ r ∈ is, z = (r, 0, 0) := by
  have H : ∀ (is : List Int) (S : List Item3), SortI S → SortI (is.foldl (fun S r => putI S (r, 0, 0)) S) ∧ ∀ z, z ∈ is.foldl (fun S r => putI S (r, 0, 0)) S ↔ z ∈ S ∨ ∃ r ∈ is, z = (r, 0, 0) := by
    intro is
    induction is with
    | nil => intro S hS; exact ⟨hS, fun z => by simp⟩
    | cons r is ih =>
      intro S hS
      obtain ⟨h1, h2⟩ := ih (putI S (r, 0, 0)) (putI_sort hS _)
      refine ⟨h1, fun z => ?_⟩
      rw [List.foldl_cons, h2, (putI_R hS _).mem]
      constructor
      · rintro ((e | e) | ⟨r', e1, e2⟩)
        · exact .inr ⟨r, by simp, e⟩
        · exact .inl e
        · exact .inr ⟨r', by simp [e1], e2⟩
      · rintro (e | ⟨r', e1, e2⟩)
        · exact .inl (.inr e)
        · rcases List.mem_cons.1 e1 with g | g
          · subst g; exact .inl (.inl e2)
          · exact .inr ⟨r', g, e2⟩
  obtain ⟨h1, h2⟩ := H is [] (by simp [SortI])
  exact ⟨h1, fun z => by rw [strL, h2]; simp⟩
def sets0 (g : GrammarT) (n : Nat) : Sets3 := (List.replicate (n + 1) []).set 0 (strL (rulesOf g 0))
theorem at3_zero (n q : Nat) (S : List Item3) : at3 ((List.replicate (n + 1) ([] : List Item3)).set 0 S) q = if q = 0 then S else [] := by
  by_cases e : q = 0
  · subst e; rw [if_pos rfl, at3_set (by simp)]
  · rw [if_neg e, at3_ne (Ne.symm e), at3, List.getD_eq_getElem?_getD, List.getElem?_replicate]
    split <;> rfl
theorem sets0_ok (g : GrammarT) (w : List Int) : Snd g w (sets0 g w.length) ∧ Srt (sets0 g w.length) ∧ DoneI g w (sets0 g w.length) 0 := by
  obtain ⟨h1, h2⟩ := strL_ok (rulesOf g 0)
  have hs : Srt (sets0 g w.length) := fun q => by
    rw [sets0, at3_zero]
    split
    · exact h1
    · simp [SortI]
  refine ⟨⟨by simp [sets0], fun q x hx => ?_, fun q => sortI_nodup (hs q), fun r hr hl => ?_⟩, hs, fun q hq => absurd hq (Nat.not_lt_zero q)⟩
  · rw [sets0, at3_zero] at hx
    split at hx
    · rename_i e; subst e
      obtain ⟨z, hz, rfl⟩ := (h2 x).1 hx
      obtain ⟨r, rfl, hr, hl⟩ := rulesOf_mem.1 hz
      exact ⟨r, 0, 0, rfl, .start r hr hl⟩
    · cases hx
  · rw [sets0, at3_zero, if_pos rfl]
    exact (h2 _).2 ⟨(r : Int), rulesOf_mem.2 ⟨r, rfl, hr, hl⟩, rfl⟩
theorem PassI.closed {g : GrammarT} {w : List Int} {p : Nat} {S0 : List Item3} {sets : Sets3} (h : PassI g w p S0 sets false S0.length) : PassI g w p (at3 sets p) sets false (at3 sets p).length := by
  have e := (h.no rfl).1
  rw [e]
  exact h
theorem okI_wf {g : GrammarT} {w : List Int} {p : Nat} {x : Item3} (h : okI g w p x) : wfI g x := by
  obtain ⟨r, d, f, e, hE⟩ := h
  exact ⟨r, d, f, e, hE.bnd.1, hE.bnd.2.1⟩
theorem at3_get {sets : Sets3} {p : Nat} (hp : p < sets.length) : sets[p]? = some (at3 sets p) := by rw [at3, List.getD_eq_getElem?_getD, List.getElem?_eq_getElem hp]; rfl
def SetsR (g : GrammarT) (w : List Int) (sets : Sets3) : Prop := Snd g w sets ∧ Srt sets ∧ DoneI g w sets (w.length + 1)
theorem setsR_uniq {g : GrammarT} {w : List Int} {a b : Sets3} (ha : SetsR g w a) (hb : SetsR g w b) : a = b := by
  have hm : ∀ p, at3 a p = at3 b p := fun p => by
    have h1 := ha.2.1 p
    have h2 := hb.2.1 p
    have h3 : ∀ z, z ∈ at3 a p ↔ z ∈ at3 b p := fun z => by rw [ear_iff ha.1 ha.2.2, ear_iff hb.1 hb.2.2]
    generalize at3 a p = x at h1 h3
    generalize at3 b p = y at h2 h3
    exact sortI_ext h1 h2 h3
  have hl : a.length = b.length := by rw [ha.1.ln, hb.1.ln]
  refine List.ext_getElem? fun i => ?_
  by_cases hi : i < a.length
  · rw [at3_get hi, at3_get (by omega), hm]
  · rw [List.getElem?_eq_none (by omega), List.getElem?_eq_none (by omega)]
def univS : List Item3 := (List.range 11).flatMap fun f => (List.range 16).flatMap fun r => (List.range 5).map fun d => itemN r d f
def chainB : List Item3 → Bool
  | x :: y :: l => lessI x y && chainB (y :: l)
  | _ => true
theorem chain_sort : ∀ l : List Item3, chainB l = true → SortI l
  | [], _ => List.Pairwise.nil
  | [x], _ => List.pairwise_singleton _ _
  | x :: y :: l, h => by
    simp only [chainB, Bool.and_eq_true] at h
    have ih := chain_sort (y :: l) h.2
    refine List.pairwise_cons.2 ⟨fun z hz => ?_, ih⟩
    rcases List.mem_cons.1 hz with e | e
    · subst e; exact h.1
    · exact lessI_trans h.1 ((List.pairwise_cons.1 ih).1 z e)
theorem univS_sort : SortI univS := chain_sort _ (by decide +kernel)
theorem mem_univS {g : GrammarT} (hg : goodG g = true) {w : List Int} (hw : w.length ≤ 10) {p : Nat} {x : Item3} (h : okI g w p x) : x ∈ univS := by
  obtain ⟨r, d, f, e, h1, h2, h3, h4, h5, h6, h7⟩ := okI_bnd hg hw h
  subst e
  simp only [univS, List.mem_flatMap, List.mem_range, List.mem_map]
  exact ⟨f, by omega, r, h2, d, by omega, rfl⟩
noncomputable def okB (g : GrammarT) (w : List Int) (p : Nat) (x : Item3) : Bool := @decide (okI g w p x) (Classical.propDecidable _)
theorem okB_iff {g : GrammarT} {w : List Int} {p : Nat} {x : Item3} : okB g w p x = true ↔ okI g w p x := ⟨fun h => @of_decide_eq_true _ (Classical.propDecidable _) h, fun h => @decide_eq_true _ (Classical.propDecidable _) h⟩
noncomputable def setsC (g : GrammarT) (w : List Int) : Sets3 := (List.range (w.length + 1)).map fun p => univS.filter (okB g w p)
theorem setsC_at {g : GrammarT} (hg : goodG g = true) {w : List Int} (hw : w.length ≤ 10) {p : Nat} {x : Item3} : x ∈ at3 (setsC g w) p ↔ okI g w p x := by
  by_cases hp : p < w.length + 1
  · have : at3 (setsC g w) p = univS.filter (okB g w p) := by rw [at3, setsC, List.getD_eq_getElem?_getD, List.getElem?_map, List.getElem?_range hp]; rfl
    rw [this, List.mem_filter]
    constructor
    · rintro ⟨_, h⟩; exact okB_iff.1 h
    · intro h; exact ⟨mem_univS hg hw h, okB_iff.2 h⟩
  · have : at3 (setsC g w) p = [] := by simp [at3, setsC, hp]
    rw [this]
    constructor
    · intro h; cases h
    · rintro ⟨r, d, f, _, hE⟩; have := hE.bnd; omega
theorem setsC_R {g : GrammarT} (hg : goodG g = true) {w : List Int} (hw : w.length ≤ 10) : SetsR g w (setsC g w) := by
  have hs : Srt (setsC g w) := fun p => by
    by_cases hp : p < w.length + 1
    · have : at3 (setsC g w) p = univS.filter (okB g w p) := by rw [at3, setsC, List.getD_eq_getElem?_getD, List.getElem?_map, List.getElem?_range hp]; rfl
      rw [this]; exact List.Pairwise.filter _ univS_sort
    · have : at3 (setsC g w) p = [] := by simp [at3, setsC, hp]
      rw [this]; exact List.Pairwise.nil
  refine ⟨⟨by simp [setsC], fun p x hx => (setsC_at hg hw).1 hx, fun p => sortI_nodup (hs p), fun r hr hl => (setsC_at hg hw).2 ⟨r, 0, 0, rfl, .start r hr hl⟩⟩, hs, fun q hq x hx => ?_⟩
  obtain ⟨r, d, f, rfl, hE⟩ := (setsC_at hg hw).1 hx
  refine ⟨fun y hy h0 r2 hr2 hl => (setsC_at hg hw).2 ⟨r2, 0, q, rfl, .pred q r d f y r2 hE (by rw [← symAt_N g r d f]; exact hy) h0 hr2 hl⟩, fun hn z hz hsz => ?_, fun y hy h0 hwq => ?_⟩
  · have hf : (itemN r d f).2.2.toNat = f := by simp [itemN]
    rw [hf] at hz
    obtain ⟨r2, d2, f2, rfl, hE2⟩ := (setsC_at hg hw).1 hz
    rw [symAt_N] at hn hsz
    have hb := hE.bnd
    have hd : (ruleN g r).2.length = d := by have := List.getElem?_eq_none_iff.1 hn; omega
    rw [advI_N]
    exact (setsC_at hg hw).2 ⟨r2, d2 + 1, f2, rfl, .comp q r d f r2 d2 f2 hE hd hE2 (by simpa [itemN] using hsz)⟩
  · rw [symAt_N] at hy
    rw [advI_N]
    exact (setsC_at hg hw).2 ⟨r, d + 1, f, rfl, .scan q r d f y hE hy h0 hwq⟩
end Go.Proofs.Ytabdnpgahdbciaa.En
end
