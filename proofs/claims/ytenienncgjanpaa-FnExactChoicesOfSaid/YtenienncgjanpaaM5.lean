/- Own words and walks of this claim, part 5: what the program's functions compute, for all the arguments that are named; no further conditions. -/
import Derived.Test.YtenienncgjanpaaM2
import Derived.Test.YtenienncgjanpaaM4
import Derived.Test.YtenienncgjanpaaM3
section
namespace Go.Proofs.Ytenienncgjanpaa.En
open Go.RowKit
set_option linter.unusedSimpArgs false
set_option linter.unusedVariables false
set_option maxHeartbeats 4000000
theorem idxs_iffA {α : Type} (q : α → Bool) : ∀ (xs : List α) (k : Nat) (z : Int), z ∈ idxs q k xs ↔ ∃ (j : Nat) (x : α), z = ((k + j : Nat) : Int) ∧ xs[j]? = some x ∧ q x = true
  | [], k, z => by simp [idxs]
  | x :: xs, k, z => by
    have ih := idxs_iffA q xs (k + 1) z
    unfold idxs
    constructor
    · intro h
      by_cases hq : q x = true
      · rw [if_pos hq] at h
        rcases List.mem_cons.1 h with e | e
        · exact ⟨0, x, by simpa using e, rfl, hq⟩
        · obtain ⟨j, y, e1, e2, e3⟩ := ih.1 e
          exact ⟨j + 1, y, by rw [e1]; congr 1; omega, by simpa using e2, e3⟩
      · rw [if_neg hq] at h
        obtain ⟨j, y, e1, e2, e3⟩ := ih.1 h
        exact ⟨j + 1, y, by rw [e1]; congr 1; omega, by simpa using e2, e3⟩
    · rintro ⟨j, y, e1, e2, e3⟩
      cases j with
      | zero =>
        simp only [List.getElem?_cons_zero, Option.some.injEq] at e2
        subst e2
        rw [if_pos e3]
        exact List.mem_cons.2 (.inl (by simpa using e1))
      | succ j =>
        have hm : z ∈ idxs q (k + 1) xs := ih.2 ⟨j, y, by rw [e1]; congr 1; omega, by simpa using e2, e3⟩
        split
        · exact List.mem_cons.2 (.inr hm)
        · exact hm
theorem idxs_ge {α : Type} (p : α → Bool) : ∀ (xs : List α) (k : Nat), ∀ z ∈ idxs p k xs, (k : Int) ≤ z := fun xs k z hz => by
  obtain ⟨j, x, rfl, _⟩ := (idxs_iffA p xs k z).1 hz
  omega
theorem idxs_incr {α : Type} (p : α → Bool) : ∀ (xs : List α) (k : Nat), (idxs p k xs).Pairwise (· < ·)
  | [], k => by simp [idxs]
  | x :: xs, k => by
    have ih := idxs_incr p xs (k + 1)
    have hg := idxs_ge p xs (k + 1)
    unfold idxs
    split
    · exact List.pairwise_cons.2 ⟨fun z hz => by have := hg z hz; omega, ih⟩
    · exact ih
theorem rulesOf_iff {g : GrammarT} {non z : Int} : z ∈ rulesOf g non ↔ ∃ (i : Nat) (r : RuleT), z = (i : Int) ∧ g.2.2[i]? = some r ∧ r.1 = non := by
  rw [rulesOf, idxs_iffA]
  constructor
  · rintro ⟨j, x, h1, h2, h3⟩
    exact ⟨j, x, by omega, h2, by simpa using h3⟩
  · rintro ⟨j, x, h1, h2, h3⟩
    exact ⟨j, x, by omega, h2, by simpa using h3⟩
theorem begT_tok {nu : Int → Bool} {F : Int × Int → Bool} {T : Int} (hF : ∀ p, F p = true → p.2 < T) : ∀ (l : List Int), (∀ x ∈ l, -T ≤ x) → ∀ t, begT nu F l t = true → t < T
  | [], _, t, h => by cases h
  | x :: xs, hl, t, h => by
    rw [begT_cons] at h
    simp only [Bool.or_eq_true, Bool.and_eq_true, headT] at h
    rcases h with h | ⟨_, h⟩
    · split at h <;> rename_i hx
      · have := of_decide_eq_true h
        have := hl x (.head _)
        omega
      · exact hF (x, t) h
    · exact begT_tok hF xs (fun y hy => hl y (.tail _ hy)) t h
theorem firstS_tok {g : GrammarT} (hG : OkG g) {p : Int × Int} (hp : firstS g p = true) : p.2 < g.2.1 := by
  have := lfpI_low (impsB g g.2.2) (fun p => decide (p.2 < g.2.1)) (fun q hq h => by
    obtain ⟨r, hr, t, ht, rfl⟩ := impsB_inv hq
    have h : (okM true (madeS g true) r.2 && begT (madeS g false) (fun p => decide (p.2 < g.2.1)) r.2 t) = true := h
    rw [Bool.and_eq_true] at h
    exact decide_eq_true (begT_tok (T := g.2.1) (fun p hp => of_decide_eq_true hp) r.2 (hG.s0 r hr) t h.2)) p hp
  exact of_decide_eq_true this
theorem begS_tok {g : GrammarT} (hG : OkG g) {l : List Int} (hl : ∀ x ∈ l, -g.2.1 ≤ x) {t : Int} (h : begS g l t = true) : t < g.2.1 := by
  simp only [begS, Bool.and_eq_true] at h
  exact begT_tok (fun p hp => firstS_tok hG hp) l hl t h.2
theorem followS_tok {g : GrammarT} (hG : OkG g) {p : Int × Int} (hp : followS g p = true) : p.2 < g.2.1 := by
  have ht0 := hG.t0
  have := lfpI_low (impsW g) (fun p => decide (p.2 < g.2.1)) (fun q hq h => by
    rcases List.mem_cons.1 hq with e | e
    · subst e; exact decide_eq_true (by show (-1 : Int) < g.2.1; omega)
    · obtain ⟨r, hr, h3⟩ := List.mem_flatMap.1 e
      obtain ⟨a, _, h4⟩ := List.mem_flatMap.1 h3
      simp only [impsWr] at h4
      split at h4
      · split at h4
        · cases h4
        · obtain ⟨t, ht, rfl⟩ := List.mem_map.1 h4
          have h : (begS g (r.2.drop (a + 1)) t || (nullS g (r.2.drop (a + 1)) && decide (t < g.2.1))) = true := h
          rw [Bool.or_eq_true, Bool.and_eq_true] at h
          rcases h with h | h
          · exact decide_eq_true (begS_tok hG (fun x hx => hG.s0 r hr x (List.mem_of_mem_drop hx)) h)
          · exact h.2
      · cases h4) p hp
  exact of_decide_eq_true this
theorem okC_rng {g : GrammarT} (hG : OkG g) {c : ChT} (h : okC g c) : (0 ≤ c.1 ∧ c.1 < g.1) ∧ -1 ≤ c.2.1 ∧ c.2.1 < g.2.1 := by
  obtain ⟨i, r, _, hr, h1, h2, h3⟩ := h
  have hm := List.mem_of_getElem? hr
  have h4 := hG.l0 r hm
  have h5 := hG.l1 r hm
  refine ⟨by omega, h2.1, ?_⟩
  rw [isC, Bool.or_eq_true, Bool.and_eq_true] at h3
  rcases h3 with h3 | h3
  · exact begS_tok hG (hG.s0 r hm) h3
  · exact followS_tok hG h3.2
theorem lstT_hasL {S : Int → Bool} (h : S (-1) = false) {t : Int} (h0 : -1 ≤ t) (h1 : t ≤ 3) : hasN (lstT S) t = S t := by
  by_cases e : t = -1
  · subst e
    rw [h, hasN_dec, decide_eq_false_iff_not, lstT_mem]
    rintro ⟨⟨h2, _⟩, _⟩
    omega
  · exact lstT_has S ⟨by omega, h1⟩
theorem lstT_hasE {S : Int → Bool} : hasN (lstT S) (-1) = false := by
  rw [hasN_dec, decide_eq_false_iff_not, lstT_mem]
  rintro ⟨⟨h2, _⟩, _⟩
  omega
theorem l14Choices (g : GrammarT) (hG : OkG g) : Pure Try.prog 52 [.ag (grammarC g)] (.im 3 (nodes (choicesS g))) := by
  have hlen := hG.len
  have hn1 := hG.n1
  have hn0 := hG.n0
  have ht0 := hG.t0
  have ht1 := hG.t1
  obtain ⟨n, hn⟩ : ∃ n : Nat, (n : Int) = g.1 := ⟨g.1.toNat, by omega⟩
  have hgn : g.1 = (n : Int) := hn.symm
  have cf := l14Follows g hG n hn
  obtain ⟨V, hV⟩ : ∃ V, V = choicesS g := ⟨_, rfl⟩
  have hVs := choicesS_sort g
  have hVm := choicesS_mem g
  rw [← hV] at hVs hVm ⊢
  refine Pure.mk (rs := [.tmp 2]) (nt := 86) Try.func52 (by kernel_rfl) rfl rfl rfl (by simp) ?_
  simp only [sl, grammarC]
  refine wkc (@grammarC.eq_1) _ ?_
  refine GS.fnn [] (cf) rfl rfl rfl rfl (by simp [go_sem, List.take_of_length_le, ren, ren1, ren2, okr, okr1, okr2, ChkN, BlkN, List.range_succ, nf, grammarC] <;> with_reducible rfl) (by simp [go_sem, List.take_of_length_le, ren, ren1, ren2, okr, okr1, okr2, ChkN, BlkN, List.range_succ, nf, grammarC]) (by simp [go_sem, List.take_of_length_le, ren, ren1, ren2, okr, okr1, okr2, ChkN, BlkN, List.range_succ, nf, grammarC]) (by simp [List.range_succ, lb]) (ChkN.toB (by simp [go_sem, List.take_of_length_le, ren, ren1, ren2, okr, okr1, okr2, ChkN, BlkN, List.range_succ, nf, grammarC])) (by decide) (by simp) rfl (.nfr (by simp) (.nfr (by simp) .nil)) (by simp [go_sem, List.take_of_length_le, ren, ren1, ren2, okr, okr1, okr2, ChkN, BlkN, List.range_succ, nf, grammarC] <;> with_reducible rfl) ?_
  refine wkc0 _ ?_
  have h00 : ∀ c : ChT, c ∈ ([] : List ChT) ↔ okC g c ∧ c.1 < ((0 : Nat) : Int) := fun c => by
    constructor
    · intro h; cases h
    · intro h; have := (okC_rng hG h.1).1.1; have := h.2; omega
  refine Holds.niw 5 85 3 rfl ?_
  refine Holds.loop (ι := Nat × List ChT) (fun i => ⟨[(1, .pb 0 3 0 0), (3, .own 1 1 0 n), (4, .own 2 1 0 n), (5, .own 3 3 0 i.2.length), (6, .v (.int .i64 i.1))], [(3, ⟨85, 3, nodes i.2⟩), (1, ⟨25, 1, intss (rowsT n (followS g))⟩), (2, ⟨4, 1, lastR n (followS g)⟩), (0, ⟨31, 3, [grammarC g]⟩)], 4⟩)
    (fun i => i.1 ≤ n ∧ SortC i.2 ∧ (∀ c, c ∈ i.2 ↔ okC g c ∧ c.1 < (i.1 : Int)) ∧ i.2.length ≤ 80 * i.1) (fun i => n - i.1) (0, []) ⟨Nat.zero_le _, List.Pairwise.nil, h00, by simp⟩ ?_ ?_
  · exact Cov.ofn (id) rfl (by simp [go_sem, List.take_of_length_le, ren, ren1, ren2, okr, okr1, okr2, ChkT, ChkN, BlkN, nf, grammarC, niw, nodes]) (by simp [go_sem, List.take_of_length_le, ren, ren1, ren2, okr, okr1, okr2, ChkT, ChkN, BlkN, nf, grammarC, niw, nodes])
  rintro ⟨k, L⟩ ⟨hk, hLs, hLm, hLl⟩
  dsimp only at hk hLs hLm hLl ⊢
  have stepk : wr64 ((k : Int) + 1) = ((k + 1 : Nat) : Int) := wr64_id (by omega) (by omega)
  refine wkc (And.intro @grammarC.eq_1 (@hgn)) _ ?_
  refine Holds.cond rfl (fun h => ?_) (fun h => ?_)
  · have hkn : k < n := by simp at h; omega
    refine wkc0 _ ?_
    refine Holds.loop (ι := Nat × List ChT) (fun i => ⟨[(1, .pb 0 3 0 0), (3, .own 1 1 0 n), (4, .own 2 1 0 n), (5, .own 3 3 0 i.2.length), (6, .v (.int .i64 k)), (7, .v (.int .i64 ((i.1 : Int) - 1)))], [(3, ⟨85, 3, nodes i.2⟩), (1, ⟨25, 1, intss (rowsT n (followS g))⟩), (2, ⟨4, 1, lastR n (followS g)⟩), (0, ⟨31, 3, [grammarC g]⟩)], 4⟩)
      (fun i => (i.1 : Int) - 1 ≤ g.2.1 ∧ SortC i.2 ∧ (∀ c, c ∈ i.2 ↔ okC g c ∧ (c.1 < (k : Int) ∨ (c.1 = (k : Int) ∧ c.2.1 < (i.1 : Int) - 1))) ∧ i.2.length ≤ 80 * k + 16 * i.1) (fun i => 10 - i.1) (0, L) ⟨by dsimp only; omega, hLs, fun c => (hLm c).trans ⟨fun h => ⟨h.1, .inl h.2⟩, fun h => ⟨h.1, by
        rcases h.2 with h2 | h2
        · exact h2
        · have := (okC_rng hG h.1).2.1; have := h2.2; dsimp only at this; omega⟩⟩, by dsimp only; omega⟩ ?_ ?_
    · exact Cov.ofn (id) rfl (by simp [go_sem, List.take_of_length_le, ren, ren1, ren2, okr, okr1, okr2, ChkT, ChkN, BlkN, nf, grammarC, hgn]) (by simp [go_sem, List.take_of_length_le, ren, ren1, ren2, okr, okr1, okr2, ChkT, ChkN, BlkN, nf, grammarC, hgn])
    clear hLs hLm hLl
    rintro ⟨u, L⟩ ⟨hu, hLs, hLm, hLl⟩
    dsimp only at hu hLs hLm hLl ⊢
    obtain ⟨t, ht⟩ : ∃ t : Int, t = (u : Int) - 1 := ⟨_, rfl⟩
    rw [← ht] at hu hLm ⊢
    have stepu : wr64 (t + 1) = ((u + 1 : Nat) : Int) - 1 := by rw [wr64_id (by omega) (by omega)]; omega
    refine wkc (@grammarC.eq_1) _ ?_
    refine Holds.cond rfl (fun h => ?_) (fun h => ?_)
    · have htT : t < g.2.1 := by simp at h; omega
      have cr := l1Rules g k hlen
      have hRi : (rulesOf g k).Pairwise (· < ·) := idxs_incr _ _ _
      have hRm : ∀ z, z ∈ rulesOf g k ↔ _ := fun z => rulesOf_iff (g := g) (non := k) (z := z)
      have hRl := rulesOf_len g k
      generalize rulesOf g k = R at cr hRi hRm hRl
      refine wkc (@grammarC.eq_1) _ ?_
      refine GS.cc (cr) rfl rfl rfl rfl (by simp [go_sem, List.take_of_length_le, grammarC] <;> with_reducible rfl) rfl (by simp [go_sem, List.take_of_length_le, grammarC]) ?_
      refine wkc0 _ ?_
      refine Holds.loop (ι := Nat × List ChT) (fun i => ⟨[(1, .pb 0 3 0 0), (3, .own 1 1 0 n), (4, .own 2 1 0 n), (5, .own 3 3 0 i.2.length), (6, .v (.int .i64 k)), (7, .v (.int .i64 t)), (32, .im 1 (ints R)), (33, .v (.int .i64 R.length)), (34, .v (.int .i64 i.1))], [(3, ⟨85, 3, nodes i.2⟩), (1, ⟨25, 1, intss (rowsT n (followS g))⟩), (2, ⟨4, 1, lastR n (followS g)⟩), (0, ⟨31, 3, [grammarC g]⟩)], 4⟩)
        (fun i => i.1 ≤ R.length ∧ SortC i.2 ∧ (∀ c, c ∈ i.2 ↔ okC g c ∧ (c.1 < (k : Int) ∨ (c.1 = (k : Int) ∧ (c.2.1 < t ∨ (c.2.1 = t ∧ c.2.2 ∈ R.take i.1))))) ∧ i.2.length ≤ 80 * k + 16 * u + i.1) (fun i => R.length - i.1) (0, L) ⟨Nat.zero_le _, hLs, fun c => (hLm c).trans (by simp), by dsimp only; omega⟩ ?_ ?_
      · exact Cov.ofn (id) rfl (by simp [go_sem, List.take_of_length_le, ren, ren1, ren2, okr, okr1, okr2, ChkT, ChkN, BlkN, nf, grammarC, hgn]) (by simp [go_sem, List.take_of_length_le, ren, ren1, ren2, okr, okr1, okr2, ChkT, ChkN, BlkN, nf, grammarC, hgn])
      clear hLs hLm hLl
      rintro ⟨j, L⟩ ⟨hj, hLs, hLm, hLl⟩
      dsimp only at hj hLs hLm hLl ⊢
      have stepj : wr64 ((j : Int) + 1) = ((j + 1 : Nat) : Int) := wr64_id (by omega) (by omega)
      refine wkc0 _ ?_
      refine Holds.cond rfl (fun h => ?_) (fun h => ?_)
      · have hlj : j < R.length := by simp at h; omega
        have hzj : R[j]? = some R[j] := List.getElem?_eq_getElem hlj
        have hzm := (hRm _).1 (List.getElem_mem hlj)
        have hzt : ∀ y ∈ R.take j, y < R[j] := fun y hy => by
          obtain ⟨i, hi⟩ := List.mem_iff_getElem?.1 hy
          have hij : i < j := by
            have := (List.getElem?_eq_some_iff.1 hi).1
            rw [List.length_take] at this; omega
          rw [List.getElem?_take_of_lt hij] at hi
          obtain ⟨h1, h2⟩ := List.getElem?_eq_some_iff.1 hi
          rw [← h2]
          exact List.pairwise_iff_getElem.1 hRi i j h1 hlj hij
        generalize R[j] = z at hzj hzm hzt
        obtain ⟨i, r, rfl, hr, hrk⟩ := hzm
        have hil : i < g.2.2.length := (List.getElem?_eq_some_iff.1 hr).1
        have hm := List.mem_of_getElem? hr
        have hr4 := hG.r4 r hm
        have hs0 := hG.s0 r hm
        have hs1 := hG.s1 r hm
        have cn := l14Null g hG r.2 hr4 hs1
        have cb := l14Begins g hG r.2 hr4 hs1 (fun x hx => by have := hs0 x hx; omega)
        have hbl := lstT_len (begS g r.2)
        have hS1 : begS g r.2 (-1) = false := by
          cases hb : begS g r.2 (-1) with
          | false => rfl
          | true => have := begS_univ hG (l := r.2) (fun x hx => by have := hs0 x hx; omega) hb; omega
        have ch := l1Has (lstT (begS g r.2)) t (by omega)
        rw [lstT_hasL hS1 (by omega) (by omega)] at ch
        have hrow := rowsT_at (followS g) hkn
        have hlr := lastR_at (followS g) hkn
        have hwl := lstT_len fun u => followS g ((k : Int), u)
        have ch2 := l1Has (lstT fun u => followS g ((k : Int), u)) t (by omega)
        have hw2 : hasN (lstT fun u => followS g ((k : Int), u)) t = (decide (0 ≤ t) && followS g ((k : Int), t)) := by
          by_cases e : t = -1
          · rw [e, lstT_hasE]; simp
          · have : 0 ≤ t := by omega
            rw [lstT_has _ ⟨this, by omega⟩]; simp [this]
        rw [hw2] at ch2
        obtain ⟨b, hb⟩ : ∃ b, b = isC g r t := ⟨_, rfl⟩
        have hbd : b = (begS g r.2 t || (nullS g r.2 && followS g ((k : Int), t))) := by rw [hb, isC, hrk]
        have hbs : 80 * k + 16 * u + j ≤ 600 := by omega
        have hstep : b = false → ∀ c, c ∈ L ↔ okC g c ∧ (c.1 < (k : Int) ∨ (c.1 = (k : Int) ∧ (c.2.1 < t ∨ (c.2.1 = t ∧ c.2.2 ∈ R.take (j + 1))))) := fun hf c => by
          rw [hLm c, List.take_add_one, hzj]
          constructor
          · rintro ⟨h1, h2⟩
            refine ⟨h1, h2.imp id fun h => ⟨h.1, h.2.imp id fun h => ⟨h.1, List.mem_append.2 (.inl h.2)⟩⟩⟩
          · rintro ⟨h1, h2⟩
            refine ⟨h1, ?_⟩
            rcases h2 with h2 | ⟨h2, h3 | ⟨h3, h4⟩⟩
            · exact .inl h2
            · exact .inr ⟨h2, .inl h3⟩
            · rcases List.mem_append.1 h4 with h4 | h4
              · exact .inr ⟨h2, .inr ⟨h3, h4⟩⟩
              · rw [Option.toList_some, List.mem_singleton] at h4
                obtain ⟨i', r', e1, e2, e3, e4, e5⟩ := h1
                have : i' = i := by omega
                subst this
                rw [hr] at e2; cases e2
                rw [h3, ← hb, hf] at e5; cases e5
        have hstep2 : b = true → SortC (L ++ [((k : Int), t, (i : Int))]) ∧ ∀ c, c ∈ L ++ [((k : Int), t, (i : Int))] ↔ okC g c ∧ (c.1 < (k : Int) ∨ (c.1 = (k : Int) ∧ (c.2.1 < t ∨ (c.2.1 = t ∧ c.2.2 ∈ R.take (j + 1))))) := fun hf => by
          refine ⟨List.pairwise_append.2 ⟨hLs, List.pairwise_singleton _ _, fun c hc d hd => ?_⟩, fun c => ?_⟩
          · rw [List.mem_singleton] at hd
            subst hd
            rw [lessC_iff]
            rcases ((hLm c).1 hc).2 with h2 | ⟨h2, h3 | ⟨h3, h4⟩⟩
            · exact .inl h2
            · exact .inr ⟨h2, .inl h3⟩
            · exact .inr ⟨h2, .inr ⟨h3, hzt _ h4⟩⟩
          · rw [List.mem_append, hLm c, List.take_add_one, hzj, List.mem_singleton]
            constructor
            · rintro (⟨h1, h2⟩ | rfl)
              · exact ⟨h1, h2.imp id fun h => ⟨h.1, h.2.imp id fun h => ⟨h.1, List.mem_append.2 (.inl h.2)⟩⟩⟩
              · exact ⟨⟨i, r, rfl, hr, hrk.symm, ⟨by show -1 ≤ t; omega, by show t ≤ 3; omega⟩, by rw [← hb]; exact hf⟩, .inr ⟨rfl, .inr ⟨rfl, List.mem_append.2 (.inr (by simp))⟩⟩⟩
            · rintro ⟨h1, h2⟩
              rcases h2 with h2 | ⟨h2, h3 | ⟨h3, h4⟩⟩
              · exact .inl ⟨h1, .inl h2⟩
              · exact .inl ⟨h1, .inr ⟨h2, .inl h3⟩⟩
              · rcases List.mem_append.1 h4 with h4 | h4
                · exact .inl ⟨h1, .inr ⟨h2, .inr ⟨h3, h4⟩⟩⟩
                · rw [Option.toList_some, List.mem_singleton] at h4
                  right
                  obtain ⟨c1, c2, c3⟩ := c
                  dsimp only at h2 h3 h4
                  rw [h2, h3, h4]
        clear hb
        have hbb : (L.length + 1) * 24 ≤ 140737488355328 := by omega
        refine wkc (And.intro (@get_E _ _ _ _ hzj) (And.intro @hzj (And.intro @hlj (And.intro @hil (And.intro @hr (And.intro (@get_E _ _ _ _ hr) (And.intro @ruleC.eq_1 (@grammarC.eq_1)))))))) _ ?_
        refine GS.cc (cn) rfl rfl rfl rfl (by simp [go_sem, List.take_of_length_le, grammarC] <;> with_reducible rfl) rfl (by simp [go_sem, List.take_of_length_le, grammarC]) ?_
        refine wkc (@grammarC.eq_1) _ ?_
        refine GS.cc (cb) rfl rfl rfl rfl (by simp [go_sem, List.take_of_length_le, grammarC] <;> with_reducible rfl) rfl (by simp [go_sem, List.take_of_length_le, grammarC]) ?_
        refine wkc0 _ ?_
        refine GS.cc (ch) rfl rfl rfl rfl (by simp [go_sem, List.take_of_length_le] <;> with_reducible rfl) rfl (by simp [go_sem, List.take_of_length_le]) ?_
        cases hs : begS g r.2 t with
        | true =>
          rw [hs, Bool.true_or] at hbd
          refine wkc (@hbb) _ ?_
          refine ⟨(j + 1, L ++ [((k : Int), t, (i : Int))]), ⟨by dsimp only; omega, (hstep2 hbd).1, (hstep2 hbd).2, by dsimp only; rw [List.length_append, List.length_singleton]; omega⟩, by dsimp only; omega, ?_⟩
          dsimp only
          rw [stepj]
          exact Cov.ofn (nm [0, 1, 2, 6]) rfl (by simp [go_sem, List.take_of_length_le, ren, ren1, ren2, okr, okr1, okr2, ChkT, ChkN, BlkN, nf, grammarC, hgn, nodes_snocA]) (by simp [go_sem, List.take_of_length_le, ren, ren1, ren2, okr, okr1, okr2, ChkT, ChkN, BlkN, nf, grammarC, hgn, nodes_snocA])
        | false =>
          rw [hs, Bool.false_or] at hbd
          cases he : nullS g r.2 with
          | false =>
            rw [he, Bool.false_and] at hbd
            refine wkc0 _ ?_
            refine ⟨(j + 1, L), ⟨by dsimp only; omega, hLs, hstep hbd, by dsimp only; omega⟩, by dsimp only; omega, ?_⟩
            dsimp only
            rw [stepj]
            exact Cov.ofn (id) rfl (by simp [go_sem, List.take_of_length_le, ren, ren1, ren2, okr, okr1, okr2, ChkT, ChkN, BlkN, nf, grammarC, hgn]) (by simp [go_sem, List.take_of_length_le, ren, ren1, ren2, okr, okr1, okr2, ChkT, ChkN, BlkN, nf, grammarC, hgn])
          | true =>
            rw [he, Bool.true_and] at hbd
            generalize (lstT fun u => followS g ((k : Int), u)) = R2 at hrow hwl ch2
            by_cases e1 : t = -1
            · have hlt : t < 0 := by omega
              have h0t : ¬ 0 ≤ t := by omega
              rw [decide_eq_false h0t, Bool.false_and] at ch2
              rw [← e1] at hlr
              refine wkc (And.intro @hkn (And.intro @hrow (And.intro (@get_E _ _ _ _ hrow) (@intsC.eq_1)))) _ ?_
              refine GS.cc (ch2) rfl rfl rfl rfl (by simp [go_sem, List.take_of_length_le] <;> with_reducible rfl) rfl (by simp [go_sem, List.take_of_length_le]) ?_
              cases hw : followS g ((k : Int), t) with
              | true =>
                rw [hw] at hbd hlr
                refine wkc (And.intro @hlt (And.intro @hkn (And.intro @hlr (@get_E _ _ _ _ hlr)))) _ ?_
                refine wkc (@hbb) _ ?_
                refine ⟨(j + 1, L ++ [((k : Int), t, (i : Int))]), ⟨by dsimp only; omega, (hstep2 hbd).1, (hstep2 hbd).2, by dsimp only; rw [List.length_append, List.length_singleton]; omega⟩, by dsimp only; omega, ?_⟩
                dsimp only
                rw [stepj]
                exact Cov.ofn (nm [0, 1, 2, 6]) rfl (by simp [go_sem, List.take_of_length_le, ren, ren1, ren2, okr, okr1, okr2, ChkT, ChkN, BlkN, nf, grammarC, hgn, nodes_snocA]) (by simp [go_sem, List.take_of_length_le, ren, ren1, ren2, okr, okr1, okr2, ChkT, ChkN, BlkN, nf, grammarC, hgn, nodes_snocA])
              | false =>
                rw [hw] at hbd hlr
                refine wkc (And.intro @hlt (And.intro @hkn (And.intro @hlr (@get_E _ _ _ _ hlr)))) _ ?_
                refine wkc0 _ ?_
                refine ⟨(j + 1, L), ⟨by dsimp only; omega, hLs, hstep hbd, by dsimp only; omega⟩, by dsimp only; omega, ?_⟩
                dsimp only
                rw [stepj]
                exact Cov.ofn (id) rfl (by simp [go_sem, List.take_of_length_le, ren, ren1, ren2, okr, okr1, okr2, ChkT, ChkN, BlkN, nf, grammarC, hgn]) (by simp [go_sem, List.take_of_length_le, ren, ren1, ren2, okr, okr1, okr2, ChkT, ChkN, BlkN, nf, grammarC, hgn])
            · have hlt : ¬ t < 0 := by omega
              have h0t : 0 ≤ t := by omega
              rw [decide_eq_true h0t, Bool.true_and] at ch2
              refine wkc (And.intro @hkn (And.intro @hrow (And.intro (@get_E _ _ _ _ hrow) (@intsC.eq_1)))) _ ?_
              refine GS.cc (ch2) rfl rfl rfl rfl (by simp [go_sem, List.take_of_length_le] <;> with_reducible rfl) rfl (by simp [go_sem, List.take_of_length_le]) ?_
              cases hw : followS g ((k : Int), t) with
              | true =>
                rw [hw] at hbd
                refine wkc (@hbb) _ ?_
                refine ⟨(j + 1, L ++ [((k : Int), t, (i : Int))]), ⟨by dsimp only; omega, (hstep2 hbd).1, (hstep2 hbd).2, by dsimp only; rw [List.length_append, List.length_singleton]; omega⟩, by dsimp only; omega, ?_⟩
                dsimp only
                rw [stepj]
                exact Cov.ofn (nm [0, 1, 2, 6]) rfl (by simp [go_sem, List.take_of_length_le, ren, ren1, ren2, okr, okr1, okr2, ChkT, ChkN, BlkN, nf, grammarC, hgn, nodes_snocA]) (by simp [go_sem, List.take_of_length_le, ren, ren1, ren2, okr, okr1, okr2, ChkT, ChkN, BlkN, nf, grammarC, hgn, nodes_snocA])
              | false =>
                rw [hw] at hbd
                refine wkc (@hlt) _ ?_
                refine wkc0 _ ?_
                refine ⟨(j + 1, L), ⟨by dsimp only; omega, hLs, hstep hbd, by dsimp only; omega⟩, by dsimp only; omega, ?_⟩
                dsimp only
                rw [stepj]
                exact Cov.ofn (id) rfl (by simp [go_sem, List.take_of_length_le, ren, ren1, ren2, okr, okr1, okr2, ChkT, ChkN, BlkN, nf, grammarC, hgn]) (by simp [go_sem, List.take_of_length_le, ren, ren1, ren2, okr, okr1, okr2, ChkT, ChkN, BlkN, nf, grammarC, hgn])
      · have hje : j = R.length := by simp at h; omega
        subst hje
        rw [List.take_length] at hLm
        refine wkc0 _ ?_
        refine ⟨(u + 1, L), ⟨by dsimp only; omega, hLs, fun c => ?_, by dsimp only; omega⟩, by dsimp only; omega, ?_⟩
        · dsimp only
          rw [hLm c]
          constructor
          · rintro ⟨h1, h2⟩
            refine ⟨h1, h2.imp id fun h => ⟨h.1, ?_⟩⟩
            rcases h.2 with h3 | h3
            · omega
            · have := h3.1; omega
          · rintro ⟨h1, h2⟩
            refine ⟨h1, h2.imp id fun h => ⟨h.1, ?_⟩⟩
            by_cases e : c.2.1 = t
            · obtain ⟨i, r, e1, e2, e3, _⟩ := h1
              exact .inr ⟨e, (hRm _).2 ⟨i, r, e1, e2, by rw [← e3]; exact h.1⟩⟩
            · have := h.2; exact .inl (by omega)
        dsimp only
        rw [stepu]
        exact Cov.ofn (id) rfl (by simp [go_sem, List.take_of_length_le, ren, ren1, ren2, okr, okr1, okr2, ChkT, ChkN, BlkN, nf, grammarC, hgn]) (by simp [go_sem, List.take_of_length_le, ren, ren1, ren2, okr, okr1, okr2, ChkT, ChkN, BlkN, nf, grammarC, hgn])
    · have htT : t = g.2.1 := by simp at h; omega
      refine wkc0 _ ?_
      refine ⟨(k + 1, L), ⟨by dsimp only; omega, hLs, fun c => ?_, by dsimp only; omega⟩, by dsimp only; omega, ?_⟩
      · dsimp only
        rw [hLm c]
        constructor
        · rintro ⟨h1, h2⟩
          exact ⟨h1, by omega⟩
        · rintro ⟨h1, h2⟩
          have := (okC_rng hG h1).2.2
          exact ⟨h1, by
            by_cases e : c.1 = (k : Int)
            · exact .inr ⟨e, by omega⟩
            · exact .inl (by omega)⟩
      rw [stepk]
      exact Cov.ofn (id) rfl (by simp [go_sem, List.take_of_length_le, ren, ren1, ren2, okr, okr1, okr2, ChkT, ChkN, BlkN, nf, grammarC, hgn]) (by simp [go_sem, List.take_of_length_le, ren, ren1, ren2, okr, okr1, okr2, ChkT, ChkN, BlkN, nf, grammarC, hgn])
  · have hke : k = n := by simp at h; omega
    subst hke
    have e : L = V := sortC_ext hLs hVs fun c => by
      rw [hLm c, hVm c]
      exact ⟨fun h => h.1, fun h => ⟨h, by have := (okC_rng hG h).1.2; omega⟩⟩
    rw [← e]
    refine wkc0 _ ?_
    refine Out.mk (xs := ?_) ?_ ?_ (by first | exact .inr rfl | exact .inl rfl)
    rotate_left
    · simp [go_sem, List.take_of_length_le] <;> with_reducible rfl
    exact Fz.all rfl rfl (by simp) rfl (nodes_ok _)
end Go.Proofs.Ytenienncgjanpaa.En
end
section
namespace Go.Proofs.Ytenienncgjanpaa.En
open Go.RowKit
set_option linter.unusedSimpArgs false
set_option linter.unusedVariables false
set_option maxHeartbeats 4000000
theorem eqChoice (a b : Node3) : Pure Try.prog 55 [.ag (nodeC a), .ag (nodeC b)] (.v (.bool (decide (a = b)))) := by
  refine Pure.mk (rs := [.tmp 4]) (nt := 20) Try.func55 rfl rfl rfl rfl (by simp) ?_
  simp only [sl, nodeC]
  refine wk0 _ ?_
  refine Holds.cond rfl (fun hl => ?_) (fun h1 => ?_)
  · have : ¬ a = b := by rintro rfl; simp at hl
    simp only [this, decide_false]
    refine wk0 _ ?_
    refine Out.mk (xs := ?_) ?_ ?_ (by first | exact .inr rfl | exact .inl rfl)
    rotate_left
    · simp [go_sem, List.take_of_length_le] <;> with_reducible rfl
    exact .v _
  refine wk0 _ ?_
  refine Holds.cond rfl (fun hl => ?_) (fun h2 => ?_)
  · have : ¬ a = b := by rintro rfl; simp at hl
    simp only [this, decide_false]
    refine wk0 _ ?_
    refine Out.mk (xs := ?_) ?_ ?_ (by first | exact .inr rfl | exact .inl rfl)
    rotate_left
    · simp [go_sem, List.take_of_length_le] <;> with_reducible rfl
    exact .v _
  refine wk0 _ ?_
  refine Holds.cond rfl (fun hl => ?_) (fun h3 => ?_)
  · have : ¬ a = b := by rintro rfl; simp at hl
    simp only [this, decide_false]
    refine wk0 _ ?_
    refine Out.mk (xs := ?_) ?_ ?_ (by first | exact .inr rfl | exact .inl rfl)
    rotate_left
    · simp [go_sem, List.take_of_length_le] <;> with_reducible rfl
    exact .v _
  have : a = b := by
    obtain ⟨a1, a2, a3⟩ := a
    obtain ⟨b1, b2, b3⟩ := b
    simp at h1 h2 h3
    simp [h1, h2, h3]
  simp only [this, decide_true]
  refine wk0 _ ?_
  refine Out.mk (xs := ?_) ?_ ?_ (by first | exact .inr rfl | exact .inl rfl)
  rotate_left
  · simp [go_sem, List.take_of_length_le] <;> with_reducible rfl
  exact .v _

theorem eqChoiceS (xs ys : List Node3) (hx : xs.length < 4611686018427387904) : Pure Try.prog 25 [.im 3 (nodes xs), .im 3 (nodes ys)] (.v (.bool (decide (xs = ys)))) := by
  refine Pure.mk (rs := [.tmp 4]) (nt := 27) Try.func25 rfl rfl rfl rfl (by simp) ?_
  simp only [sl]
  refine wkd0 _ ?_
  refine Holds.cond rfl (fun hl => ?_) (fun hl => ?_)
  · have : ¬ xs = ys := by rintro rfl; simp at hl
    simp only [this, decide_false]
    refine wkd0 _ ?_
    refine Out.mk (xs := ?_) ?_ ?_ (by first | exact .inr rfl | exact .inl rfl)
    rotate_left
    · simp [go_sem, List.take_of_length_le] <;> with_reducible rfl
    exact .v _
  · have hlen : xs.length = ys.length := by
      have : (xs.length : Int) = ys.length := by simpa using hl
      omega
    refine wkd0 _ ?_
    refine Holds.loop (ι := Nat) (fun i => ⟨[(0, .im 3 (nodes xs)), (1, .im 3 (nodes ys)), (5, .v (.int .i64 i))], [], 0⟩) (fun i => i ≤ xs.length ∧ xs.take i = ys.take i) (fun i => xs.length - i) 0 ⟨Nat.zero_le _, rfl⟩ ?_ ?_
    · exact Cov.of id (by simp [ChkT, okr, okr1, lk, ren, ren1]) (by simp [ChkB])
    rintro i ⟨hi, htk⟩
    refine wkd0 _ ?_
    refine Holds.cond rfl (fun hl => ?_) (fun hl => ?_)
    · have hlt : i < xs.length := by simpa using hl
      have hxi : xs[i]? = some xs[i] := List.getElem?_eq_getElem hlt
      have hyi : ys[i]? = some ys[i] := List.getElem?_eq_getElem (by omega)
      refine wkd (And.intro @hxi (And.intro @hyi (@nodeC.eq_1))) _ ?_
      first | refine GS.cc (eqChoice xs[i] ys[i]) rfl rfl rfl rfl (by simp [go_sem, List.take_of_length_le, nodeC] <;> with_reducible rfl) rfl (by simp [go_sem, List.take_of_length_le, nodeC]) ?_ | refine Gd.cc (eqChoice xs[i] ys[i]) rfl rfl rfl rfl (by simp [go_sem, List.take_of_length_le, nodeC] <;> with_reducible rfl) rfl (by simp [go_sem, List.take_of_length_le, nodeC]) ?_
      refine wkd0 _ ?_
      refine Holds.cond rfl (fun hl => ?_) (fun hl => ?_)
      · have hne : ¬ xs = ys := ne_at hxi hyi (by simpa using hl)
        simp only [hne, decide_false]
        refine wkd0 _ ?_
        refine Out.mk (xs := ?_) ?_ ?_ (by first | exact .inr rfl | exact .inl rfl)
        rotate_left
        · simp [go_sem, List.take_of_length_le] <;> with_reducible rfl
        exact .v _
      · have he : xs[i] = ys[i] := by simpa using hl
        refine wkd0 _ ?_
        refine ⟨i + 1, ⟨by omega, (take_next hxi hyi htk).2 he⟩, by omega, ?_⟩
        rw [wr64_id (by omega) (by omega)]
        exact Cov.of id (by simp [ChkT, okr, okr1, lk, ren, ren1]) (by simp [ChkB])
    · have hle : i = xs.length := by
        have : ¬ i < xs.length := by simpa using hl
        omega
      have he : xs = ys := by
        subst hle
        rw [List.take_length, hlen, List.take_length] at htk
        exact htk
      simp only [he, decide_true]
      refine wkd0 _ ?_
      refine Out.mk (xs := ?_) ?_ ?_ (by first | exact .inr rfl | exact .inl rfl)
      rotate_left
      · simp [go_sem, List.take_of_length_le] <;> with_reducible rfl
      exact .v _

theorem markChoiceS (l : List (Node3)) (k : Int) (h0 : 0 ≤ k) (h1 : k + wtL wNode l ≤ 4611686018427387904) (h2 : l.length ≤ 4611686018427387904) : Fn Try.prog 26 1 [.own 0 3 0 l.length, .v (.int .i64 k)] [(0, ⟨85, 3, nodes l⟩)] (.v (.int .i64 (k + wtL wNode l))) 1 [(0, ⟨85, 3, nodes (mkL wNode mNode k l)⟩)] := by
  have hl0 : (nodes (mkL wNode mNode k l)).length = (nodes l).length := by simp
  have hl1 : (nodes l).length = l.length := by simp
  refine Fn.mk (rs := [.tmp 4]) (nt := 34) Try.func26 (by kernel_rfl) rfl rfl rfl (by simp) ?_
  simp only [sl]
  refine wk0 _ ?_
  refine Holds.loop (ι := Nat) (fun i => ⟨[(0, .own 0 3 0 l.length), (1, .v (.int .i64 (k + wtL wNode (l.take i)))), (5, .v (.int .i64 i))], [(0, ⟨85, 3, mid (nodes (mkL wNode mNode k l)) (nodes l) i⟩)], 1⟩) (fun i => i ≤ l.length) (fun i => l.length - i) 0 (Nat.zero_le _) ?_ ?_
  · exact Cov.ofn (id) rfl (by simp [go_sem, List.take_of_length_le, ren, ren1, ren2, okr, okr1, okr2, ChkT, ChkN, BlkN, nf, wtL]) (by simp [go_sem, List.take_of_length_le, ren, ren1, ren2, okr, okr1, okr2, ChkT, ChkN, BlkN, nf, wtL])
  intro i hi
  have hml := (mid_len (i := i) hl0).trans hl1
  refine wk (@hml) _ ?_
  refine Holds.cond rfl (fun hl => ?_) (fun hl => ?_)
  · have hlt : i < l.length := by simpa using hl
    have hxi : l[i]? = some l[i] := List.getElem?_eq_getElem hlt
    have hwn := wtL_next wNode hxi
    have hwl := wtL_le wNode l (i + 1)
    have hmk : (mkL wNode mNode k l)[i]? = some (mNode (k + wtL wNode (l.take i)) l[i]) := by rw [mkL_get, hxi]; rfl
    have hhi := (mid_get hl0 (i := i) (by simpa using hlt)).trans (show (nodes l)[i]? = some (nodeC l[i]) by simp [hxi])
    have hhs := mid_set hl0 (i := i) (by simpa using hlt) (show (nodes (mkL wNode mNode k l))[i]? = some (nodeC (mNode (k + wtL wNode (l.take i)) l[i])) by simp [hmk])
    have hnf : nfr (mid (nodes (mkL wNode mNode k l)) (nodes l) i) := nfr_mid (by simp) (by simp)
    have hnf1 : nfr (mid (nodes (mkL wNode mNode k l)) (nodes l) (i + 1)) := nfr_mid (by simp) (by simp)
    have hW0 : (0 : Int) ≤ (wtL wNode (l.take i) : Int) := Int.natCast_nonneg _
    generalize wtL wNode (l.take i) = W at hwn hmk hhs hW0 ⊢
    generalize hX : l[i] = x at hxi hwn hmk hhi hhs
    simp only [wNode] at hwn
    simp only [nodeC, mNode] at hhs
    simp only [nodeC] at hhi
    have hhe := get_E hhi
    have hw0 : wr64 ((k + W : Int) + 1) = (k + W : Int) + 1 := wr64_id (by omega) (by omega)
    have hw1 : wr64 ((k + W : Int) + 1 + 1) = (k + W : Int) + 1 + 1 := wr64_id (by omega) (by omega)
    have hw2 : wr64 ((k + W : Int) + 1 + 1 + 1) = (k + W : Int) + 1 + 1 + 1 := wr64_id (by omega) (by omega)
    refine wk (And.intro @hml (And.intro @hhi (And.intro @hhe (And.intro @hlt (And.intro @hl0 (And.intro @hw0 (And.intro @hw1 (@hw2)))))))) _ ?_
    refine ⟨i + 1, by omega, by omega, ?_⟩
    rw [show wr64 ((i : Int) + 1) = ((i + 1 : Nat) : Int) from wr64_id (by omega) (by omega), hwn]
    exact Cov.ofn (id) rfl (by simp [go_sem, List.take_of_length_le, ren, ren1, ren2, okr, okr1, okr2, ChkT, ChkN, BlkN, nf, hhs, hnf, hnf1, Int.add_assoc]) (by simp [go_sem, List.take_of_length_le, ren, ren1, ren2, okr, okr1, okr2, ChkT, ChkN, BlkN, nf, hhs, hnf, hnf1])
  · have hle : i = l.length := by
      have : ¬ i < l.length := by simpa using hl
      omega
    subst hle
    rw [mid_all (by simp) (by simp), List.take_length]
    refine wk0 _ ?_
    refine OutF.mkn (xs := ?_) (nm [0]) ?_ ?_ ?_ ?_ ?_ (by first | exact .inr rfl | exact .inl rfl)
    rotate_left
    · simp [go_sem, List.take_of_length_le] <;> with_reducible rfl
    · simp [go_sem, List.take_of_length_le, ren, ren1, ren2, okr, okr1, okr2, ChkN, BlkN, List.range_succ, nf]
    · simp [go_sem, List.take_of_length_le, ren, ren1, ren2, okr, okr1, okr2, ChkN, BlkN, List.range_succ, nf]
    · simp [go_sem, List.take_of_length_le, ren, ren1, ren2, okr, okr1, okr2, ChkN, BlkN, List.range_succ, nf]
    · rfl
theorem heldChoiceS (l : List (Node3)) (k : Int) (h0 : 0 ≤ k) (h1 : k + wtL wNode l ≤ 4611686018427387904) (h2 : l.length ≤ 4611686018427387904) : Pure Try.prog 27 [.im 3 (nodes (mkL wNode mNode k l)), .v (.int .i64 k)] (.v (.int .i64 (k + wtL wNode l))) := by
  have hl0 : (nodes (mkL wNode mNode k l)).length = l.length := by simp
  refine Pure.mk (rs := [.tmp 4]) (nt := 40) Try.func27 (by kernel_rfl) rfl rfl rfl (by simp) ?_
  simp only [sl]
  refine wk0 _ ?_
  refine Holds.loop (ι := Nat) (fun i => ⟨[(0, .im 3 (nodes (mkL wNode mNode k l))), (1, .v (.int .i64 (k + wtL wNode (l.take i)))), (5, .v (.int .i64 i))], [], 0⟩) (fun i => i ≤ l.length) (fun i => l.length - i) 0 (Nat.zero_le _) ?_ ?_
  · exact Cov.ofn (id) rfl (by simp [go_sem, List.take_of_length_le, ren, ren1, ren2, okr, okr1, okr2, ChkT, ChkN, BlkN, nf, wtL]) (by simp [go_sem, List.take_of_length_le, ren, ren1, ren2, okr, okr1, okr2, ChkT, ChkN, BlkN, nf, wtL])
  intro i hi
  refine wk (@hl0) _ ?_
  refine Holds.cond rfl (fun hl => ?_) (fun hl => ?_)
  · have hlt : i < l.length := by simpa using hl
    have hxi : l[i]? = some l[i] := List.getElem?_eq_getElem hlt
    have hwn := wtL_next wNode hxi
    have hwl := wtL_le wNode l (i + 1)
    have hhi : (nodes (mkL wNode mNode k l))[i]? = some (nodeC (mNode (k + wtL wNode (l.take i)) l[i])) := by simp [mkL_get, hxi]
    have hW0 : (0 : Int) ≤ (wtL wNode (l.take i) : Int) := Int.natCast_nonneg _
    generalize wtL wNode (l.take i) = W at hwn hhi hW0 ⊢
    generalize hX : l[i] = x at hxi hwn hhi
    simp only [wNode] at hwn
    simp only [nodeC, mNode] at hhi
    have hhe := get_E hhi
    generalize nodes (mkL wNode mNode k l) = rowsM at hhi hhe hl0 ⊢
    refine wk (And.intro @hhi (And.intro @hhe (And.intro @hlt (@hl0)))) _ ?_
    refine Holds.cond rfl (fun hl => absurd hl (by simp)) (fun hl => ?_)
    have hw0 : wr64 ((k + W : Int) + 1) = (k + W : Int) + 1 := wr64_id (by omega) (by omega)
    refine wk (And.intro @hhi (And.intro @hhe (And.intro @hlt (And.intro @hl0 (@hw0))))) _ ?_
    refine Holds.cond rfl (fun hl => absurd hl (by simp)) (fun hl => ?_)
    have hw1 : wr64 ((k + W : Int) + 1 + 1) = (k + W : Int) + 1 + 1 := wr64_id (by omega) (by omega)
    refine wk (And.intro @hhi (And.intro @hhe (And.intro @hlt (And.intro @hl0 (And.intro @hw0 (@hw1)))))) _ ?_
    refine Holds.cond rfl (fun hl => absurd hl (by simp)) (fun hl => ?_)
    have hw2 : wr64 ((k + W : Int) + 1 + 1 + 1) = (k + W : Int) + 1 + 1 + 1 := wr64_id (by omega) (by omega)
    refine wk (And.intro @hhi (And.intro @hhe (And.intro @hlt (And.intro @hl0 (And.intro @hw0 (And.intro @hw1 (@hw2))))))) _ ?_
    refine ⟨i + 1, by omega, by omega, ?_⟩
    rw [show wr64 ((i : Int) + 1) = ((i + 1 : Nat) : Int) from wr64_id (by omega) (by omega), hwn]
    exact Cov.ofn (id) rfl (by simp [go_sem, List.take_of_length_le, ren, ren1, ren2, okr, okr1, okr2, ChkT, ChkN, BlkN, nf, Int.add_assoc]) (by simp [go_sem, List.take_of_length_le, ren, ren1, ren2, okr, okr1, okr2, ChkT, ChkN, BlkN, nf])
  · have hle : i = l.length := by
      have : ¬ i < l.length := by simpa using hl
      omega
    subst hle
    rw [List.take_length]
    refine wk (@hl0) _ ?_
    refine Out.mk (xs := ?_) ?_ ?_ (by first | exact .inr rfl | exact .inl rfl)
    rotate_left
    · simp [go_sem, List.take_of_length_le] <;> with_reducible rfl
    exact .v _
end Go.Proofs.Ytenienncgjanpaa.En
end
section
namespace Go.Proofs.Ytenienncgjanpaa.En
open Go.RowKit
set_option linter.unusedSimpArgs false
set_option linter.unusedVariables false
set_option maxHeartbeats 4000000
theorem wtL_nodesA (l : List Node3) : wtL wNode l = 3 * l.length := by
  induction l with
  | nil => rfl
  | cons x r ih => simp only [wtL, List.map_cons, List.sum_cons, List.length_cons] at ih ⊢; rw [ih]; simp only [wNode]; omega
noncomputable def choicesV (g : GrammarT) : List ChT × Bool := if goodG g = true then (choicesS g, true) else ([], false)
theorem choicesV_b (g : GrammarT) : (choicesV g).1.length ≤ 80 ∧ wtL wNode (choicesV g).1 ≤ 240 := by
  rw [wtL_nodesA]
  unfold choicesV
  split
  · rename_i h
    have h1 := choicesS_len g
    have h2 := (goodG_ok h).len
    dsimp only
    omega
  · simp
theorem specChoices (g : GrammarT) (hx : g.2.2.length < 4611686018427387904) (hs : ∀ e ∈ g.2.2, e.2.length < 4611686018427387904) : Pure Try.prog 23 [.ag (grammarC g)] (.tu [.im 3 (nodes (choicesV g).1), .v (.bool (choicesV g).2)]) := by
  have cg := specGoodG g hx hs
  unfold choicesV
  refine Pure.mk (rs := [.tmp 2, .tmp 3]) (nt := 9) Try.func23 (by kernel_rfl) rfl rfl rfl (by simp) ?_
  simp only [sl, grammarC]
  refine wkc0 _ ?_
  cases hg : goodG g with
  | false =>
    rw [hg] at cg
    simp only [Bool.false_eq_true, if_false]
    refine GS.cc (cg) rfl rfl rfl rfl (by simp [go_sem, List.take_of_length_le, grammarC] <;> with_reducible rfl) rfl (by simp [go_sem, List.take_of_length_le, grammarC]) ?_
    refine wkc0 _ ?_
    refine Out.mk (xs := ?_) ?_ ?_ (by first | exact .inr rfl | exact .inl rfl)
    rotate_left
    · simp [go_sem, List.take_of_length_le] <;> with_reducible rfl
    exact Fz.tuL (.cons (Fz.nl _) (.cons (.v _) .nil))
  | true =>
    rw [hg] at cg
    have hG := goodG_ok hg
    have cc := l14Choices g hG
    simp only [if_true]
    refine GS.cc (cg) rfl rfl rfl rfl (by simp [go_sem, List.take_of_length_le, grammarC] <;> with_reducible rfl) rfl (by simp [go_sem, List.take_of_length_le, grammarC]) ?_
    refine wkc (@grammarC.eq_1) _ ?_
    refine GS.cc (cc) rfl rfl rfl rfl (by simp [go_sem, List.take_of_length_le, grammarC] <;> with_reducible rfl) rfl (by simp [go_sem, List.take_of_length_le, grammarC]) ?_
    refine wkc0 _ ?_
    refine Out.mk (xs := ?_) ?_ ?_ (by first | exact .inr rfl | exact .inl rfl)
    rotate_left
    · simp [go_sem, List.take_of_length_le] <;> with_reducible rfl
    exact Fz.tuL (.cons (.im _ _) (.cons (.v _) .nil))
theorem implChoices (g : GrammarT) (hx : g.2.2.length < 4611686018427387904) (hs : ∀ e ∈ g.2.2, e.2.length < 4611686018427387904) : Fn Try.prog 24 0 [.ag (grammarC g)] [] (.tu [.own 0 3 0 (choicesV g).1.length, .v (.bool (choicesV g).2)]) 1 [(0, ⟨85, 3, nodes (choicesV g).1⟩)] := by
  have cg := implGoodG g hx hs
  unfold choicesV
  refine Fn.mk (rs := [.tmp 2, .tmp 3]) (nt := 9) Try.func24 (by kernel_rfl) rfl rfl rfl (by simp) ?_
  simp only [sl, grammarC]
  refine wkc0 _ ?_
  cases hg : goodG g with
  | false =>
    rw [hg] at cg
    simp only [Bool.false_eq_true, if_false]
    refine GS.cc (cg) rfl rfl rfl rfl (by simp [go_sem, List.take_of_length_le, grammarC] <;> with_reducible rfl) rfl (by simp [go_sem, List.take_of_length_le, grammarC]) ?_
    refine wkc0 _ ?_
    refine OutF.cov (Cov.niw (t := 2) 85 3 rfl) ?_
    refine OutF.mkn (xs := ?_) (nm [1]) ?_ ?_ ?_ ?_ ?_ (by first | exact .inr rfl | exact .inl rfl)
    rotate_left
    · simp [go_sem, List.take_of_length_le, niw, nodes] <;> with_reducible rfl
    · simp [go_sem, List.take_of_length_le, ren, ren1, ren2, okr, okr1, okr2, ChkN, BlkN, List.range_succ, nf, niw, nodes]
    · simp [go_sem, List.take_of_length_le, ren, ren1, ren2, okr, okr1, okr2, ChkN, BlkN, List.range_succ, nf, niw, nodes]
    · simp [go_sem, List.take_of_length_le, ren, ren1, ren2, okr, okr1, okr2, ChkN, BlkN, List.range_succ, nf, niw, nodes]
    · rfl
  | true =>
    rw [hg] at cg
    have hG := goodG_ok hg
    have cc := choicesG g hG
    simp only [if_true]
    refine GS.cc (cg) rfl rfl rfl rfl (by simp [go_sem, List.take_of_length_le, grammarC] <;> with_reducible rfl) rfl (by simp [go_sem, List.take_of_length_le, grammarC]) ?_
    refine wkc (@grammarC.eq_1) _ ?_
    refine GS.fnn [] (cc) rfl rfl rfl rfl (by simp [go_sem, List.take_of_length_le, ren, ren1, ren2, okr, okr1, okr2, ChkN, BlkN, List.range_succ, nf, grammarC] <;> with_reducible rfl) (by simp [go_sem, List.take_of_length_le, ren, ren1, ren2, okr, okr1, okr2, ChkN, BlkN, List.range_succ, nf, grammarC]) (by simp [go_sem, List.take_of_length_le, ren, ren1, ren2, okr, okr1, okr2, ChkN, BlkN, List.range_succ, nf, grammarC]) (by simp [List.range_succ, lb]) (ChkN.toB (by simp [go_sem, List.take_of_length_le, ren, ren1, ren2, okr, okr1, okr2, ChkN, BlkN, List.range_succ, nf, grammarC])) (by decide) (by simp) rfl (.nfr (by simp) .nil) (by simp [go_sem, List.take_of_length_le, ren, ren1, ren2, okr, okr1, okr2, ChkN, BlkN, List.range_succ, nf, grammarC] <;> with_reducible rfl) ?_
    refine wkc0 _ ?_
    refine OutF.mkn (xs := ?_) (nm [1]) ?_ ?_ ?_ ?_ ?_ (by first | exact .inr rfl | exact .inl rfl)
    rotate_left
    · simp [go_sem, List.take_of_length_le] <;> with_reducible rfl
    · simp [go_sem, List.take_of_length_le, ren, ren1, ren2, okr, okr1, okr2, ChkN, BlkN, List.range_succ, nf]
    · simp [go_sem, List.take_of_length_le, ren, ren1, ren2, okr, okr1, okr2, ChkN, BlkN, List.range_succ, nf]
    · simp [go_sem, List.take_of_length_le, ren, ren1, ren2, okr, okr1, okr2, ChkN, BlkN, List.range_succ, nf]
    · rfl
end Go.Proofs.Ytenienncgjanpaa.En
end
section
namespace Go.Proofs.Ytenienncgjanpaa.En
open Go.RowKit
set_option linter.unusedSimpArgs false
set_option linter.unusedVariables false
set_option maxHeartbeats 4000000
end Go.Proofs.Ytenienncgjanpaa.En
end
section
namespace Go.Proofs.Ytenienncgjanpaa.En
open Go.RowKit
set_option linter.unusedSimpArgs false
set_option linter.unusedVariables false
set_option maxHeartbeats 8000000
end Go.Proofs.Ytenienncgjanpaa.En
end
section
namespace Go.Proofs.Ytenienncgjanpaa.En
open Go.RowKit
set_option linter.unusedSimpArgs false
set_option linter.unusedVariables false
set_option maxHeartbeats 8000000
theorem lawChoices (g : GrammarT) (hxg : g.2.2.length < 8796093022208) (hsg : ∀ e ∈ g.2.2, e.2.length < 35184372088832) : Pure Try.prog 6 [.ag (grammarC g)] (.v (.bool true)) := by
  refine Pure.mk (rs := [.tmp 2]) (nt := 96) Try.func6 (by kernel_rfl) rfl rfl rfl (by simp) ?_
  simp only [sl, grammarC]
  have hsg' : ∀ e ∈ g.2.2, e.2.length < 4611686018427387904 := fun e he => by have := hsg e he; omega
  have ctg := toGrammar g hxg hsg
  have ceg := eqGrammar g g hxg hsg
  have cog := toGrammarO g hxg hsg
  have hig := szGrammarF_in (n := 1048576) (x := g) (by omega)
  have czg := szGrammar g 1048576 (by omega) (by omega) hxg hsg
  have p1 := specChoices g (by omega) hsg'
  have p2 := implChoices g (by omega) hsg'
  try simp only [decide_true] at ceg
  have hv := choicesV_b g
  generalize choicesV g = v at p1 p2 hv
  have p3 := p2.pure (r' := .tu [.im 3 (nodes v.1), .v (.bool v.2)]) (Fz.tuL (.cons (Fz.all rfl rfl (by simp) rfl (nodes_ok _)) (.cons (.v _) .nil)))
  refine wkd0 _ ?_
  first | refine GS.cc (czg) rfl rfl rfl rfl (by simp [go_sem, List.take_of_length_le, grammarC] <;> with_reducible rfl) rfl (by simp [go_sem, List.take_of_length_le, grammarC]) ?_ | refine Gd.cc (czg) rfl rfl rfl rfl (by simp [go_sem, List.take_of_length_le, grammarC] <;> with_reducible rfl) rfl (by simp [go_sem, List.take_of_length_le, grammarC]) ?_
  refine wkd0 _ ?_
  refine Holds.cond rfl (fun h => ?_) (fun h => ?_)
  · refine wkd0 _ ?_
    refine Out.mk (xs := ?_) ?_ ?_ (by first | exact .inr rfl | exact .inl rfl)
    rotate_left
    · simp [go_sem, List.take_of_length_le] <;> with_reducible rfl
    exact .v _
  have hqg := szGrammar_wt (show 0 ≤ szGrammarF (1048576) g by simp at h; omega)
  refine wkd (@grammarC.eq_1) _ ?_
  first | refine GS.cc (ctg) rfl rfl rfl rfl (by simp [go_sem, List.take_of_length_le, grammarC] <;> with_reducible rfl) rfl (by simp [go_sem, List.take_of_length_le, grammarC]) ?_ | refine Gd.cc (ctg) rfl rfl rfl rfl (by simp [go_sem, List.take_of_length_le, grammarC] <;> with_reducible rfl) rfl (by simp [go_sem, List.take_of_length_le, grammarC]) ?_
  refine wkd (@grammarC.eq_1) _ ?_
  first | refine GS.cc (p1) rfl rfl rfl rfl (by simp [go_sem, List.take_of_length_le, grammarC] <;> with_reducible rfl) rfl (by simp [go_sem, List.take_of_length_le, grammarC]) ?_ | refine Gd.cc (p1) rfl rfl rfl rfl (by simp [go_sem, List.take_of_length_le, grammarC] <;> with_reducible rfl) rfl (by simp [go_sem, List.take_of_length_le, grammarC]) ?_
  refine wkd (@grammarC.eq_1) _ ?_
  refine GS.fnn [] (cog) rfl rfl rfl rfl (by simp [go_sem, List.take_of_length_le, ren, ren1, ren2, okr, okr1, okr2, ChkN, BlkN, List.range_succ, nf, grammarC] <;> with_reducible rfl) (by simp [go_sem, List.take_of_length_le, ren, ren1, ren2, okr, okr1, okr2, ChkN, BlkN, List.range_succ, nf, grammarC]) (by simp [go_sem, List.take_of_length_le, ren, ren1, ren2, okr, okr1, okr2, ChkN, BlkN, List.range_succ, nf, grammarC]) (by simp [List.range_succ, lb]) (ChkN.toB (by simp [go_sem, List.take_of_length_le, ren, ren1, ren2, okr, okr1, okr2, ChkN, BlkN, List.range_succ, nf, grammarC])) (by decide) (by simp) rfl (.nfr (by simp) .nil) (by simp [go_sem, List.take_of_length_le, ren, ren1, ren2, okr, okr1, okr2, ChkN, BlkN, List.range_succ, nf, grammarC] <;> with_reducible rfl) ?_
  refine wkd (@grammarC.eq_1) _ ?_
  refine GS.fnnd (p2) rfl rfl rfl rfl (by simp [go_sem, List.take_of_length_le, ren, ren1, ren2, okr, okr1, okr2, List.range_succ, nf, grammarC] <;> with_reducible rfl) (by exact (.cons (Fz.agL (.cons (.v _) (.cons (.v _) (.cons (fz_rulesO _ rfl rfl) .nil)))) .nil)) (by simp) (by simp [go_sem, List.take_of_length_le, ren, ren1, ren2, okr, okr1, okr2, List.range_succ, nf, grammarC]) (by simp [go_sem, List.take_of_length_le, ren, ren1, ren2, okr, okr1, okr2, List.range_succ, nf, grammarC]) rfl (.nfr (by simp) (.nil)) (by simp [go_sem, List.take_of_length_le, ren, ren1, ren2, okr, okr1, okr2, List.range_succ, nf, grammarC] <;> with_reducible rfl) ?_
  have ceq := eqChoiceS v.1 v.1 (by omega)
  try simp only [decide_true] at ceq
  refine wkd0 _ ?_
  first | refine GS.cd (ceq) rfl rfl rfl rfl (by simp [go_sem, List.take_of_length_le] <;> with_reducible rfl) rfl (by exact (.cons (Fz.all rfl rfl (by simp) rfl (nodes_ok _)) (.cons (.im _ _) .nil))) rfl ?_ | refine Gd.cd (ceq) rfl rfl rfl rfl (by simp [go_sem, List.take_of_length_le] <;> with_reducible rfl) rfl (by exact (.cons (Fz.all rfl rfl (by simp) rfl (nodes_ok _)) (.cons (.im _ _) .nil))) rfl ?_
  clear ceq
  refine wkd0 _ ?_
  refine Holds.cond rfl (fun h => ?_) (fun h => ?_)
  · cases h
  refine wkd0 _ ?_
  first | refine GS.cc (ctg) rfl rfl rfl rfl (by simp [go_sem, List.take_of_length_le, grammarC] <;> with_reducible rfl) rfl (by simp [go_sem, List.take_of_length_le, grammarC]) ?_ | refine Gd.cc (ctg) rfl rfl rfl rfl (by simp [go_sem, List.take_of_length_le, grammarC] <;> with_reducible rfl) rfl (by simp [go_sem, List.take_of_length_le, grammarC]) ?_
  refine wkd (@grammarC.eq_1) _ ?_
  first | refine GS.cd (ceg) rfl rfl rfl rfl (by simp [go_sem, List.take_of_length_le, grammarC] <;> with_reducible rfl) rfl (by exact (.cons (Fz.agL (.cons (.v _) (.cons (.v _) (.cons (fz_rulesO _ rfl rfl) .nil)))) (.cons (Fz.cl rfl) .nil))) rfl ?_ | refine Gd.cd (ceg) rfl rfl rfl rfl (by simp [go_sem, List.take_of_length_le, grammarC] <;> with_reducible rfl) rfl (by exact (.cons (Fz.agL (.cons (.v _) (.cons (.v _) (.cons (fz_rulesO _ rfl rfl) .nil)))) (.cons (Fz.cl rfl) .nil))) rfl ?_
  refine wkd0 _ ?_
  refine Holds.cond rfl (fun h => ?_) (fun h => ?_)
  · cases h
  have cmg := markGrammar g ((1 : Int)) (by omega) (by omega) (by omega)
  refine wkd0 _ ?_
  refine GS.fnn [1] (cmg) rfl rfl rfl rfl (by simp [go_sem, List.take_of_length_le, ren, ren1, ren2, okr, okr1, okr2, ChkN, BlkN, List.range_succ, nf] <;> with_reducible rfl) (by simp [go_sem, List.take_of_length_le, ren, ren1, ren2, okr, okr1, okr2, ChkN, BlkN, List.range_succ, nf]) (by simp [go_sem, List.take_of_length_le, ren, ren1, ren2, okr, okr1, okr2, ChkN, BlkN, List.range_succ, nf]) (by simp [List.range_succ, lb]) (ChkN.toB (by simp [go_sem, List.take_of_length_le, ren, ren1, ren2, okr, okr1, okr2, ChkN, BlkN, List.range_succ, nf])) (by decide) (by simp) rfl (.nfr (by simp) (.nil)) (by simp [go_sem, List.take_of_length_le, ren, ren1, ren2, okr, okr1, okr2, ChkN, BlkN, List.range_succ, nf] <;> with_reducible rfl) ?_
  have hk0 : ¬ ((1 : Int) + (wGrammar g : Nat) < 0) := by omega
  have ceq := eqChoiceS v.1 v.1 (by omega)
  try simp only [decide_true] at ceq
  refine wkd (@hk0) _ ?_
  first | refine GS.cd (ceq) rfl rfl rfl rfl (by simp [go_sem, List.take_of_length_le, hk0] <;> with_reducible rfl) rfl (by exact (.cons (Fz.all rfl rfl (by simp) rfl (nodes_ok _)) (.cons (.im _ _) .nil))) rfl ?_ | refine Gd.cd (ceq) rfl rfl rfl rfl (by simp [go_sem, List.take_of_length_le, hk0] <;> with_reducible rfl) rfl (by exact (.cons (Fz.all rfl rfl (by simp) rfl (nodes_ok _)) (.cons (.im _ _) .nil))) rfl ?_
  clear ceq
  refine wkd (@hk0) _ ?_
  refine Holds.cond rfl (fun h => ?_) (fun h => ?_)
  · cases h
  have cm := markChoiceS v.1 ((1 : Int)) (by omega) (by omega) (by omega)
  have ch3 := heldChoiceS v.1 ((1 : Int)) (by omega) (by omega) (by omega)
  try simp only [wtL_w1] at cm ch3
  refine wkd0 _ ?_
  refine GS.fnn [3] (cm) rfl rfl rfl rfl (by simp [go_sem, List.take_of_length_le, ren, ren1, ren2, okr, okr1, okr2, ChkN, BlkN, List.range_succ, nf] <;> with_reducible rfl) (by simp [go_sem, List.take_of_length_le, ren, ren1, ren2, okr, okr1, okr2, ChkN, BlkN, List.range_succ, nf]) (by simp [go_sem, List.take_of_length_le, ren, ren1, ren2, okr, okr1, okr2, ChkN, BlkN, List.range_succ, nf]) (by simp [List.range_succ, lb]) (ChkN.toB (by simp [go_sem, List.take_of_length_le, ren, ren1, ren2, okr, okr1, okr2, ChkN, BlkN, List.range_succ, nf])) (by decide) (by simp) rfl (.nfr (by simp) .nil) (by simp [go_sem, List.take_of_length_le, ren, ren1, ren2, okr, okr1, okr2, ChkN, BlkN, List.range_succ, nf] <;> with_reducible rfl) ?_
  clear cm
  refine wkd0 _ ?_
  first | refine GS.cd (ch3) rfl rfl rfl rfl (by simp [go_sem, List.take_of_length_le] <;> with_reducible rfl) rfl (by exact (.cons (Fz.all rfl rfl (by simp) rfl (nodes_ok _)) (.cons (.v _) .nil))) rfl ?_ | refine Gd.cd (ch3) rfl rfl rfl rfl (by simp [go_sem, List.take_of_length_le] <;> with_reducible rfl) rfl (by exact (.cons (Fz.all rfl rfl (by simp) rfl (nodes_ok _)) (.cons (.v _) .nil))) rfl ?_
  have hk3 : ¬ ((1 : Int) + (wtL wNode v.1 : Nat) < 0) := by omega
  refine wkd (@hk3) _ ?_
  refine Holds.cond rfl (fun h => ?_) (fun h => ?_)
  · cases h
  refine wkd0 _ ?_
  refine Holds.cond rfl (fun h => ?_) (fun h => ?_)
  · cases h
  refine wkd (@grammarC.eq_1) _ ?_
  first | refine GS.cc (ctg) rfl rfl rfl rfl (by simp [go_sem, List.take_of_length_le, grammarC] <;> with_reducible rfl) rfl (by simp [go_sem, List.take_of_length_le, grammarC]) ?_ | refine Gd.cc (ctg) rfl rfl rfl rfl (by simp [go_sem, List.take_of_length_le, grammarC] <;> with_reducible rfl) rfl (by simp [go_sem, List.take_of_length_le, grammarC]) ?_
  refine wkd (@grammarC.eq_1) _ ?_
  first | refine GS.cc (p3) rfl rfl rfl rfl (by simp [go_sem, List.take_of_length_le, grammarC] <;> with_reducible rfl) rfl (by simp [go_sem, List.take_of_length_le, grammarC]) ?_ | refine Gd.cc (p3) rfl rfl rfl rfl (by simp [go_sem, List.take_of_length_le, grammarC] <;> with_reducible rfl) rfl (by simp [go_sem, List.take_of_length_le, grammarC]) ?_
  have ceq := eqChoiceS v.1 v.1 (by omega)
  try simp only [decide_true] at ceq
  refine wkd0 _ ?_
  first | refine GS.cc (ceq) rfl rfl rfl rfl (by simp [go_sem, List.take_of_length_le] <;> with_reducible rfl) rfl (by simp [go_sem, List.take_of_length_le]) ?_ | refine Gd.cc (ceq) rfl rfl rfl rfl (by simp [go_sem, List.take_of_length_le] <;> with_reducible rfl) rfl (by simp [go_sem, List.take_of_length_le]) ?_
  clear ceq
  refine wkd0 _ ?_
  refine Holds.cond rfl (fun h => ?_) (fun h => ?_)
  · cases h
  refine wkd0 _ ?_
  first | refine GS.cd (ch3) rfl rfl rfl rfl (by simp [go_sem, List.take_of_length_le] <;> with_reducible rfl) rfl (by exact (.cons (Fz.all rfl rfl (by simp) rfl (nodes_ok _)) (.cons (.v _) .nil))) rfl ?_ | refine Gd.cd (ch3) rfl rfl rfl rfl (by simp [go_sem, List.take_of_length_le] <;> with_reducible rfl) rfl (by exact (.cons (Fz.all rfl rfl (by simp) rfl (nodes_ok _)) (.cons (.v _) .nil))) rfl ?_
  have hk3 : ¬ ((1 : Int) + (wtL wNode v.1 : Nat) < 0) := by omega
  refine wkd (@hk3) _ ?_
  refine Holds.cond rfl (fun h => ?_) (fun h => ?_)
  · cases h
  refine wkd0 _ ?_
  refine Holds.cond rfl (fun h => ?_) (fun h => ?_)
  · cases h
  refine wkd0 _ ?_
  refine Out.mk (xs := ?_) ?_ ?_ (by first | exact .inr rfl | exact .inl rfl)
  rotate_left
  · simp [go_sem, List.take_of_length_le] <;> with_reducible rfl
  exact .v _
end Go.Proofs.Ytenienncgjanpaa.En
end
