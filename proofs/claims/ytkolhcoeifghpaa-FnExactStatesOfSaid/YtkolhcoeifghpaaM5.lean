/- Own words and walks of this claim, part 5: what the program's functions compute, for all the arguments that are named; no further conditions. -/
import Derived.Test.YtkolhcoeifghpaaM2
import Derived.Test.YtkolhcoeifghpaaM4
import Derived.Test.YtkolhcoeifghpaaM3
section
namespace Go.Proofs.Ytkolhcoeifghpaa.En
open Go.RowKit
set_option linter.unusedSimpArgs false
set_option linter.unusedVariables false
set_option maxHeartbeats 4000000
theorem equalItems (a b : List Item3) (ha : a.length ≤ 4000) : Pure Try.prog 81 [.im 3 (nodes a), .im 3 (nodes b)] (.v (.bool (decide (a = b)))) := by
  refine Pure.mk (rs := [.tmp 4]) (nt := 26) Try.func81 (by kernel_rfl) rfl rfl rfl (by simp) ?_
  simp only [sl]
  by_cases hl : a.length = b.length
  · have hl1 : ((a.length : Int) != (b.length : Int)) = false := by simp [hl]
    refine wkdc (@hl1) _ ?_
    refine Holds.loop (ι := Nat) (fun i => ⟨[(0, .im 3 (nodes a)), (1, .im 3 (nodes b)), (12, .v (.int .i64 a.length)), (13, .v (.int .i64 i))], [], 0⟩)
      (fun i => i ≤ a.length ∧ ∀ j, j < i → a[j]? = b[j]?) (fun i => a.length - i) 0 ⟨Nat.zero_le _, fun j hj => absurd hj (Nat.not_lt_zero j)⟩ ?_ ?_
    · exact Cov.ofn (id) rfl (by simp [go_sem, List.take_of_length_le, ren, ren1, ren2, okr, okr1, okr2, ChkT, ChkN, BlkN, nf]) (by simp [go_sem, List.take_of_length_le, ren, ren1, ren2, okr, okr1, okr2, ChkT, ChkN, BlkN, nf])
    rintro i ⟨hi, hc⟩
    have stepi : wr64 ((i : Int) + 1) = ((i + 1 : Nat) : Int) := wr64_id (by omega) (by omega)
    refine wkdc0 _ ?_
    refine Holds.cond rfl (fun h => ?_) (fun h => ?_)
    · have hlt : i < a.length := by simp at h; omega
      have hlb : i < b.length := by omega
      have hxa : a[i]? = some a[i] := List.getElem?_eq_getElem hlt
      have hxb : b[i]? = some b[i] := List.getElem?_eq_getElem hlb
      generalize a[i] = x at hxa
      generalize b[i] = y at hxb
      refine wkdc (And.intro @hxa (And.intro (@get_E _ _ _ _ hxa) (And.intro @hxb (And.intro (@get_E _ _ _ _ hxb) (And.intro @hlt (And.intro @hlb (@nodeC.eq_1))))))) _ ?_
      refine Gd.calm rfl rfl (.neS (n := 3) (xs := [x.1, x.2.1, x.2.2]) (ys := [y.1, y.2.1, y.2.2]) rfl eqItem3 rfl rfl rfl rfl rfl) ?_
      by_cases e : x = y
      · rw [show (!decide ([x.1, x.2.1, x.2.2] = [y.1, y.2.1, y.2.2])) = false by rw [e]; simp]
        refine wkdc0 _ ?_
        refine ⟨i + 1, ⟨by omega, fun j hj => ?_⟩, by omega, ?_⟩
        · by_cases e2 : j = i
          · subst e2; rw [hxa, hxb, e]
          · exact hc j (by omega)
        rw [stepi]
        exact Cov.ofn (id) rfl (by simp [go_sem, List.take_of_length_le, ren, ren1, ren2, okr, okr1, okr2, ChkT, ChkN, BlkN, nf]) (by simp [go_sem, List.take_of_length_le, ren, ren1, ren2, okr, okr1, okr2, ChkT, ChkN, BlkN, nf])
      · rw [show (!decide ([x.1, x.2.1, x.2.2] = [y.1, y.2.1, y.2.2])) = true by rw [decide_eq_false (fun h => e (node_ext h))]; rfl]
        rw [decide_eq_false (show ¬ a = b by intro h2; subst h2; rw [hxa] at hxb; cases hxb; exact e rfl)]
        refine wkdc0 _ ?_
        refine Out.mk (xs := ?_) ?_ ?_ (by first | exact .inr rfl | exact .inl rfl)
        rotate_left
        · simp [go_sem, List.take_of_length_le] <;> with_reducible rfl
        exact .v _
    · have hie : i = a.length := by simp at h; omega
      subst hie
      rw [decide_eq_true (show a = b from List.ext_getElem? fun j => by
        by_cases hj : j < a.length
        · exact hc j hj
        · rw [List.getElem?_eq_none (by omega), List.getElem?_eq_none (by omega)])]
      refine wkdc0 _ ?_
      refine Out.mk (xs := ?_) ?_ ?_ (by first | exact .inr rfl | exact .inl rfl)
      rotate_left
      · simp [go_sem, List.take_of_length_le] <;> with_reducible rfl
      exact .v _
  · have hl1 : ((a.length : Int) != (b.length : Int)) = true := by simp; omega
    rw [decide_eq_false (show ¬ a = b by intro h; subst h; exact hl rfl)]
    refine wkdc (@hl1) _ ?_
    refine Out.mk (xs := ?_) ?_ ?_ (by first | exact .inr rfl | exact .inl rfl)
    rotate_left
    · simp [go_sem, List.take_of_length_le] <;> with_reducible rfl
    exact .v _
theorem indexFuncItems (g : FuncId) (cap : List AV) (p : List Item3 → Bool) (xs : Sets3) (hx : xs.length < 4611686018427387904) (hcap : cap.all cl1 = true) (hg : ∀ x ∈ xs, Pure Try.prog g (.im 3 (nodes x) :: cap) (.v (.bool (p x)))) : Pure Try.prog 79 [.im 1 (itemss xs), .fn g cap] (.v (.int .i64 (fstP p xs 0))) := by
  refine Pure.mk (rs := [.tmp 4]) (nt := 19) Try.func79 (by kernel_rfl) rfl rfl rfl (by simp) ?_
  simp only [sl]
  refine wk0 _ ?_
  refine Holds.loop (ι := Nat) (fun i => ⟨[(0, .im 1 (itemss xs)), (1, .fn g cap), (7, .v (.int .i64 xs.length)), (8, .v (.int .i64 i))], [], 0⟩) (fun i => i ≤ xs.length ∧ ∀ j, j < i → ∀ x, xs[j]? = some x → p x = false) (fun i => xs.length - i) 0 ⟨Nat.zero_le _, fun j hj => absurd hj (Nat.not_lt_zero j)⟩ ?_ ?_
  · exact Cov.ofn id rfl (by simp [go_sem, ren, ren1, okr, okr1, ChkT, okr1_cap hcap, ren1_cap hcap]) (by simp [ChkN])
  rintro i ⟨hi, hno⟩
  refine wk0 _ ?_
  refine Holds.cond rfl (fun hl => ?_) (fun hl => ?_)
  · have hlt : i < xs.length := by simpa using hl
    have hxi : xs[i]? = some xs[i] := List.getElem?_eq_getElem hlt
    have hgi := hg _ (List.getElem_mem hlt)
    generalize xs[i] = y at hxi hgi
    refine wk (And.intro @hxi (And.intro (@get_E _ _ _ _ hxi) (@itemssC.eq_1))) _ ?_
    refine GS.cc (hgi) rfl rfl rfl rfl (by simp [go_sem, List.take_of_length_le, hcap, all_cl1 hcap, itemssC] <;> with_reducible rfl) rfl (by simp [go_sem, List.take_of_length_le, hcap, all_cl1 hcap, itemssC]) ?_
    refine wk0 _ ?_
    refine Holds.cond rfl (fun hl2 => ?_) (fun hl2 => ?_)
    · rw [fstP_at xs i 0 hxi hl2 hno, Nat.zero_add]
      refine wk0 _ ?_
      refine Out.mk (xs := ?_) ?_ ?_ (by first | exact .inr rfl | exact .inl rfl)
      rotate_left
      · simp [go_sem, List.take_of_length_le] <;> with_reducible rfl
      exact .v _
    · refine wk0 _ ?_
      refine ⟨i + 1, ⟨by omega, fun j hj x hxj => ?_⟩, by omega, ?_⟩
      · by_cases e : j = i
        · subst e; rw [hxi] at hxj; cases hxj; exact hl2
        · exact hno j (by omega) x hxj
      rw [wr64_id (by omega) (by omega)]
      exact Cov.ofn id rfl (by simp [go_sem, ren, ren1, okr, okr1, ChkT, okr1_cap hcap, ren1_cap hcap]) (by simp [ChkN])
  · have hle : i = xs.length := by
      have : ¬ i < xs.length := by simpa using hl
      omega
    rw [fstP_no xs 0 fun x j hj => hno x (by have := (List.getElem?_eq_some_iff.1 hj).1; omega) j hj]
    refine wk0 _ ?_
    refine Out.mk (xs := ?_) ?_ ?_ (by first | exact .inr rfl | exact .inl rfl)
    rotate_left
    · simp [go_sem, List.take_of_length_le] <;> with_reducible rfl
    exact .v _
theorem states1 (o s : List Item3) (ho : o.length ≤ 4000) : Pure Try.prog 80 [.im 3 (nodes o), .pi [.im 3 (nodes s)]] (.v (.bool (decide (o = s)))) := by
  refine Pure.mk (rs := [.tmp 3]) (nt := 7) Try.func80 (by kernel_rfl) rfl rfl rfl (by simp) ?_
  simp only [sl]
  have c := equalItems o s ho
  refine wkc0 _ ?_
  refine GS.cc (c) rfl rfl rfl rfl (by simp [go_sem, List.take_of_length_le] <;> with_reducible rfl) rfl (by simp [go_sem, List.take_of_length_le]) ?_
  refine wkc0 _ ?_
  refine Out.mk (xs := ?_) ?_ ?_ (by first | exact .inr rfl | exact .inl rfl)
  rotate_left
  · simp [go_sem, List.take_of_length_le] <;> with_reducible rfl
  exact .v _
theorem nodes_snocE (l : List Node3) (a b c : Int) : nodes l ++ [[.v (.int .i64 a), .v (.int .i64 b), .v (.int .i64 c)]] = nodes (l ++ [(a, b, c)]) := by simp [nodes, nodeC]
theorem fz_itemssD {bl : List (Nat × Blk)} {n len : Nat} {e : TypeId} (l : Sets3) (hk : lb bl n = some ⟨e, 1, itemssO l⟩) (hl : len = l.length) : Fz bl (.own n 1 0 len) (.im 1 (itemss l)) := Fz.rowsO l itemO itemssC hk rfl rfl (fun x _ => show FzL bl (itemO x) (itemssC x) from by simp only [itemO, itemssC]; exact .cons (Fz.owI (nodes_ok _)) (.nil)) hl
theorem iAt (xs : Sets3) (r : List AV) : (itemssO xs ++ [r])[xs.length]? = some r := by simp
theorem iSnoc (xs : Sets3) (r : List AV) (q : List Item3) : (itemssO xs ++ [r]).set xs.length [.ow 102 3 (nodes q)] = itemssO (xs ++ [q]) := by
  have := set_snoc (itemssO xs) r [.ow 102 3 (nodes q)]
  rw [itemssO_len] at this
  rw [this]; simp [itemssO, itemO]
theorem iApp (xs : Sets3) (q : List Item3) : itemssO xs ++ [[.ow 102 3 (nodes q)]] = itemssO (xs ++ [q]) := by simp [itemssO, itemO]
theorem ren_itemssO (ρ : Nat → Nat) (xs : Sets3) : List.map (List.map (ren ρ)) (itemssO xs) = itemssO xs := by simp [itemssO, itemO, ren, ren1]
theorem okw_setI (G : Sets3) (u n z off len : Nat) {m : Nat} (h : n < m) : okw m ((itemssO G).set u [.own n z off len]) := by
  intro row hr x hx
  rcases List.mem_or_eq_of_mem_set hr with e | e
  · have := nfr_itemssO G row e x hx
    exact okr_nf this
  · subst e
    rw [List.mem_singleton] at hx
    subst hx
    simp [okr, okr1, h]
theorem statesG (g : GrammarT) (hG : OkG g) : Fn Try.prog 42 0 [.ag (grammarC g)] [] (.tu [.ag [.own 0 1 0 (lrV g).1.1.length, .own 1 1 0 (lrV g).1.2.length], .v (.bool (lrV g).2)]) 2 [(0, ⟨99, 1, itemssO (lrV g).1.1⟩), (1, ⟨25, 1, intssO (lrV g).1.2⟩)] := by
  have hlen := hG.len
  have hlX : (gX g).2.2.length ≤ 17 := by rw [gX_len]; omega
  have c0 := closureG g hG [itemN g.2.2.length 0 0] (by simp) fun z hz => by
    rw [List.mem_singleton] at hz
    subst hz
    exact univX_item hG
  change Fn _ _ 0 _ [] (.own 0 3 0 (start0 g).length) 1 [(0, ⟨_, 3, nodes (start0 g)⟩)] at c0
  have hI0 := LrI.start hG
  generalize lrV g = V at hI0 ⊢
  refine Fn.mk (rs := [.cell 2 44, .tmp 3]) (nt := 114) Try.func42 (by kernel_rfl) rfl rfl rfl (by simp) ?_
  simp only [sl, grammarC]
  repeat' first | (refine Holds.condT ?_ ?_; (· (simp [go_sem, List.take_of_length_le, grammarC] <;> with_reducible rfl))) | (refine Holds.condF ?_ ?_; (· (simp [go_sem, List.take_of_length_le, grammarC] <;> with_reducible rfl))) | refine Holds.seq ?_ | refine Holds.skip ?_ | refine Holds.exit ?_ | refine Holds.ret ?_ | refine thenA_normal ?_ | refine thenA_exit ?_ | refine thenA_ret ?_ | refine inB_normal ?_ | refine inB_ret ?_ | refine inB_here ?_ | (refine inB_past ?_ ?_; (· exact rfl)) | refine Holds.reg ?_ | refine Holds.block ?_ | refine GS.nil ?_ | (refine GS.stepD 20 (s' := ?_) rfl ?_ ?_ ?_; rotate_left; (· exact rfl); (· (simp [go_sem, List.take_of_length_le, grammarC] <;> with_reducible rfl))) | (refine GS.skip ?_ ?_ ?_; (· exact rfl); (· exact rfl)) | fail
  refine GS.frz [2] [(19, .im 3 (nodes [itemN g.2.2.length 0 0]))] (.cons rfl (Fz.all rfl rfl rfl rfl (nodes_ok _)) .nil) ?_
  refine GS.fnn [] (c0) rfl rfl rfl rfl (by simp [go_sem, List.take_of_length_le, ren, ren1, ren2, okr, okr1, okr2, ChkN, BlkN, List.range_succ, nf, grammarC, frz] <;> with_reducible rfl) (by simp [go_sem, List.take_of_length_le, ren, ren1, ren2, okr, okr1, okr2, ChkN, BlkN, List.range_succ, nf, grammarC, frz]) (by simp [go_sem, List.take_of_length_le, ren, ren1, ren2, okr, okr1, okr2, ChkN, BlkN, List.range_succ, nf, grammarC, frz]) (by simp [List.range_succ, lb]) (ChkN.toB (by simp [go_sem, List.take_of_length_le, ren, ren1, ren2, okr, okr1, okr2, ChkN, BlkN, List.range_succ, nf, grammarC, frz])) (by decide) (by simp) rfl (.nfr (by simp) .nil) (by simp [go_sem, List.take_of_length_le, ren, ren1, ren2, okr, okr1, okr2, ChkN, BlkN, List.range_succ, nf, grammarC, frz] <;> with_reducible rfl) ?_
  refine wkc (And.intro @grammarC.eq_1 (@frz.eq_1)) _ ?_
  refine Holds.nir 5 0 1 25 1 rfl rfl rfl (by simp [go_sem]; rfl) ?_
  refine Holds.loop (ι := LrT) (fun L => ⟨[(1, .pb 0 3 0 0), (2, .pb 1 2 0 0), (4, .pb 2 2 0 0), (5, .v (.int .i64 L.2.length))],
    [(4, ⟨25, 1, intssO L.2⟩), (3, ⟨99, 1, itemssO L.1⟩), (2, ⟨44, 2, [[.own 3 1 0 L.1.length, .own 4 1 0 L.2.length]]⟩), (1, ⟨44, 2, [[.v (.slice none 0 0), .v (.slice none 0 0)]]⟩), (0, ⟨31, 3, [grammarC g]⟩)], 5⟩)
    (fun L => LrI g V L) (fun L => 61 - L.2.length) ([start0 g], []) hI0 ?_ ?_
  · refine Cov.trans ?_ (Cov.close 4 0 0 rfl rfl rfl rfl rfl rfl (by simp) (by simp))
    simp only [rm, st, List.set_set]
    exact Cov.ofn (nm [0, 1, 5, 4, 6]) rfl (by simp [go_sem, List.take_of_length_le, ren, ren1, ren2, okr, okr1, okr2, ChkT, ChkN, BlkN, nf, grammarC, show intssO [] = [] from rfl, itemssO, itemO]) (by simp [go_sem, List.take_of_length_le, ren, ren1, ren2, okr, okr1, okr2, ChkT, ChkN, BlkN, nf, grammarC, show intssO [] = [] from rfl, itemssO, itemO])
  clear hI0 c0
  rintro ⟨sts, gs⟩ hI
  have hle := hI.p.le
  have hfew := hI.few
  dsimp only at hle hfew ⊢
  have stepk : wr64 ((gs.length : Int) + 1) = ((gs.length + 1 : Nat) : Int) := wr64_id (by omega) (by omega)
  refine wkc0 _ ?_
  refine Holds.cond rfl (fun h => ?_) (fun h => ?_)
  · have hlt : gs.length < sts.length := by simp at h; omega
    have hS : sts[gs.length]? = some sts[gs.length] := List.getElem?_eq_getElem hlt
    have hok := hI.p.ok.st _ (List.getElem_mem hlt)
    generalize sts[gs.length] = S at hS hok
    have hmany := fun h => hI.many hS h
    have hnext := fun h => hI.next hG hS h
    have hstok := hI.p.ok
    dsimp only at hmany hnext hstok
    have hn0 := hG.n0
    have hn1 := hG.n1
    have ht0 := hG.t0
    have ht1 := hG.t1
    have hwneg : wr64 (-g.2.1) = -g.2.1 := wr64_id (by omega) (by omega)
    have hsl := symsX_len hG
    refine wkc (And.intro @hwneg (@grammarC.eq_1)) _ ?_
    refine Holds.loop (ι := Nat × RowS) (fun i => ⟨[(1, .pb 0 3 0 0), (2, .pb 1 2 0 0), (4, .pb 2 2 0 0), (5, .v (.int .i64 gs.length)), (6, .own 5 1 0 i.2.2.length), (7, .v (.int .i64 ((i.1 : Int) - g.2.1)))],
      [(5, ⟨3, 1, ints i.2.2⟩), (4, ⟨25, 1, intssO gs⟩), (3, ⟨99, 1, itemssO i.2.1⟩), (2, ⟨44, 2, [[.own 3 1 0 i.2.1.length, .own 4 1 0 gs.length]]⟩), (1, ⟨44, 2, [[.v (.slice none 0 0), .v (.slice none 0 0)]]⟩), (0, ⟨31, 3, [grammarC g]⟩)], 6⟩)
      (fun i => i.1 ≤ (symsX g).length ∧ StsOk g i.2.1 ∧ i.2.1[gs.length]? = some S ∧ i.2.1.length ≤ 60 ∧ i.2.2.length = i.1 ∧ rowR g S ((symsX g).drop i.1) i.2 = rowR g S (symsX g) (sts, [])) (fun i => (symsX g).length - i.1) (0, (sts, [])) ⟨Nat.zero_le _, hstok, hS, by dsimp only; omega, rfl, rfl⟩ ?_ ?_
    · exact Cov.ofn (id) rfl (by simp [go_sem, List.take_of_length_le, ren, ren1, ren2, okr, okr1, okr2, ChkT, ChkN, BlkN, nf, grammarC, show ints [] = [] from rfl]) (by simp [go_sem, List.take_of_length_le, ren, ren1, ren2, okr, okr1, okr2, ChkT, ChkN, BlkN, nf, grammarC, show ints [] = [] from rfl])
    generalize hR : rowR g S (symsX g) (sts, []) = R at hmany hnext
    clear hI hS hstok hfew hle hlt h hR
    rintro ⟨i, sts, row⟩ ⟨hi, hstok, hS, hfew, hrl, hrun⟩
    dsimp only at hi hstok hS hfew hrl hrun ⊢
    have hlt := (List.getElem?_eq_some_iff.1 hS).1
    have stepx : wr64 ((i : Int) - g.2.1 + 1) = ((i + 1 : Nat) : Int) - g.2.1 := by rw [wr64_id (by omega) (by omega)]; omega
    refine wkc (@grammarC.eq_1) _ ?_
    refine Holds.cond rfl (fun h => ?_) (fun h => ?_)
    · have hil : i < (symsX g).length := by simp at h; omega
      have hx := symsX_at hil
      have hdr : (symsX g).drop i = ((i : Int) - g.2.1) :: (symsX g).drop (i + 1) := by
        rw [List.drop_eq_getElem_cons hil]
        congr 1
        have := List.getElem?_eq_getElem hil
        rw [hx] at this
        exact (Option.some.inj this).symm
      rw [hdr] at hrun
      change rowR g S ((symsX g).drop (i + 1)) (stepR g S (sts, row) ((i : Int) - g.2.1)) = R at hrun
      have hok2 := hstok.step hG (s := (sts, row)) S ((i : Int) - g.2.1)
      have hsd : stepR g S (sts, row) ((i : Int) - g.2.1) = if gotoX (gX g) S ((i : Int) - g.2.1) = [] then (sts, row ++ [-1]) else if plX sts (gotoX (gX g) S ((i : Int) - g.2.1)) = -1 then (sts ++ [gotoX (gX g) S ((i : Int) - g.2.1)], row ++ [(sts.length : Int)]) else (sts, row ++ [plX sts (gotoX (gX g) S ((i : Int) - g.2.1))]) := rfl
      have hpl := plX_cases hstok.nd (gotoX (gX g) S ((i : Int) - g.2.1))
      have hmono := rowR_len g S ((symsX g).drop (i + 1)) (stepR g S (sts, row) ((i : Int) - g.2.1))
      rw [hrun] at hmono
      generalize stepR g S (sts, row) ((i : Int) - g.2.1) = s2 at hrun hok2 hsd hmono
      have hbr : (row.length + 1) * 8 ≤ 140737488355328 := by omega
      have hbs : (sts.length + 1) * 24 ≤ 140737488355328 := by omega
      have hknil := gotoX_nil (G := gX g) (S := S) hok.2.2.1 ((i : Int) - g.2.1)
      have hkun := kernX_univ (G := gX g) (S := S) hok.2.2.1 ((i : Int) - g.2.1)
      have hknd := sortI_nodup (kernX_sort (G := gX g) hok.1 ((i : Int) - g.2.1))
      have hgo : gotoX (gX g) S ((i : Int) - g.2.1) = clX (gX g) (kernX (gX g) S ((i : Int) - g.2.1)) := rfl
      have hgl := (gotoX_ok hG S ((i : Int) - g.2.1)).2.2
      generalize gotoX (gX g) S ((i : Int) - g.2.1) = to at hsd hpl hknil hgo hgl
      refine Holds.open 3 gs.length 0 rfl (iGet hS) rfl rfl ?_
      have hsg := set_get (a := ([.own 6 3 0 S.length] : List AV)) (iGet hS)
      refine wkc (And.intro @hlt (And.intro @hS (And.intro (@get_E _ _ _ _ hS) (And.intro @hsg (@get_E _ _ _ _ hsg))))) _ ?_
      have hokw : okw 8 ((itemssO sts).set gs.length [.own 6 3 0 S.length]) := okw_setI sts gs.length 6 3 0 S.length (by decide)
      refine Holds.loop (ι := Nat) (fun j => ⟨[(1, .pb 0 3 0 0), (2, .pb 1 2 0 0), (4, .pb 2 2 0 0), (5, .v (.int .i64 gs.length)), (6, .own 5 1 0 row.length), (7, .v (.int .i64 ((i : Int) - g.2.1))), (8, .own 7 3 0 (kernX (gX g) (S.take j) ((i : Int) - g.2.1)).length), (45, .own 6 3 0 S.length), (46, .v (.int .i64 S.length)), (47, .v (.int .i64 j))],
        [(7, ⟨102, 3, nodes (kernX (gX g) (S.take j) ((i : Int) - g.2.1))⟩), (6, ⟨102, 3, nodes S⟩), (5, ⟨3, 1, ints row⟩), (4, ⟨25, 1, intssO gs⟩), (3, ⟨99, 1, (itemssO sts).set gs.length [.own 6 3 0 S.length]⟩), (2, ⟨44, 2, [[.own 3 1 0 sts.length, .own 4 1 0 gs.length]]⟩), (1, ⟨44, 2, [[.v (.slice none 0 0), .v (.slice none 0 0)]]⟩), (0, ⟨31, 3, [grammarC g]⟩)], 8⟩)
        (fun j => j ≤ S.length) (fun j => S.length - j) 0 (Nat.zero_le _) ?_ ?_
      · exact Cov.ofn (id) rfl (by simp [go_sem, List.take_of_length_le, ren, ren1, ren2, okr, okr1, okr2, ChkT, ChkN, BlkN, nf, grammarC, show ∀ x, kernX (gX g) [] x = [] from fun _ => rfl, show nodes [] = [] from rfl, hokw, ren_itemssO]) (by simp [go_sem, List.take_of_length_le, ren, ren1, ren2, okr, okr1, okr2, ChkT, ChkN, BlkN, nf, grammarC, show ∀ x, kernX (gX g) [] x = [] from fun _ => rfl, show nodes [] = [] from rfl, hokw, ren_itemssO])
      · intro j hj
        have stepj : wr64 ((j : Int) + 1) = ((j + 1 : Nat) : Int) := wr64_id (by omega) (by omega)
        refine wkc0 _ ?_
        refine Holds.cond rfl (fun h => ?_) (fun h => ?_)
        · have hjl : j < S.length := by simp at h; omega
          have hzj : S[j]? = some S[j] := List.getElem?_eq_getElem hjl
          obtain ⟨r, d, hr, hd, hz⟩ := mem_univX.1 (hok.2.2.1 _ (List.getElem_mem hjl))
          rw [hz] at hzj
          clear hz
          rw [gX_len] at hr
          have hnx := kernX_snoc (G := gX g) (x := (i : Int) - g.2.1) hzj
          have hkl : (kernX (gX g) (S.take j) ((i : Int) - g.2.1)).length ≤ 85 := by
            have h1 := List.length_filter_le (fun z => decide (symAt (gX g) z = some ((i : Int) - g.2.1))) (S.take j)
            rw [List.length_take] at h1
            have := hok.2.2.2
            simp only [kernX, List.length_map]
            omega
          generalize kernX (gX g) (S.take j) ((i : Int) - g.2.1) = M at hnx hkl ⊢
          rw [symAt_N, advI_N] at hnx
          have cr := rightOfG g hG r (by omega)
          have h4 := ruleX_4 hG r
          generalize (ruleN (gX g) r).2 = R2 at cr hnx hd h4
          have hbm : (M.length + 1) * 24 ≤ 140737488355328 := by omega
          have hw : wr64 ((d : Int) + 1) = ((d + 1 : Nat) : Int) := wr64_id (by omega) (by omega)
          refine wkc (And.intro @hjl (And.intro @hzj (And.intro (@get_E _ _ _ _ hzj) (And.intro @nodeC.eq_1 (And.intro @itemN.eq_1 (@grammarC.eq_1)))))) _ ?_
          refine GS.cc (cr) rfl rfl rfl rfl (by simp [go_sem, List.take_of_length_le, grammarC] <;> with_reducible rfl) rfl (by simp [go_sem, List.take_of_length_le, grammarC]) ?_
          by_cases hdl : d < R2.length
          · have hdi : (d : Int) < (R2.length : Int) := by omega
            have hyd : R2[d]? = some R2[d] := List.getElem?_eq_getElem hdl
            generalize R2[d] = y at hyd
            rw [hyd] at hnx
            by_cases hyx : y = (i : Int) - g.2.1
            · have hyx1 : (y == (i : Int) - g.2.1) = true := by simp [hyx]
              rw [if_pos (by rw [hyx])] at hnx
              refine wkc (And.intro @hdl (And.intro @hdi (And.intro @hyd (And.intro (@get_E _ _ _ _ hyd) (And.intro @hyx1 (And.intro @hjl (And.intro @hzj (And.intro (@get_E _ _ _ _ hzj) (And.intro @nodeC.eq_1 (And.intro @itemN.eq_1 (And.intro @hw (@hbm)))))))))))) _ ?_
              refine ⟨j + 1, by omega, by omega, ?_⟩
              rw [stepj, hnx]
              exact Cov.ofn (nm [0, 1, 2, 3, 4, 5, 6, 11]) rfl (by simp [go_sem, List.take_of_length_le, ren, ren1, ren2, okr, okr1, okr2, ChkT, ChkN, BlkN, nf, grammarC, itemN, nodes_snocE, hokw, ren_itemssO]) (by simp [go_sem, List.take_of_length_le, ren, ren1, ren2, okr, okr1, okr2, ChkT, ChkN, BlkN, nf, grammarC, itemN, nodes_snocE, hokw, ren_itemssO])
            · have hyx1 : (y == (i : Int) - g.2.1) = false := by rw [beq_eq_false_iff_ne]; exact hyx
              rw [if_neg (by intro e; injection e with e; exact hyx e), List.append_nil] at hnx
              refine wkc (And.intro @hdl (And.intro @hdi (And.intro @hyd (And.intro (@get_E _ _ _ _ hyd) (And.intro @hyx1 (And.intro @hjl (And.intro @hzj (And.intro (@get_E _ _ _ _ hzj) (And.intro @nodeC.eq_1 (@itemN.eq_1)))))))))) _ ?_
              refine ⟨j + 1, by omega, by omega, ?_⟩
              rw [stepj, hnx]
              exact Cov.ofn (id) rfl (by simp [go_sem, List.take_of_length_le, ren, ren1, ren2, okr, okr1, okr2, ChkT, ChkN, BlkN, nf, grammarC, hokw, ren_itemssO]) (by simp [go_sem, List.take_of_length_le, ren, ren1, ren2, okr, okr1, okr2, ChkT, ChkN, BlkN, nf, grammarC, hokw, ren_itemssO])
          · have hdi : ¬ (d : Int) < (R2.length : Int) := by omega
            rw [List.getElem?_eq_none (by omega), if_neg (by simp), List.append_nil] at hnx
            refine wkc (And.intro @hdl (And.intro @hdi (And.intro @hjl (And.intro @hzj (And.intro (@get_E _ _ _ _ hzj) (And.intro @nodeC.eq_1 (@itemN.eq_1))))))) _ ?_
            refine ⟨j + 1, by omega, by omega, ?_⟩
            rw [stepj, hnx]
            exact Cov.ofn (id) rfl (by simp [go_sem, List.take_of_length_le, ren, ren1, ren2, okr, okr1, okr2, ChkT, ChkN, BlkN, nf, grammarC, hokw, ren_itemssO]) (by simp [go_sem, List.take_of_length_le, ren, ren1, ren2, okr, okr1, okr2, ChkT, ChkN, BlkN, nf, grammarC, hokw, ren_itemssO])
        · have hje : j = S.length := by simp at h; omega
          subst hje
          rw [List.take_length]
          have hkl : (kernX (gX g) S ((i : Int) - g.2.1)).length ≤ 85 := by
            have h1 := List.length_filter_le (fun z => decide (symAt (gX g) z = some ((i : Int) - g.2.1))) S
            have := hok.2.2.2
            simp only [kernX, List.length_map]
            omega
          generalize kernX (gX g) S ((i : Int) - g.2.1) = M at hknil hkun hknd hgo hkl ⊢
          first | (refine Holds.close 3 gs.length 0 (s' := ?_) rfl (set_get (iGet hS)) rfl rfl rfl rfl (by simp) (by simp [nf]) ?_ ?_; rotate_left; (· (simp [go_sem, List.take_of_length_le, List.set_set, iSet hS] <;> with_reducible rfl))) | (refine GS.close 3 gs.length 0 (s' := ?_) rfl (set_get (iGet hS)) rfl rfl (by exact rfl) (by exact rfl) (by simp) (by simp [nf]) ?_ ?_; rotate_left; (· (simp [go_sem, List.take_of_length_le, List.set_set, iSet hS] <;> with_reducible rfl)))
          by_cases hne : M = []
          · rw [if_pos (hknil.2 hne)] at hsd
            have hpos : ¬ (0 : Int) < (M.length : Int) := by rw [hne]; simp
            have hpos2 : M.length = 0 := by rw [hne]; rfl
            subst hsd
            refine wkc (And.intro @hpos (And.intro @hpos2 (@hbr))) _ ?_
            refine ⟨(i + 1, (sts, row ++ [-1])), ⟨by dsimp only; omega, hok2, hS, hfew, by simp [hrl], hrun⟩, by dsimp only; omega, ?_⟩
            rw [stepx]
            exact Cov.ofn (nm [0, 1, 2, 3, 4, 10]) rfl (by simp [go_sem, List.take_of_length_le, ren, ren1, ren2, okr, okr1, okr2, ChkT, ChkN, BlkN, nf, grammarC, ints_snoc]) (by simp [go_sem, List.take_of_length_le, ren, ren1, ren2, okr, okr1, okr2, ChkT, ChkN, BlkN, nf, grammarC, ints_snoc])
          · have hnt : to ≠ [] := fun e => hne (hknil.1 e)
            rw [if_neg hnt] at hsd
            have hpos : (0 : Int) < (M.length : Int) := by have := List.length_pos_iff.2 hne; omega
            have hpos2 : 0 < M.length := by omega
            have cc := closureG g hG M hknd hkun
            rw [← hgo] at cc
            repeat' first | (refine Holds.condT ?_ ?_; (· (simp [go_sem, List.take_of_length_le, hpos, hpos2, hne, grammarC] <;> with_reducible rfl))) | (refine Holds.condF ?_ ?_; (· (simp [go_sem, List.take_of_length_le, hpos, hpos2, hne, grammarC] <;> with_reducible rfl))) | refine Holds.seq ?_ | refine Holds.skip ?_ | refine Holds.exit ?_ | refine Holds.ret ?_ | refine thenA_normal ?_ | refine thenA_exit ?_ | refine thenA_ret ?_ | refine inB_normal ?_ | refine inB_ret ?_ | refine inB_here ?_ | (refine inB_past ?_ ?_; (· exact rfl)) | refine Holds.reg ?_ | refine Holds.block ?_ | refine GS.nil ?_ | (refine GS.stepD 84 (s' := ?_) rfl ?_ ?_ ?_; rotate_left; (· exact rfl); (· (simp [go_sem, List.take_of_length_le, hpos, hpos2, hne, grammarC] <;> with_reducible rfl))) | (refine GS.skip ?_ ?_ ?_; (· exact rfl); (· exact rfl)) | fail
            refine GS.frz [7] [(83, .im 3 (nodes M))] (.cons rfl (Fz.all rfl rfl (by simp) rfl (nodes_ok _)) .nil) ?_
            refine GS.fnn [] (cc) rfl rfl rfl rfl (by simp [go_sem, List.take_of_length_le, ren, ren1, ren2, okr, okr1, okr2, ChkN, BlkN, List.range_succ, nf, grammarC, frz] <;> with_reducible rfl) (by simp [go_sem, List.take_of_length_le, ren, ren1, ren2, okr, okr1, okr2, ChkN, BlkN, List.range_succ, nf, grammarC, frz]) (by simp [go_sem, List.take_of_length_le, ren, ren1, ren2, okr, okr1, okr2, ChkN, BlkN, List.range_succ, nf, grammarC, frz]) (by simp [List.range_succ, lb]) (ChkN.toB (by simp [go_sem, List.take_of_length_le, ren, ren1, ren2, okr, okr1, okr2, ChkN, BlkN, List.range_succ, nf, grammarC, frz])) (by decide) (by simp) rfl (.nfr (by simp) .nil) (by simp [go_sem, List.take_of_length_le, ren, ren1, ren2, okr, okr1, okr2, ChkN, BlkN, List.range_succ, nf, grammarC, frz] <;> with_reducible rfl) ?_
            have ci := indexFuncItems 80 [.pi [.im 3 (nodes to)]] (fun o => decide (o = to)) sts (by omega) rfl (fun x hx => states1 x to (by have := (hstok.st x hx).2.2.2; omega))
            rw [show fstP (fun o => decide (o = to)) sts 0 = plX sts to from rfl] at ci
            refine wkc (And.intro @grammarC.eq_1 (@frz.eq_1)) _ ?_
            refine GS.cd (ci) rfl rfl rfl rfl (by simp [go_sem, List.take_of_length_le] <;> with_reducible rfl) rfl (by exact .cons (fz_itemssD _ rfl rfl) (.cons (Fz.fnL (.cons (Fz.pbM rfl rfl rfl (.cons (Fz.all rfl rfl (by simp) rfl (nodes_ok _)) .nil)) .nil)) .nil)) rfl ?_
            rcases hpl with ⟨_, hm1⟩ | ⟨i2, h1, h2, h3⟩
            · rw [if_pos hm1] at hsd
              subst hsd
              rw [hm1]
              by_cases h60 : sts.length = 60
              · have h60i : (60 : Int) ≤ (sts.length : Int) := by omega
                have h60n : 60 ≤ sts.length := by omega
                rw [hmany (by simp only [List.length_append, List.length_singleton] at hmono; omega)]
                refine wkc (And.intro @hbs (And.intro @h60i (@h60n))) _ ?_
                refine OutF.cov (Cov.nir (n := 1) (j := 0) (i := 0) 99 1 rfl rfl rfl) ?_
                refine OutF.cov (Cov.nir (n := 1) (j := 0) (i := 1) 25 1 rfl rfl rfl) ?_
                refine OutF.mkn (xs := ?_) (nm [13, 14]) ?_ ?_ ?_ ?_ ?_ (by first | exact .inr rfl | exact .inl rfl)
                rotate_left
                · simp [go_sem, List.take_of_length_le, nirw, show itemssO [] = [] from rfl, show intssO [] = [] from rfl] <;> with_reducible rfl
                · simp [go_sem, List.take_of_length_le, ren, ren1, ren2, okr, okr1, okr2, ChkN, BlkN, List.range_succ, nf, nirw, show itemssO [] = [] from rfl, show intssO [] = [] from rfl]
                · simp [go_sem, List.take_of_length_le, ren, ren1, ren2, okr, okr1, okr2, ChkN, BlkN, List.range_succ, nf, nirw, show itemssO [] = [] from rfl, show intssO [] = [] from rfl]
                · simp [go_sem, List.take_of_length_le, ren, ren1, ren2, okr, okr1, okr2, ChkN, BlkN, List.range_succ, nf, nirw, show itemssO [] = [] from rfl, show intssO [] = [] from rfl]
                · rfl
              · have h60i : ¬ (60 : Int) ≤ (sts.length : Int) := by omega
                have h60n : ¬ 60 ≤ sts.length := by omega
                refine wkc (And.intro @hbs (And.intro @hbr (And.intro @h60i (@h60n)))) _ ?_
                refine ⟨(i + 1, (sts ++ [to], row ++ [(sts.length : Int)])), ⟨by dsimp only; omega, hok2, by dsimp only; rw [List.getElem?_append_left hlt]; exact hS, by simp; omega, by simp [hrl], hrun⟩, by dsimp only; omega, ?_⟩
                rw [stepx]
                refine Cov.trans ?_ (Cov.close 12 sts.length 0 rfl (iAt sts _) rfl rfl rfl rfl (by simp) (by simp))
                simp only [rm, st, List.set_set]
                exact Cov.ofn (nm [0, 1, 2, 12, 4, 15]) rfl (by simp [go_sem, List.take_of_length_le, ren, ren1, ren2, okr, okr1, okr2, ChkT, ChkN, BlkN, nf, grammarC, iSnoc, iApp, ints_snoc]) (by simp [go_sem, List.take_of_length_le, ren, ren1, ren2, okr, okr1, okr2, ChkT, ChkN, BlkN, nf, grammarC, iSnoc, iApp, ints_snoc])
            · have hm2 : ¬ plX sts to = -1 := by omega
              have hm3 : ¬ (i2 : Int) < 0 := by omega
              have h60i : ¬ (60 : Int) ≤ (i2 : Int) := by omega
              have h60n : ¬ 60 ≤ i2 := by omega
              rw [if_neg hm2, h3] at hsd
              subst hsd
              rw [h3]
              refine wkc (And.intro @hbr (And.intro @hm3 (And.intro @h60i (@h60n)))) _ ?_
              refine ⟨(i + 1, (sts, row ++ [(i2 : Int)])), ⟨by dsimp only; omega, hok2, hS, hfew, by simp [hrl], hrun⟩, by dsimp only; omega, ?_⟩
              rw [stepx]
              exact Cov.ofn (nm [0, 1, 2, 3, 4, 12]) rfl (by simp [go_sem, List.take_of_length_le, ren, ren1, ren2, okr, okr1, okr2, ChkT, ChkN, BlkN, nf, grammarC, ints_snoc]) (by simp [go_sem, List.take_of_length_le, ren, ren1, ren2, okr, okr1, okr2, ChkT, ChkN, BlkN, nf, grammarC, ints_snoc])
    · have hie : i = (symsX g).length := by simp at h; omega
      subst hie
      rw [List.drop_length] at hrun
      change (sts, row) = R at hrun
      subst hrun
      dsimp only at hmany hnext
      have hbg : (gs.length + 1) * 24 ≤ 140737488355328 := by omega
      refine wkc (@hbg) _ ?_
      refine ⟨(sts, gs ++ [row]), hnext (by omega), by dsimp only; rw [List.length_append, List.length_singleton]; omega, ?_⟩
      rw [stepk]
      refine Cov.trans ?_ (Cov.close 8 gs.length 0 rfl (oAt gs _) rfl rfl rfl rfl (by simp) (by simp))
      simp only [rm, st, List.set_set]
      exact Cov.ofn (nm [0, 1, 2, 3, 8]) rfl (by simp [go_sem, List.take_of_length_le, ren, ren1, ren2, okr, okr1, okr2, ChkT, ChkN, BlkN, nf, grammarC, oSnoc, oApp]) (by simp [go_sem, List.take_of_length_le, ren, ren1, ren2, okr, okr1, okr2, ChkT, ChkN, BlkN, nf, grammarC, oSnoc, oApp])
  · rw [hI.end_ (by dsimp only; simp at h; omega)]
    refine wkc0 _ ?_
    refine OutF.mkn (xs := ?_) (nm [3, 4]) ?_ ?_ ?_ ?_ ?_ (by first | exact .inr rfl | exact .inl rfl)
    rotate_left
    · simp [go_sem, List.take_of_length_le] <;> with_reducible rfl
    · simp [go_sem, List.take_of_length_le, ren, ren1, ren2, okr, okr1, okr2, ChkN, BlkN, List.range_succ, nf]
    · simp [go_sem, List.take_of_length_le, ren, ren1, ren2, okr, okr1, okr2, ChkN, BlkN, List.range_succ, nf]
    · simp [go_sem, List.take_of_length_le, ren, ren1, ren2, okr, okr1, okr2, ChkN, BlkN, List.range_succ, nf]
    · rfl
end Go.Proofs.Ytkolhcoeifghpaa.En
end
section
namespace Go.Proofs.Ytkolhcoeifghpaa.En
open Go.RowKit
set_option linter.unusedSimpArgs false
set_option linter.unusedVariables false
set_option maxHeartbeats 4000000
theorem eqItem (a b : Node3) : Pure Try.prog 105 [.ag (nodeC a), .ag (nodeC b)] (.v (.bool (decide (a = b)))) := by
  refine Pure.mk (rs := [.tmp 4]) (nt := 20) Try.func105 rfl rfl rfl rfl (by simp) ?_
  simp only [sl, nodeC]
  refine wk0 _ ?_
  refine Holds.cond rfl (fun hl => ?_) (fun h1 => ?_)
  · have : ¬ a = b := by rintro rfl; simp at hl
    simp only [this, decide_false]
    refine wk0 _ ?_
    refine Out.mk (xs := ?_) ?_ ?_ (by first | exact .inr rfl | exact .inl rfl)
    rotate_left
    · simp [go_sem, List.take_of_length_le] <;> with_reducible rfl
    exact .v _
  refine wk0 _ ?_
  refine Holds.cond rfl (fun hl => ?_) (fun h2 => ?_)
  · have : ¬ a = b := by rintro rfl; simp at hl
    simp only [this, decide_false]
    refine wk0 _ ?_
    refine Out.mk (xs := ?_) ?_ ?_ (by first | exact .inr rfl | exact .inl rfl)
    rotate_left
    · simp [go_sem, List.take_of_length_le] <;> with_reducible rfl
    exact .v _
  refine wk0 _ ?_
  refine Holds.cond rfl (fun hl => ?_) (fun h3 => ?_)
  · have : ¬ a = b := by rintro rfl; simp at hl
    simp only [this, decide_false]
    refine wk0 _ ?_
    refine Out.mk (xs := ?_) ?_ ?_ (by first | exact .inr rfl | exact .inl rfl)
    rotate_left
    · simp [go_sem, List.take_of_length_le] <;> with_reducible rfl
    exact .v _
  have : a = b := by
    obtain ⟨a1, a2, a3⟩ := a
    obtain ⟨b1, b2, b3⟩ := b
    simp at h1 h2 h3
    simp [h1, h2, h3]
  simp only [this, decide_true]
  refine wk0 _ ?_
  refine Out.mk (xs := ?_) ?_ ?_ (by first | exact .inr rfl | exact .inl rfl)
  rotate_left
  · simp [go_sem, List.take_of_length_le] <;> with_reducible rfl
  exact .v _

theorem eqItemS (xs ys : List Node3) (hx : xs.length < 4611686018427387904) : Pure Try.prog 82 [.im 3 (nodes xs), .im 3 (nodes ys)] (.v (.bool (decide (xs = ys)))) := by
  refine Pure.mk (rs := [.tmp 4]) (nt := 27) Try.func82 rfl rfl rfl rfl (by simp) ?_
  simp only [sl]
  refine wkd0 _ ?_
  refine Holds.cond rfl (fun hl => ?_) (fun hl => ?_)
  · have : ¬ xs = ys := by rintro rfl; simp at hl
    simp only [this, decide_false]
    refine wkd0 _ ?_
    refine Out.mk (xs := ?_) ?_ ?_ (by first | exact .inr rfl | exact .inl rfl)
    rotate_left
    · simp [go_sem, List.take_of_length_le] <;> with_reducible rfl
    exact .v _
  · have hlen : xs.length = ys.length := by
      have : (xs.length : Int) = ys.length := by simpa using hl
      omega
    refine wkd0 _ ?_
    refine Holds.loop (ι := Nat) (fun i => ⟨[(0, .im 3 (nodes xs)), (1, .im 3 (nodes ys)), (5, .v (.int .i64 i))], [], 0⟩) (fun i => i ≤ xs.length ∧ xs.take i = ys.take i) (fun i => xs.length - i) 0 ⟨Nat.zero_le _, rfl⟩ ?_ ?_
    · exact Cov.of id (by simp [ChkT, okr, okr1, lk, ren, ren1]) (by simp [ChkB])
    rintro i ⟨hi, htk⟩
    refine wkd0 _ ?_
    refine Holds.cond rfl (fun hl => ?_) (fun hl => ?_)
    · have hlt : i < xs.length := by simpa using hl
      have hxi : xs[i]? = some xs[i] := List.getElem?_eq_getElem hlt
      have hyi : ys[i]? = some ys[i] := List.getElem?_eq_getElem (by omega)
      refine wkd (And.intro @hxi (And.intro @hyi (@nodeC.eq_1))) _ ?_
      first | refine GS.cc (eqItem xs[i] ys[i]) rfl rfl rfl rfl (by simp [go_sem, List.take_of_length_le, nodeC] <;> with_reducible rfl) rfl (by simp [go_sem, List.take_of_length_le, nodeC]) ?_ | refine Gd.cc (eqItem xs[i] ys[i]) rfl rfl rfl rfl (by simp [go_sem, List.take_of_length_le, nodeC] <;> with_reducible rfl) rfl (by simp [go_sem, List.take_of_length_le, nodeC]) ?_
      refine wkd0 _ ?_
      refine Holds.cond rfl (fun hl => ?_) (fun hl => ?_)
      · have hne : ¬ xs = ys := ne_at hxi hyi (by simpa using hl)
        simp only [hne, decide_false]
        refine wkd0 _ ?_
        refine Out.mk (xs := ?_) ?_ ?_ (by first | exact .inr rfl | exact .inl rfl)
        rotate_left
        · simp [go_sem, List.take_of_length_le] <;> with_reducible rfl
        exact .v _
      · have he : xs[i] = ys[i] := by simpa using hl
        refine wkd0 _ ?_
        refine ⟨i + 1, ⟨by omega, (take_next hxi hyi htk).2 he⟩, by omega, ?_⟩
        rw [wr64_id (by omega) (by omega)]
        exact Cov.of id (by simp [ChkT, okr, okr1, lk, ren, ren1]) (by simp [ChkB])
    · have hle : i = xs.length := by
        have : ¬ i < xs.length := by simpa using hl
        omega
      have he : xs = ys := by
        subst hle
        rw [List.take_length, hlen, List.take_length] at htk
        exact htk
      simp only [he, decide_true]
      refine wkd0 _ ?_
      refine Out.mk (xs := ?_) ?_ ?_ (by first | exact .inr rfl | exact .inl rfl)
      rotate_left
      · simp [go_sem, List.take_of_length_le] <;> with_reducible rfl
      exact .v _

theorem markItemS (l : List (Node3)) (k : Int) (h0 : 0 ≤ k) (h1 : k + wtL wNode l ≤ 4611686018427387904) (h2 : l.length ≤ 4611686018427387904) : Fn Try.prog 83 1 [.own 0 3 0 l.length, .v (.int .i64 k)] [(0, ⟨102, 3, nodes l⟩)] (.v (.int .i64 (k + wtL wNode l))) 1 [(0, ⟨102, 3, nodes (mkL wNode mNode k l)⟩)] := by
  have hl0 : (nodes (mkL wNode mNode k l)).length = (nodes l).length := by simp
  have hl1 : (nodes l).length = l.length := by simp
  refine Fn.mk (rs := [.tmp 4]) (nt := 34) Try.func83 (by kernel_rfl) rfl rfl rfl (by simp) ?_
  simp only [sl]
  refine wk0 _ ?_
  refine Holds.loop (ι := Nat) (fun i => ⟨[(0, .own 0 3 0 l.length), (1, .v (.int .i64 (k + wtL wNode (l.take i)))), (5, .v (.int .i64 i))], [(0, ⟨102, 3, mid (nodes (mkL wNode mNode k l)) (nodes l) i⟩)], 1⟩) (fun i => i ≤ l.length) (fun i => l.length - i) 0 (Nat.zero_le _) ?_ ?_
  · exact Cov.ofn (id) rfl (by simp [go_sem, List.take_of_length_le, ren, ren1, ren2, okr, okr1, okr2, ChkT, ChkN, BlkN, nf, wtL]) (by simp [go_sem, List.take_of_length_le, ren, ren1, ren2, okr, okr1, okr2, ChkT, ChkN, BlkN, nf, wtL])
  intro i hi
  have hml := (mid_len (i := i) hl0).trans hl1
  refine wk (@hml) _ ?_
  refine Holds.cond rfl (fun hl => ?_) (fun hl => ?_)
  · have hlt : i < l.length := by simpa using hl
    have hxi : l[i]? = some l[i] := List.getElem?_eq_getElem hlt
    have hwn := wtL_next wNode hxi
    have hwl := wtL_le wNode l (i + 1)
    have hmk : (mkL wNode mNode k l)[i]? = some (mNode (k + wtL wNode (l.take i)) l[i]) := by rw [mkL_get, hxi]; rfl
    have hhi := (mid_get hl0 (i := i) (by simpa using hlt)).trans (show (nodes l)[i]? = some (nodeC l[i]) by simp [hxi])
    have hhs := mid_set hl0 (i := i) (by simpa using hlt) (show (nodes (mkL wNode mNode k l))[i]? = some (nodeC (mNode (k + wtL wNode (l.take i)) l[i])) by simp [hmk])
    have hnf : nfr (mid (nodes (mkL wNode mNode k l)) (nodes l) i) := nfr_mid (by simp) (by simp)
    have hnf1 : nfr (mid (nodes (mkL wNode mNode k l)) (nodes l) (i + 1)) := nfr_mid (by simp) (by simp)
    have hW0 : (0 : Int) ≤ (wtL wNode (l.take i) : Int) := Int.natCast_nonneg _
    generalize wtL wNode (l.take i) = W at hwn hmk hhs hW0 ⊢
    generalize hX : l[i] = x at hxi hwn hmk hhi hhs
    simp only [wNode] at hwn
    simp only [nodeC, mNode] at hhs
    simp only [nodeC] at hhi
    have hhe := get_E hhi
    have hw0 : wr64 ((k + W : Int) + 1) = (k + W : Int) + 1 := wr64_id (by omega) (by omega)
    have hw1 : wr64 ((k + W : Int) + 1 + 1) = (k + W : Int) + 1 + 1 := wr64_id (by omega) (by omega)
    have hw2 : wr64 ((k + W : Int) + 1 + 1 + 1) = (k + W : Int) + 1 + 1 + 1 := wr64_id (by omega) (by omega)
    refine wk (And.intro @hml (And.intro @hhi (And.intro @hhe (And.intro @hlt (And.intro @hl0 (And.intro @hw0 (And.intro @hw1 (@hw2)))))))) _ ?_
    refine ⟨i + 1, by omega, by omega, ?_⟩
    rw [show wr64 ((i : Int) + 1) = ((i + 1 : Nat) : Int) from wr64_id (by omega) (by omega), hwn]
    exact Cov.ofn (id) rfl (by simp [go_sem, List.take_of_length_le, ren, ren1, ren2, okr, okr1, okr2, ChkT, ChkN, BlkN, nf, hhs, hnf, hnf1, Int.add_assoc]) (by simp [go_sem, List.take_of_length_le, ren, ren1, ren2, okr, okr1, okr2, ChkT, ChkN, BlkN, nf, hhs, hnf, hnf1])
  · have hle : i = l.length := by
      have : ¬ i < l.length := by simpa using hl
      omega
    subst hle
    rw [mid_all (by simp) (by simp), List.take_length]
    refine wk0 _ ?_
    refine OutF.mkn (xs := ?_) (nm [0]) ?_ ?_ ?_ ?_ ?_ (by first | exact .inr rfl | exact .inl rfl)
    rotate_left
    · simp [go_sem, List.take_of_length_le] <;> with_reducible rfl
    · simp [go_sem, List.take_of_length_le, ren, ren1, ren2, okr, okr1, okr2, ChkN, BlkN, List.range_succ, nf]
    · simp [go_sem, List.take_of_length_le, ren, ren1, ren2, okr, okr1, okr2, ChkN, BlkN, List.range_succ, nf]
    · simp [go_sem, List.take_of_length_le, ren, ren1, ren2, okr, okr1, okr2, ChkN, BlkN, List.range_succ, nf]
    · rfl
theorem heldItemS (l : List (Node3)) (k : Int) (h0 : 0 ≤ k) (h1 : k + wtL wNode l ≤ 4611686018427387904) (h2 : l.length ≤ 4611686018427387904) : Pure Try.prog 84 [.im 3 (nodes (mkL wNode mNode k l)), .v (.int .i64 k)] (.v (.int .i64 (k + wtL wNode l))) := by
  have hl0 : (nodes (mkL wNode mNode k l)).length = l.length := by simp
  refine Pure.mk (rs := [.tmp 4]) (nt := 40) Try.func84 (by kernel_rfl) rfl rfl rfl (by simp) ?_
  simp only [sl]
  refine wk0 _ ?_
  refine Holds.loop (ι := Nat) (fun i => ⟨[(0, .im 3 (nodes (mkL wNode mNode k l))), (1, .v (.int .i64 (k + wtL wNode (l.take i)))), (5, .v (.int .i64 i))], [], 0⟩) (fun i => i ≤ l.length) (fun i => l.length - i) 0 (Nat.zero_le _) ?_ ?_
  · exact Cov.ofn (id) rfl (by simp [go_sem, List.take_of_length_le, ren, ren1, ren2, okr, okr1, okr2, ChkT, ChkN, BlkN, nf, wtL]) (by simp [go_sem, List.take_of_length_le, ren, ren1, ren2, okr, okr1, okr2, ChkT, ChkN, BlkN, nf, wtL])
  intro i hi
  refine wk (@hl0) _ ?_
  refine Holds.cond rfl (fun hl => ?_) (fun hl => ?_)
  · have hlt : i < l.length := by simpa using hl
    have hxi : l[i]? = some l[i] := List.getElem?_eq_getElem hlt
    have hwn := wtL_next wNode hxi
    have hwl := wtL_le wNode l (i + 1)
    have hhi : (nodes (mkL wNode mNode k l))[i]? = some (nodeC (mNode (k + wtL wNode (l.take i)) l[i])) := by simp [mkL_get, hxi]
    have hW0 : (0 : Int) ≤ (wtL wNode (l.take i) : Int) := Int.natCast_nonneg _
    generalize wtL wNode (l.take i) = W at hwn hhi hW0 ⊢
    generalize hX : l[i] = x at hxi hwn hhi
    simp only [wNode] at hwn
    simp only [nodeC, mNode] at hhi
    have hhe := get_E hhi
    generalize nodes (mkL wNode mNode k l) = rowsM at hhi hhe hl0 ⊢
    refine wk (And.intro @hhi (And.intro @hhe (And.intro @hlt (@hl0)))) _ ?_
    refine Holds.cond rfl (fun hl => absurd hl (by simp)) (fun hl => ?_)
    have hw0 : wr64 ((k + W : Int) + 1) = (k + W : Int) + 1 := wr64_id (by omega) (by omega)
    refine wk (And.intro @hhi (And.intro @hhe (And.intro @hlt (And.intro @hl0 (@hw0))))) _ ?_
    refine Holds.cond rfl (fun hl => absurd hl (by simp)) (fun hl => ?_)
    have hw1 : wr64 ((k + W : Int) + 1 + 1) = (k + W : Int) + 1 + 1 := wr64_id (by omega) (by omega)
    refine wk (And.intro @hhi (And.intro @hhe (And.intro @hlt (And.intro @hl0 (And.intro @hw0 (@hw1)))))) _ ?_
    refine Holds.cond rfl (fun hl => absurd hl (by simp)) (fun hl => ?_)
    have hw2 : wr64 ((k + W : Int) + 1 + 1 + 1) = (k + W : Int) + 1 + 1 + 1 := wr64_id (by omega) (by omega)
    refine wk (And.intro @hhi (And.intro @hhe (And.intro @hlt (And.intro @hl0 (And.intro @hw0 (And.intro @hw1 (@hw2))))))) _ ?_
    refine ⟨i + 1, by omega, by omega, ?_⟩
    rw [show wr64 ((i : Int) + 1) = ((i + 1 : Nat) : Int) from wr64_id (by omega) (by omega), hwn]
    exact Cov.ofn (id) rfl (by simp [go_sem, List.take_of_length_le, ren, ren1, ren2, okr, okr1, okr2, ChkT, ChkN, BlkN, nf, Int.add_assoc]) (by simp [go_sem, List.take_of_length_le, ren, ren1, ren2, okr, okr1, okr2, ChkT, ChkN, BlkN, nf])
  · have hle : i = l.length := by
      have : ¬ i < l.length := by simpa using hl
      omega
    subst hle
    rw [List.take_length]
    refine wk (@hl0) _ ?_
    refine Out.mk (xs := ?_) ?_ ?_ (by first | exact .inr rfl | exact .inl rfl)
    rotate_left
    · simp [go_sem, List.take_of_length_le] <;> with_reducible rfl
    exact .v _
end Go.Proofs.Ytkolhcoeifghpaa.En
end
section
namespace Go.Proofs.Ytkolhcoeifghpaa.En
open Go.RowKit
set_option linter.unusedSimpArgs false
set_option linter.unusedVariables false
set_option maxHeartbeats 4000000
@[simp] theorem onyR_dones (l : List (DoneT)) : onyR (dones l) := fun row hr x hx => by
  have := dones_ok l row hr x hx
  simp only [dones, List.mem_map] at hr
  obtain ⟨n, _, rfl⟩ := hr
  simp only [doneC, List.mem_cons, List.not_mem_nil, or_false] at hx
  rcases hx with rfl | rfl | rfl | rfl <;> simp
end Go.Proofs.Ytkolhcoeifghpaa.En
end
section
namespace Go.Proofs.Ytkolhcoeifghpaa.En
open Go.RowKit
set_option linter.unusedSimpArgs false
set_option linter.unusedVariables false
theorem wtL_bound {α : Type} {w : α → Nat} {c : Nat} : ∀ {xs : List α}, (∀ x ∈ xs, w x ≤ c) → wtL w xs ≤ c * xs.length
  | [], _ => by simp [wtL]
  | x :: xs, h => by
    have h1 := h x (by simp)
    have h2 := wtL_bound (xs := xs) (fun y hy => h y (by simp [hy]))
    simp only [wtL, List.length_cons, Nat.mul_succ]; omega
end Go.Proofs.Ytkolhcoeifghpaa.En
end
section
namespace Go.Proofs.Ytkolhcoeifghpaa.En
open Go.RowKit
set_option linter.unusedSimpArgs false
set_option linter.unusedVariables false
set_option maxHeartbeats 4000000
def wItemS (x : List Node3) : Nat := wtL wNode x
def mItemS (k : Int) (x : List Node3) : List Node3 := mkL wNode mNode k x
@[simp] theorem onyR_itemssO (l : Sets3) : onyR (itemssO l) := ony_itemssO l
def lrC (x : LrT) : List AV := [.im 1 (itemss x.1), .im 1 (intss x.2)]
theorem markItemSS (l : List (List Node3)) (k : Int) (h0 : 0 ≤ k) (h1 : k + wtL wItemS l ≤ 4611686018427387904) (h2 : l.length ≤ 4611686018427387904) (hs : ∀ q ∈ l, q.length ≤ 4611686018427387904) : Fn Try.prog 45 1 [.own 0 1 0 l.length, .v (.int .i64 k)] [(0, ⟨99, 1, itemssO l⟩)] (.v (.int .i64 (k + wtL wItemS l))) 1 [(0, ⟨99, 1, itemssO (mkL wItemS mItemS k l)⟩)] := by
  have hl0 : (itemssO (mkL wItemS mItemS k l)).length = (itemssO l).length := by simp
  have hl1 : (itemssO l).length = l.length := by simp
  refine Fn.mk (rs := [.tmp 4]) (nt := 19) Try.func45 (by kernel_rfl) rfl rfl rfl (by simp) ?_
  simp only [sl]
  refine wk0 _ ?_
  refine Holds.loop (ι := Nat) (fun i => ⟨[(0, .own 0 1 0 l.length), (1, .v (.int .i64 (k + wtL wItemS (l.take i)))), (5, .v (.int .i64 i))], [(0, ⟨99, 1, mid (itemssO (mkL wItemS mItemS k l)) (itemssO l) i⟩)], 1⟩) (fun i => i ≤ l.length) (fun i => l.length - i) 0 (Nat.zero_le _) ?_ ?_
  · exact Cov.ofn (id) rfl (by simp [go_sem, List.take_of_length_le, ren, ren1, ren2, okr, okr1, okr2, ChkT, ChkN, BlkN, nf, wtL]) (by simp [go_sem, List.take_of_length_le, ren, ren1, ren2, okr, okr1, okr2, ChkT, ChkN, BlkN, nf, wtL])
  intro i hi
  have hml := (mid_len (i := i) hl0).trans hl1
  refine wk (@hml) _ ?_
  refine Holds.cond rfl (fun hl => ?_) (fun hl => ?_)
  · have hlt : i < l.length := by simpa using hl
    have hxi : l[i]? = some l[i] := List.getElem?_eq_getElem hlt
    have hwn := wtL_next wItemS hxi
    have hwl := wtL_le wItemS l (i + 1)
    have hmk : (mkL wItemS mItemS k l)[i]? = some (mItemS (k + wtL wItemS (l.take i)) l[i]) := by rw [mkL_get, hxi]; rfl
    have hhi := (mid_get hl0 (i := i) (by simpa using hlt)).trans (show (itemssO l)[i]? = some (itemO l[i]) by simp [hxi])
    have hhs := mid_set hl0 (i := i) (by simpa using hlt) (show (itemssO (mkL wItemS mItemS k l))[i]? = some (itemO (mItemS (k + wtL wItemS (l.take i)) l[i])) by simp [hmk])
    have hnf : nfr (mid (itemssO (mkL wItemS mItemS k l)) (itemssO l) i) := nfr_mid (by simp) (by simp)
    have hnf1 : nfr (mid (itemssO (mkL wItemS mItemS k l)) (itemssO l) (i + 1)) := nfr_mid (by simp) (by simp)
    have hW0 : (0 : Int) ≤ (wtL wItemS (l.take i) : Int) := Int.natCast_nonneg _
    generalize wtL wItemS (l.take i) = W at hwn hmk hhs hW0 ⊢
    generalize hX : l[i] = x at hxi hwn hmk hhi hhs
    simp only [wItemS] at hwn
    simp only [itemO, mItemS] at hhs
    simp only [itemO] at hhi
    have hhe := get_E hhi
    refine wk (And.intro @hml (And.intro @hhi (And.intro @hhe (And.intro @hlt (@hl0))))) _ ?_
    refine GS.fnn [1] (markItemS x ((k + W : Int)) (by omega) (by omega) (hs _ (List.mem_of_getElem? hxi))) rfl rfl rfl rfl (by simp [go_sem, List.take_of_length_le, ren, ren1, ren2, okr, okr1, okr2, ChkN, BlkN, List.range_succ, nf, hml, hhi, hhe, hlt, hl0] <;> with_reducible rfl) (by simp [go_sem, List.take_of_length_le, ren, ren1, ren2, okr, okr1, okr2, ChkN, BlkN, List.range_succ, nf, hml, hhi, hhe, hlt, hl0]) (by simp [go_sem, List.take_of_length_le, ren, ren1, ren2, okr, okr1, okr2, ChkN, BlkN, List.range_succ, nf, hml, hhi, hhe, hlt, hl0]) (by simp [List.range_succ, lb]) (ChkN.toB (by simp [go_sem, List.take_of_length_le, ren, ren1, ren2, okr, okr1, okr2, ChkN, BlkN, List.range_succ, nf, hml, hhi, hhe, hlt, hl0])) (by decide) (by simp) rfl (.nfr (by simp) .nil) (by simp [go_sem, List.take_of_length_le, ren, ren1, ren2, okr, okr1, okr2, ChkN, BlkN, List.range_succ, nf, hml, hhi, hhe, hlt, hl0] <;> with_reducible rfl) ?_
    refine wk (And.intro @hml (And.intro @hhi (And.intro @hhe (And.intro @hlt (@hl0))))) _ ?_
    refine ⟨i + 1, by omega, by omega, ?_⟩
    rw [show wr64 ((i : Int) + 1) = ((i + 1 : Nat) : Int) from wr64_id (by omega) (by omega), hwn]
    refine Cov.trans ?_ (Cov.close 0 i 0 rfl (set_get hhi) rfl rfl rfl rfl (by first | rfl | simp) (by simp))
    simp only [rm, st, List.set_set, List.set_cons_zero, List.set_cons_succ]
    exact Cov.ofn (id) rfl (by simp [go_sem, List.take_of_length_le, ren, ren1, ren2, okr, okr1, okr2, ChkT, ChkN, BlkN, nf, hhs, hnf, hnf1, Int.add_assoc]) (by simp [go_sem, List.take_of_length_le, ren, ren1, ren2, okr, okr1, okr2, ChkT, ChkN, BlkN, nf, hhs, hnf, hnf1])
  · have hle : i = l.length := by
      have : ¬ i < l.length := by simpa using hl
      omega
    subst hle
    rw [mid_all (by simp) (by simp), List.take_length]
    refine wk0 _ ?_
    refine OutF.mkn (xs := ?_) (nm [0]) ?_ ?_ ?_ ?_ ?_ (by first | exact .inr rfl | exact .inl rfl)
    rotate_left
    · simp [go_sem, List.take_of_length_le] <;> with_reducible rfl
    · simp [go_sem, List.take_of_length_le, ren, ren1, ren2, okr, okr1, okr2, ChkN, BlkN, List.range_succ, nf]
    · simp [go_sem, List.take_of_length_le, ren, ren1, ren2, okr, okr1, okr2, ChkN, BlkN, List.range_succ, nf]
    · simp [go_sem, List.take_of_length_le, ren, ren1, ren2, okr, okr1, okr2, ChkN, BlkN, List.range_succ, nf]
    · rfl
theorem heldItemSS (l : List (List Node3)) (k : Int) (h0 : 0 ≤ k) (h1 : k + wtL wItemS l ≤ 4611686018427387904) (h2 : l.length ≤ 4611686018427387904) (hs : ∀ q ∈ l, q.length ≤ 4611686018427387904) : Pure Try.prog 47 [.im 1 (itemss (mkL wItemS mItemS k l)), .v (.int .i64 k)] (.v (.int .i64 (k + wtL wItemS l))) := by
  have hl0 : (itemss (mkL wItemS mItemS k l)).length = l.length := by simp
  refine Pure.mk (rs := [.tmp 4]) (nt := 21) Try.func47 (by kernel_rfl) rfl rfl rfl (by simp) ?_
  simp only [sl]
  refine wk0 _ ?_
  refine Holds.loop (ι := Nat) (fun i => ⟨[(0, .im 1 (itemss (mkL wItemS mItemS k l))), (1, .v (.int .i64 (k + wtL wItemS (l.take i)))), (5, .v (.int .i64 i))], [], 0⟩) (fun i => i ≤ l.length) (fun i => l.length - i) 0 (Nat.zero_le _) ?_ ?_
  · exact Cov.ofn (id) rfl (by simp [go_sem, List.take_of_length_le, ren, ren1, ren2, okr, okr1, okr2, ChkT, ChkN, BlkN, nf, wtL]) (by simp [go_sem, List.take_of_length_le, ren, ren1, ren2, okr, okr1, okr2, ChkT, ChkN, BlkN, nf, wtL])
  intro i hi
  refine wk (@hl0) _ ?_
  refine Holds.cond rfl (fun hl => ?_) (fun hl => ?_)
  · have hlt : i < l.length := by simpa using hl
    have hxi : l[i]? = some l[i] := List.getElem?_eq_getElem hlt
    have hwn := wtL_next wItemS hxi
    have hwl := wtL_le wItemS l (i + 1)
    have hhi : (itemss (mkL wItemS mItemS k l))[i]? = some (itemssC (mItemS (k + wtL wItemS (l.take i)) l[i])) := by simp [mkL_get, hxi]
    have hW0 : (0 : Int) ≤ (wtL wItemS (l.take i) : Int) := Int.natCast_nonneg _
    generalize wtL wItemS (l.take i) = W at hwn hhi hW0 ⊢
    generalize hX : l[i] = x at hxi hwn hhi
    simp only [wItemS] at hwn
    simp only [itemssC, mItemS] at hhi
    have hhe := get_E hhi
    generalize itemss (mkL wItemS mItemS k l) = rowsM at hhi hhe hl0 ⊢
    refine wk (And.intro @hhi (And.intro @hhe (And.intro @hlt (@hl0)))) _ ?_
    have hc0 := heldItemS x ((k + W : Int)) (by omega) (by omega) (hs _ (List.mem_of_getElem? hxi))
    refine GS.cc (hc0) rfl rfl rfl rfl (by simp [go_sem, List.take_of_length_le, hhi, hhe, hlt, hl0] <;> with_reducible rfl) rfl (by simp [go_sem, List.take_of_length_le, hhi, hhe, hlt, hl0]) ?_
    refine wk (And.intro @hhi (And.intro @hhe (And.intro @hlt (@hl0)))) _ ?_
    refine Holds.cond rfl (fun hl => absurd hl (by simp; omega)) (fun hl => ?_)
    refine wk (And.intro @hhi (And.intro @hhe (And.intro @hlt (@hl0)))) _ ?_
    refine ⟨i + 1, by omega, by omega, ?_⟩
    rw [show wr64 ((i : Int) + 1) = ((i + 1 : Nat) : Int) from wr64_id (by omega) (by omega), hwn]
    exact Cov.ofn (id) rfl (by simp [go_sem, List.take_of_length_le, ren, ren1, ren2, okr, okr1, okr2, ChkT, ChkN, BlkN, nf, Int.add_assoc]) (by simp [go_sem, List.take_of_length_le, ren, ren1, ren2, okr, okr1, okr2, ChkT, ChkN, BlkN, nf])
  · have hle : i = l.length := by
      have : ¬ i < l.length := by simpa using hl
      omega
    subst hle
    rw [List.take_length]
    refine wk (@hl0) _ ?_
    refine Out.mk (xs := ?_) ?_ ?_ (by first | exact .inr rfl | exact .inl rfl)
    rotate_left
    · simp [go_sem, List.take_of_length_le] <;> with_reducible rfl
    exact .v _
def wLr (x : LrT) : Nat := wtL wItemS x.1 + wtL wIntS x.2
def mLr (k : Int) (x : LrT) : LrT := (mkL wItemS mItemS (k) x.1, mkL wIntS mIntS (k + wtL wItemS x.1) x.2)
theorem markLr (x : LrT) (k : Int) (h0 : 0 ≤ k) (h1 : k + wLr x ≤ 4611686018427387904) (g00 : x.1.length ≤ 4611686018427387904) (g01 : ∀ q ∈ x.1, q.length ≤ 4611686018427387904) (g10 : x.2.length ≤ 4611686018427387904) : Fn Try.prog 22 2 [.ag [.own 0 1 0 (x.1).length, .own 1 1 0 (x.2).length], .v (.int .i64 k)] [(0, ⟨99, 1, itemssO x.1⟩), (1, ⟨25, 1, intssO x.2⟩)] (.v (.int .i64 (k + wLr x))) 2 [(0, ⟨99, 1, itemssO (mLr k x).1⟩), (1, ⟨25, 1, intssO (mLr k x).2⟩)] := by
  simp only [wLr] at h1
  simp only [wLr, mLr]
  refine Fn.mk (rs := [.tmp 4]) (nt := 14) Try.func22 (by kernel_rfl) rfl rfl rfl (by simp) ?_
  simp only [sl]
  refine wk0 _ ?_
  refine GS.fnn [0] (markItemSS x.1 (k) (by omega) (by omega) g00 g01) rfl rfl rfl rfl (by simp [go_sem, List.take_of_length_le, ren, ren1, ren2, okr, okr1, okr2, ChkN, BlkN, List.range_succ, nf] <;> with_reducible rfl) (by simp [go_sem, List.take_of_length_le, ren, ren1, ren2, okr, okr1, okr2, ChkN, BlkN, List.range_succ, nf]) (by simp [go_sem, List.take_of_length_le, ren, ren1, ren2, okr, okr1, okr2, ChkN, BlkN, List.range_succ, nf]) (by simp [List.range_succ, lb]) (ChkN.toB (by simp [go_sem, List.take_of_length_le, ren, ren1, ren2, okr, okr1, okr2, ChkN, BlkN, List.range_succ, nf])) (by decide) (by simp) rfl (.nfr (by simp) .nil) (by simp [go_sem, List.take_of_length_le, ren, ren1, ren2, okr, okr1, okr2, ChkN, BlkN, List.range_succ, nf] <;> with_reducible rfl) ?_
  refine wk0 _ ?_
  refine GS.fnn [1] (markIntSS x.2 (k + wtL wItemS x.1) (by omega) (by omega) g10) rfl rfl rfl rfl (by simp [go_sem, List.take_of_length_le, ren, ren1, ren2, okr, okr1, okr2, ChkN, BlkN, List.range_succ, nf] <;> with_reducible rfl) (by simp [go_sem, List.take_of_length_le, ren, ren1, ren2, okr, okr1, okr2, ChkN, BlkN, List.range_succ, nf]) (by simp [go_sem, List.take_of_length_le, ren, ren1, ren2, okr, okr1, okr2, ChkN, BlkN, List.range_succ, nf]) (by simp [List.range_succ, lb]) (ChkN.toB (by simp [go_sem, List.take_of_length_le, ren, ren1, ren2, okr, okr1, okr2, ChkN, BlkN, List.range_succ, nf])) (by decide) (by simp) rfl (.nfr (by simp) .nil) (by simp [go_sem, List.take_of_length_le, ren, ren1, ren2, okr, okr1, okr2, ChkN, BlkN, List.range_succ, nf] <;> with_reducible rfl) ?_
  refine wk0 _ ?_
  refine OutF.mkn (xs := ?_) (nm [0, 1]) ?_ ?_ ?_ ?_ ?_ (by first | exact .inr rfl | exact .inl rfl)
  rotate_left
  · simp [go_sem, List.take_of_length_le, Int.add_assoc, cnt] <;> with_reducible rfl
  · simp [go_sem, List.take_of_length_le, ren, ren1, ren2, okr, okr1, okr2, ChkN, BlkN, List.range_succ, nf, Int.add_assoc, cnt]
  · simp [go_sem, List.take_of_length_le, ren, ren1, ren2, okr, okr1, okr2, ChkN, BlkN, List.range_succ, nf, Int.add_assoc, cnt]
  · simp [go_sem, List.take_of_length_le, ren, ren1, ren2, okr, okr1, okr2, ChkN, BlkN, List.range_succ, nf, Int.add_assoc, cnt]
  · rfl
theorem heldLr (x : LrT) (k : Int) (h0 : 0 ≤ k) (h1 : k + wLr x ≤ 4611686018427387904) (g00 : x.1.length ≤ 4611686018427387904) (g01 : ∀ q ∈ x.1, q.length ≤ 4611686018427387904) (g10 : x.2.length ≤ 4611686018427387904) : Pure Try.prog 23 [.ag (lrC (mLr k x)), .v (.int .i64 k)] (.v (.int .i64 (k + wLr x))) := by
  simp only [wLr] at h1
  simp only [wLr, mLr]
  refine Pure.mk (rs := [.tmp 4]) (nt := 18) Try.func23 (by kernel_rfl) rfl rfl rfl (by simp) ?_
  simp only [sl, lrC]
  refine wk0 _ ?_
  refine GS.cc (heldItemSS x.1 (k) (by omega) (by omega) g00 g01) rfl rfl rfl rfl (by simp [go_sem, List.take_of_length_le] <;> with_reducible rfl) rfl (by simp [go_sem, List.take_of_length_le]) ?_
  refine wk0 _ ?_
  refine Holds.cond rfl (fun hl => absurd hl (by simp; omega)) (fun hl => ?_)
  refine wk0 _ ?_
  refine GS.cc (heldIntSS x.2 (k + wtL wItemS x.1) (by omega) (by omega) g10) rfl rfl rfl rfl (by simp [go_sem, List.take_of_length_le] <;> with_reducible rfl) rfl (by simp [go_sem, List.take_of_length_le]) ?_
  refine wk0 _ ?_
  refine Holds.cond rfl (fun hl => absurd hl (by simp; omega)) (fun hl => ?_)
  refine wk0 _ ?_
  try simp only [Int.natCast_add, ← Int.add_assoc]
  refine Out.mk (xs := ?_) ?_ ?_ (by first | exact .inr rfl | exact .inl rfl)
  rotate_left
  · simp [go_sem, List.take_of_length_le] <;> with_reducible rfl
  exact .v _
theorem eqItemSS (xs ys : List (List Node3)) (hx : xs.length < 4611686018427387904) (hs : ∀ e ∈ xs, e.length < 4611686018427387904) : Pure Try.prog 43 [.im 1 (itemss xs), .im 1 (itemss ys)] (.v (.bool (decide (xs = ys)))) := by
  refine Pure.mk (rs := [.tmp 4]) (nt := 27) Try.func43 (by kernel_rfl) rfl rfl rfl (by simp) ?_
  simp only [sl]
  refine wkd0 _ ?_
  refine Holds.cond rfl (fun hl => ?_) (fun hl => ?_)
  · have : ¬ xs = ys := by rintro rfl; simp at hl
    simp only [this, decide_false]
    refine wkd0 _ ?_
    refine Out.mk (xs := ?_) ?_ ?_ (by first | exact .inr rfl | exact .inl rfl)
    rotate_left
    · simp [go_sem, List.take_of_length_le] <;> with_reducible rfl
    exact .v _
  · have hlen : xs.length = ys.length := by
      have : (xs.length : Int) = ys.length := by simpa using hl
      omega
    refine wkd0 _ ?_
    refine Holds.loop (ι := Nat) (fun i => ⟨[(0, .im 1 (itemss xs)), (1, .im 1 (itemss ys)), (5, .v (.int .i64 i))], [], 0⟩) (fun i => i ≤ xs.length ∧ xs.take i = ys.take i) (fun i => xs.length - i) 0 ⟨Nat.zero_le _, rfl⟩ ?_ ?_
    · exact Cov.of id (by simp [ChkT, okr, okr1, lk, ren, ren1]) (by simp [ChkB])
    rintro i ⟨hi, htk⟩
    refine wkd0 _ ?_
    refine Holds.cond rfl (fun hl => ?_) (fun hl => ?_)
    · have hlt : i < xs.length := by simpa using hl
      have hxi : xs[i]? = some xs[i] := List.getElem?_eq_getElem hlt
      have hyi : ys[i]? = some ys[i] := List.getElem?_eq_getElem (by omega)
      refine wkd (And.intro @hxi (And.intro @hyi (@itemssC.eq_1))) _ ?_
      first | refine GS.cc (eqItemS xs[i] ys[i] (hs _ (List.getElem_mem hlt))) rfl rfl rfl rfl (by simp [go_sem, List.take_of_length_le, itemssC] <;> with_reducible rfl) rfl (by simp [go_sem, List.take_of_length_le, itemssC]) ?_ | refine Gd.cc (eqItemS xs[i] ys[i] (hs _ (List.getElem_mem hlt))) rfl rfl rfl rfl (by simp [go_sem, List.take_of_length_le, itemssC] <;> with_reducible rfl) rfl (by simp [go_sem, List.take_of_length_le, itemssC]) ?_
      refine wkd0 _ ?_
      refine Holds.cond rfl (fun hl => ?_) (fun hl => ?_)
      · have hne : ¬ xs = ys := ne_at hxi hyi (by simpa using hl)
        simp only [hne, decide_false]
        refine wkd0 _ ?_
        refine Out.mk (xs := ?_) ?_ ?_ (by first | exact .inr rfl | exact .inl rfl)
        rotate_left
        · simp [go_sem, List.take_of_length_le] <;> with_reducible rfl
        exact .v _
      · have he : xs[i] = ys[i] := by simpa using hl
        refine wkd0 _ ?_
        refine ⟨i + 1, ⟨by omega, (take_next hxi hyi htk).2 he⟩, by omega, ?_⟩
        rw [wr64_id (by omega) (by omega)]
        exact Cov.of id (by simp [ChkT, okr, okr1, lk, ren, ren1]) (by simp [ChkB])
    · have hle : i = xs.length := by
        have : ¬ i < xs.length := by simpa using hl
        omega
      have he : xs = ys := by
        subst hle
        rw [List.take_length, hlen, List.take_length] at htk
        exact htk
      simp only [he, decide_true]
      refine wkd0 _ ?_
      refine Out.mk (xs := ?_) ?_ ?_ (by first | exact .inr rfl | exact .inl rfl)
      rotate_left
      · simp [go_sem, List.take_of_length_le] <;> with_reducible rfl
      exact .v _
theorem eqLr (x y : LrT) (h0 : x.1.length < 4611686018427387904) (h1 : ∀ e ∈ x.1, e.length < 4611686018427387904) (h2 : x.2.length < 4611686018427387904) (h3 : ∀ e ∈ x.2, e.length < 4611686018427387904) : Pure Try.prog 21 [.ag (lrC x), .ag (lrC y)] (.v (.bool (decide (x = y)))) := by
  refine Pure.mk (rs := [.tmp 4]) (nt := 17) Try.func21 (by kernel_rfl) rfl rfl rfl (by simp) ?_
  simp only [sl, lrC]
  have c1 := eqItemSS x.1 y.1 h0 h1
  have c2 := eqIntSS x.2 y.2 h2 h3
  refine wk0 _ ?_
  refine GS.cc (c1) rfl rfl rfl rfl (by simp [go_sem, List.take_of_length_le] <;> with_reducible rfl) rfl (by simp [go_sem, List.take_of_length_le]) ?_
  by_cases e1 : x.1 = y.1
  · rw [decide_eq_true e1]
    refine wk0 _ ?_
    refine Holds.cond rfl (fun h => by cases h) (fun h => ?_)
    refine wk0 _ ?_
    refine GS.cc (c2) rfl rfl rfl rfl (by simp [go_sem, List.take_of_length_le] <;> with_reducible rfl) rfl (by simp [go_sem, List.take_of_length_le]) ?_
    by_cases e2 : x.2 = y.2
    · rw [decide_eq_true e2, decide_eq_true (Prod.ext e1 e2)]
      refine wk0 _ ?_
      refine Holds.cond rfl (fun h => by cases h) (fun h => ?_)
      refine wk0 _ ?_
      refine Out.mk (xs := ?_) ?_ ?_ (by first | exact .inr rfl | exact .inl rfl)
      rotate_left
      · simp [go_sem, List.take_of_length_le] <;> with_reducible rfl
      exact .v _
    · rw [decide_eq_false e2, decide_eq_false (show ¬ x = y by intro e; subst e; exact e2 rfl)]
      refine wk0 _ ?_
      refine Holds.cond rfl (fun h => ?_) (fun h => by cases h)
      refine wk0 _ ?_
      refine Out.mk (xs := ?_) ?_ ?_ (by first | exact .inr rfl | exact .inl rfl)
      rotate_left
      · simp [go_sem, List.take_of_length_le] <;> with_reducible rfl
      exact .v _
  · rw [decide_eq_false e1, decide_eq_false (show ¬ x = y by intro e; subst e; exact e1 rfl)]
    refine wk0 _ ?_
    refine Holds.cond rfl (fun h => ?_) (fun h => by cases h)
    refine wk0 _ ?_
    refine Out.mk (xs := ?_) ?_ ?_ (by first | exact .inr rfl | exact .inl rfl)
    rotate_left
    · simp [go_sem, List.take_of_length_le] <;> with_reducible rfl
    exact .v _
end Go.Proofs.Ytkolhcoeifghpaa.En
end
section
namespace Go.Proofs.Ytkolhcoeifghpaa.En
open Go.RowKit
set_option linter.unusedSimpArgs false
set_option linter.unusedVariables false
set_option maxHeartbeats 4000000
noncomputable def statesX (g : GrammarT) : LrT × Bool := if goodG g = true then lrV g else (([], []), false)
theorem lrRun_no (g : GrammarT) : ∀ (n : Nat) (L : LrT), (lrRun g n L).2 = false → lrRun g n L = (([], []), false)
  | 0, L, _ => rfl
  | n + 1, L, h => by
    cases hS : L.1[L.2.length]? with
    | none => simp only [lrRun, hS] at h; cases h
    | some S =>
      simp only [lrRun, hS] at h ⊢
      split
      · rfl
      · rename_i hn
        rw [if_neg hn] at h
        exact lrRun_no g n _ h
theorem statesX_len (g : GrammarT) : (statesX g).1.1.length ≤ 60 ∧ (∀ e ∈ (statesX g).1.1, e.length ≤ 85) ∧ (statesX g).1.2.length ≤ 60 ∧ (∀ e ∈ (statesX g).1.2, e.length ≤ 10) ∧ wLr (statesX g).1 ≤ 100000 := by
  have key : ∀ L : LrT, L.1.length ≤ 60 → (∀ e ∈ L.1, e.length ≤ 85) → L.2.length ≤ 60 → (∀ e ∈ L.2, e.length ≤ 10) → L.1.length ≤ 60 ∧ (∀ e ∈ L.1, e.length ≤ 85) ∧ L.2.length ≤ 60 ∧ (∀ e ∈ L.2, e.length ≤ 10) ∧ wLr L ≤ 100000 := fun L a b c d => by
    refine ⟨a, b, c, d, ?_⟩
    have h1 := wtL_bound (w := wItemS) (c := 255) (xs := L.1) fun x hx => by
      have := b x hx
      rw [wItemS, show wNode = fun _ => 3 from funext fun _ => rfl, wtL_const]
      omega
    have h2 := wtL_bound (w := wIntS) (c := 10) (xs := L.2) fun x hx => by
      have := d x hx
      rw [wIntS, wtL_w1]
      omega
    rw [wLr]
    omega
  by_cases hg : goodG g = true
  · have hG := goodG_ok hg
    rw [statesX, if_pos hg]
    cases h : (lrV g).2 with
    | true =>
      obtain ⟨h1, h2, h3⟩ := lrV_ok hG h
      refine key _ h3 (fun e he => (h1.ok.st e he).2.2.2) (by omega) fun e he => ?_
      obtain ⟨i, hi⟩ := List.mem_iff_getElem?.1 he
      have hlt := (List.getElem?_eq_some_iff.1 hi).1
      have hr := h1.row i _ e (List.getElem?_eq_getElem (by omega)) hi
      have := symsX_len hG
      have := hG.n1
      have := hG.t1
      have := hr.1
      omega
    | false =>
      rw [show lrV g = (([], []), false) from lrRun_no g 61 _ h]
      exact key _ (by simp) (by simp) (by simp) (by simp)
  · rw [statesX, if_neg hg]
    exact key _ (by simp) (by simp) (by simp) (by simp)
theorem specStates (g : GrammarT) (hx : g.2.2.length < 4611686018427387904) (hs : ∀ e ∈ g.2.2, e.2.length < 4611686018427387904) : Pure Try.prog 19 [.ag (grammarC g)] (.tu [.ag (lrC (statesX g).1), .v (.bool (statesX g).2)]) := by
  have cg := specGoodG g hx hs
  unfold statesX
  refine Pure.mk (rs := [.cell 2 44, .tmp 3]) (nt := 12) Try.func19 (by kernel_rfl) rfl rfl rfl (by simp) ?_
  simp only [sl, grammarC]
  refine wkc0 _ ?_
  cases hg : goodG g with
  | false =>
    rw [hg] at cg
    simp only [Bool.false_eq_true, if_false]
    refine GS.cc (cg) rfl rfl rfl rfl (by simp [go_sem, List.take_of_length_le, grammarC] <;> with_reducible rfl) rfl (by simp [go_sem, List.take_of_length_le, grammarC]) ?_
    refine wkc0 _ ?_
    refine Out.mk (xs := ?_) ?_ ?_ (by first | exact .inr rfl | exact .inl rfl)
    rotate_left
    · simp [go_sem, List.take_of_length_le] <;> with_reducible rfl
    exact Fz.tuL (.cons (Fz.agL (.cons (Fz.nl _) (.cons (Fz.nl _) .nil))) (.cons (.v _) .nil))
  | true =>
    rw [hg] at cg
    simp only [if_true]
    have cl := l15States g (goodG_ok hg)
    refine GS.cc (cg) rfl rfl rfl rfl (by simp [go_sem, List.take_of_length_le, grammarC] <;> with_reducible rfl) rfl (by simp [go_sem, List.take_of_length_le, grammarC]) ?_
    refine wkc (@grammarC.eq_1) _ ?_
    generalize lrV g = V at cl ⊢
    refine GS.cc (cl) rfl rfl rfl rfl (by simp [go_sem, List.take_of_length_le, grammarC] <;> with_reducible rfl) rfl (by simp [go_sem, List.take_of_length_le, grammarC]) ?_
    refine wkc0 _ ?_
    refine Out.mk (xs := ?_) ?_ ?_ (by first | exact .inr rfl | exact .inl rfl)
    rotate_left
    · simp [go_sem, List.take_of_length_le] <;> with_reducible rfl
    exact Fz.tuL (.cons (Fz.agL (.cons (.im _ _) (.cons (.im _ _) .nil))) (.cons (.v _) .nil))
theorem implStates (g : GrammarT) (hx : g.2.2.length < 4611686018427387904) (hs : ∀ e ∈ g.2.2, e.2.length < 4611686018427387904) : Fn Try.prog 20 0 [.ag (grammarC g)] [] (.tu [.ag [.own 0 1 0 (statesX g).1.1.length, .own 1 1 0 (statesX g).1.2.length], .v (.bool (statesX g).2)]) 2 [(0, ⟨99, 1, itemssO (statesX g).1.1⟩), (1, ⟨25, 1, intssO (statesX g).1.2⟩)] := by
  have cg := implGoodG g hx hs
  unfold statesX
  refine Fn.mk (rs := [.cell 2 44, .tmp 3]) (nt := 12) Try.func20 (by kernel_rfl) rfl rfl rfl (by simp) ?_
  simp only [sl, grammarC]
  refine wkc0 _ ?_
  cases hg : goodG g with
  | false =>
    rw [hg] at cg
    simp only [Bool.false_eq_true, if_false]
    refine GS.cc (cg) rfl rfl rfl rfl (by simp [go_sem, List.take_of_length_le, grammarC] <;> with_reducible rfl) rfl (by simp [go_sem, List.take_of_length_le, grammarC]) ?_
    refine wkc0 _ ?_
    refine OutF.cov (Cov.nir (n := 1) (j := 0) (i := 0) 99 1 rfl rfl rfl) ?_
    refine OutF.cov (Cov.nir (n := 1) (j := 0) (i := 1) 25 1 rfl rfl rfl) ?_
    refine OutF.mkn (xs := ?_) (nm [2, 3]) ?_ ?_ ?_ ?_ ?_ (by first | exact .inr rfl | exact .inl rfl)
    rotate_left
    · simp [go_sem, List.take_of_length_le, nirw, show itemssO [] = [] from rfl, show intssO [] = [] from rfl] <;> with_reducible rfl
    · simp [go_sem, List.take_of_length_le, ren, ren1, ren2, okr, okr1, okr2, ChkN, BlkN, List.range_succ, nf, nirw, show itemssO [] = [] from rfl, show intssO [] = [] from rfl]
    · simp [go_sem, List.take_of_length_le, ren, ren1, ren2, okr, okr1, okr2, ChkN, BlkN, List.range_succ, nf, nirw, show itemssO [] = [] from rfl, show intssO [] = [] from rfl]
    · simp [go_sem, List.take_of_length_le, ren, ren1, ren2, okr, okr1, okr2, ChkN, BlkN, List.range_succ, nf, nirw, show itemssO [] = [] from rfl, show intssO [] = [] from rfl]
    · rfl
  | true =>
    rw [hg] at cg
    simp only [if_true]
    have cl := statesG g (goodG_ok hg)
    refine GS.cc (cg) rfl rfl rfl rfl (by simp [go_sem, List.take_of_length_le, grammarC] <;> with_reducible rfl) rfl (by simp [go_sem, List.take_of_length_le, grammarC]) ?_
    refine wkc (@grammarC.eq_1) _ ?_
    generalize lrV g = V at cl ⊢
    refine GS.fnn [] (cl) rfl rfl rfl rfl (by simp [go_sem, List.take_of_length_le, ren, ren1, ren2, okr, okr1, okr2, ChkN, BlkN, List.range_succ, nf, grammarC] <;> with_reducible rfl) (by simp [go_sem, List.take_of_length_le, ren, ren1, ren2, okr, okr1, okr2, ChkN, BlkN, List.range_succ, nf, grammarC]) (by simp [go_sem, List.take_of_length_le, ren, ren1, ren2, okr, okr1, okr2, ChkN, BlkN, List.range_succ, nf, grammarC]) (by simp [List.range_succ, lb]) (ChkN.toB (by simp [go_sem, List.take_of_length_le, ren, ren1, ren2, okr, okr1, okr2, ChkN, BlkN, List.range_succ, nf, grammarC])) (by decide) (by simp) rfl (.nfr (by simp) (.nfr (by simp) .nil)) (by simp [go_sem, List.take_of_length_le, ren, ren1, ren2, okr, okr1, okr2, ChkN, BlkN, List.range_succ, nf, grammarC] <;> with_reducible rfl) ?_
    refine wkc0 _ ?_
    refine OutF.mkn (xs := ?_) (nm [2, 3]) ?_ ?_ ?_ ?_ ?_ (by first | exact .inr rfl | exact .inl rfl)
    rotate_left
    · simp [go_sem, List.take_of_length_le] <;> with_reducible rfl
    · simp [go_sem, List.take_of_length_le, ren, ren1, ren2, okr, okr1, okr2, ChkN, BlkN, List.range_succ, nf]
    · simp [go_sem, List.take_of_length_le, ren, ren1, ren2, okr, okr1, okr2, ChkN, BlkN, List.range_succ, nf]
    · simp [go_sem, List.take_of_length_le, ren, ren1, ren2, okr, okr1, okr2, ChkN, BlkN, List.range_succ, nf]
    · rfl
end Go.Proofs.Ytkolhcoeifghpaa.En
end
section
namespace Go.Proofs.Ytkolhcoeifghpaa.En
open Go.RowKit
set_option linter.unusedSimpArgs false
set_option linter.unusedVariables false
set_option maxHeartbeats 8000000
theorem lawStates (g : GrammarT) (hxg : g.2.2.length < 8796093022208) (hsg : ∀ e ∈ g.2.2, e.2.length < 35184372088832) : Pure Try.prog 5 [.ag (grammarC g)] (.v (.bool true)) := by
  refine Pure.mk (rs := [.tmp 2]) (nt := 96) Try.func5 (by kernel_rfl) rfl rfl rfl (by simp) ?_
  simp only [sl, grammarC, lrC]
  have hsg' : ∀ e ∈ g.2.2, e.2.length < 4611686018427387904 := fun e he => by have := hsg e he; omega
  have ctg := toGrammar g hxg hsg
  have ceg := eqGrammar g g hxg hsg
  have cog := toGrammarO g hxg hsg
  have hig := szGrammarF_in (n := 1048576) (x := g) (by omega)
  have czg := szGrammar g 1048576 (by omega) (by omega) hxg hsg
  have p1 := specStates g (by omega) hsg'
  have p2 := implStates g (by omega) hsg'
  try simp only [decide_true] at ceg
  have hv := statesX_len g
  generalize statesX g = v at p1 p2 hv
  obtain ⟨hv0, hv1, hv2, hv3, hv4⟩ := hv
  have p3 := p2.pure (r' := .tu [.ag (lrC v.1), .v (.bool v.2)]) (Fz.tuL (.cons (Fz.agL (.cons (fz_itemssD _ rfl rfl) (.cons (fz_intssO _ rfl rfl) .nil))) (.cons (.v _) .nil)))
  refine wkd0 _ ?_
  first | refine GS.cc (czg) rfl rfl rfl rfl (by simp [go_sem, List.take_of_length_le, grammarC, lrC] <;> with_reducible rfl) rfl (by simp [go_sem, List.take_of_length_le, grammarC, lrC]) ?_ | refine Gd.cc (czg) rfl rfl rfl rfl (by simp [go_sem, List.take_of_length_le, grammarC, lrC] <;> with_reducible rfl) rfl (by simp [go_sem, List.take_of_length_le, grammarC, lrC]) ?_
  refine wkd0 _ ?_
  refine Holds.cond rfl (fun h => ?_) (fun h => ?_)
  · refine wkd0 _ ?_
    refine Out.mk (xs := ?_) ?_ ?_ (by first | exact .inr rfl | exact .inl rfl)
    rotate_left
    · simp [go_sem, List.take_of_length_le] <;> with_reducible rfl
    exact .v _
  have hqg := szGrammar_wt (show 0 ≤ szGrammarF (1048576) g by simp at h; omega)
  refine wkd (And.intro @grammarC.eq_1 (@lrC.eq_1)) _ ?_
  first | refine GS.cc (ctg) rfl rfl rfl rfl (by simp [go_sem, List.take_of_length_le, grammarC, lrC] <;> with_reducible rfl) rfl (by simp [go_sem, List.take_of_length_le, grammarC, lrC]) ?_ | refine Gd.cc (ctg) rfl rfl rfl rfl (by simp [go_sem, List.take_of_length_le, grammarC, lrC] <;> with_reducible rfl) rfl (by simp [go_sem, List.take_of_length_le, grammarC, lrC]) ?_
  refine wkd (And.intro @grammarC.eq_1 (@lrC.eq_1)) _ ?_
  first | refine GS.cc (p1) rfl rfl rfl rfl (by simp [go_sem, List.take_of_length_le, grammarC, lrC] <;> with_reducible rfl) rfl (by simp [go_sem, List.take_of_length_le, grammarC, lrC]) ?_ | refine Gd.cc (p1) rfl rfl rfl rfl (by simp [go_sem, List.take_of_length_le, grammarC, lrC] <;> with_reducible rfl) rfl (by simp [go_sem, List.take_of_length_le, grammarC, lrC]) ?_
  refine wkd (And.intro @grammarC.eq_1 (@lrC.eq_1)) _ ?_
  refine GS.fnn [] (cog) rfl rfl rfl rfl (by simp [go_sem, List.take_of_length_le, ren, ren1, ren2, okr, okr1, okr2, ChkN, BlkN, List.range_succ, nf, grammarC, lrC] <;> with_reducible rfl) (by simp [go_sem, List.take_of_length_le, ren, ren1, ren2, okr, okr1, okr2, ChkN, BlkN, List.range_succ, nf, grammarC, lrC]) (by simp [go_sem, List.take_of_length_le, ren, ren1, ren2, okr, okr1, okr2, ChkN, BlkN, List.range_succ, nf, grammarC, lrC]) (by simp [List.range_succ, lb]) (ChkN.toB (by simp [go_sem, List.take_of_length_le, ren, ren1, ren2, okr, okr1, okr2, ChkN, BlkN, List.range_succ, nf, grammarC, lrC])) (by decide) (by simp) rfl (.nfr (by simp) .nil) (by simp [go_sem, List.take_of_length_le, ren, ren1, ren2, okr, okr1, okr2, ChkN, BlkN, List.range_succ, nf, grammarC, lrC] <;> with_reducible rfl) ?_
  refine wkd (And.intro @grammarC.eq_1 (@lrC.eq_1)) _ ?_
  refine GS.fnnd (p2) rfl rfl rfl rfl (by simp [go_sem, List.take_of_length_le, ren, ren1, ren2, okr, okr1, okr2, List.range_succ, nf, grammarC, lrC] <;> with_reducible rfl) (by exact (.cons (Fz.agL (.cons (.v _) (.cons (.v _) (.cons (fz_rulesO _ rfl rfl) .nil)))) .nil)) (by simp) (by simp [go_sem, List.take_of_length_le, ren, ren1, ren2, okr, okr1, okr2, List.range_succ, nf, grammarC, lrC]) (by simp [go_sem, List.take_of_length_le, ren, ren1, ren2, okr, okr1, okr2, List.range_succ, nf, grammarC, lrC]) rfl (.nfr (by simp) (.nfr (by simp) (.nil))) (by simp [go_sem, List.take_of_length_le, ren, ren1, ren2, okr, okr1, okr2, List.range_succ, nf, grammarC, lrC] <;> with_reducible rfl) ?_
  have ceq := eqLr v.1 v.1 (by omega) (fun e he => by have := hv1 e he; omega) (by omega) (fun e he => by have := hv3 e he; omega)
  try simp only [decide_true] at ceq
  refine wkd (@lrC.eq_1) _ ?_
  first | refine GS.cd (ceq) rfl rfl rfl rfl (by simp [go_sem, List.take_of_length_le, lrC] <;> with_reducible rfl) rfl (by exact (.cons (Fz.agL (.cons (fz_itemssD _ rfl rfl) (.cons (fz_intssO _ rfl rfl) .nil))) (.cons (Fz.cl rfl) .nil))) rfl ?_ | refine Gd.cd (ceq) rfl rfl rfl rfl (by simp [go_sem, List.take_of_length_le, lrC] <;> with_reducible rfl) rfl (by exact (.cons (Fz.agL (.cons (fz_itemssD _ rfl rfl) (.cons (fz_intssO _ rfl rfl) .nil))) (.cons (Fz.cl rfl) .nil))) rfl ?_
  clear ceq
  refine wkd (@lrC.eq_1) _ ?_
  refine Holds.cond rfl (fun h => ?_) (fun h => ?_)
  · cases h
  refine wkd0 _ ?_
  first | refine GS.cc (ctg) rfl rfl rfl rfl (by simp [go_sem, List.take_of_length_le, grammarC, lrC] <;> with_reducible rfl) rfl (by simp [go_sem, List.take_of_length_le, grammarC, lrC]) ?_ | refine Gd.cc (ctg) rfl rfl rfl rfl (by simp [go_sem, List.take_of_length_le, grammarC, lrC] <;> with_reducible rfl) rfl (by simp [go_sem, List.take_of_length_le, grammarC, lrC]) ?_
  refine wkd (And.intro @grammarC.eq_1 (@lrC.eq_1)) _ ?_
  first | refine GS.cd (ceg) rfl rfl rfl rfl (by simp [go_sem, List.take_of_length_le, grammarC, lrC] <;> with_reducible rfl) rfl (by exact (.cons (Fz.agL (.cons (.v _) (.cons (.v _) (.cons (fz_rulesO _ rfl rfl) .nil)))) (.cons (Fz.cl rfl) .nil))) rfl ?_ | refine Gd.cd (ceg) rfl rfl rfl rfl (by simp [go_sem, List.take_of_length_le, grammarC, lrC] <;> with_reducible rfl) rfl (by exact (.cons (Fz.agL (.cons (.v _) (.cons (.v _) (.cons (fz_rulesO _ rfl rfl) .nil)))) (.cons (Fz.cl rfl) .nil))) rfl ?_
  refine wkd0 _ ?_
  refine Holds.cond rfl (fun h => ?_) (fun h => ?_)
  · cases h
  have cmg := markGrammar g ((1 : Int)) (by omega) (by omega) (by omega)
  refine wkd0 _ ?_
  refine GS.fnn [2] (cmg) rfl rfl rfl rfl (by simp [go_sem, List.take_of_length_le, ren, ren1, ren2, okr, okr1, okr2, ChkN, BlkN, List.range_succ, nf] <;> with_reducible rfl) (by simp [go_sem, List.take_of_length_le, ren, ren1, ren2, okr, okr1, okr2, ChkN, BlkN, List.range_succ, nf]) (by simp [go_sem, List.take_of_length_le, ren, ren1, ren2, okr, okr1, okr2, ChkN, BlkN, List.range_succ, nf]) (by simp [List.range_succ, lb]) (ChkN.toB (by simp [go_sem, List.take_of_length_le, ren, ren1, ren2, okr, okr1, okr2, ChkN, BlkN, List.range_succ, nf])) (by decide) (by simp) rfl (.nfr (by simp) (.nil)) (by simp [go_sem, List.take_of_length_le, ren, ren1, ren2, okr, okr1, okr2, ChkN, BlkN, List.range_succ, nf] <;> with_reducible rfl) ?_
  have hk0 : ¬ ((1 : Int) + (wGrammar g : Nat) < 0) := by omega
  have ceq := eqLr v.1 v.1 (by omega) (fun e he => by have := hv1 e he; omega) (by omega) (fun e he => by have := hv3 e he; omega)
  try simp only [decide_true] at ceq
  refine wkd (And.intro @hk0 (@lrC.eq_1)) _ ?_
  first | refine GS.cd (ceq) rfl rfl rfl rfl (by simp [go_sem, List.take_of_length_le, hk0, lrC] <;> with_reducible rfl) rfl (by exact (.cons (Fz.agL (.cons (fz_itemssD _ rfl rfl) (.cons (fz_intssO _ rfl rfl) .nil))) (.cons (Fz.cl rfl) .nil))) rfl ?_ | refine Gd.cd (ceq) rfl rfl rfl rfl (by simp [go_sem, List.take_of_length_le, hk0, lrC] <;> with_reducible rfl) rfl (by exact (.cons (Fz.agL (.cons (fz_itemssD _ rfl rfl) (.cons (fz_intssO _ rfl rfl) .nil))) (.cons (Fz.cl rfl) .nil))) rfl ?_
  clear ceq
  refine wkd (And.intro @hk0 (@lrC.eq_1)) _ ?_
  refine Holds.cond rfl (fun h => ?_) (fun h => ?_)
  · cases h
  have cm := markLr v.1 ((1 : Int)) (by omega) (by omega) (by omega) (fun e he => by have := hv1 e he; omega) (by omega)
  have ch4 := heldLr v.1 ((1 : Int)) (by omega) (by omega) (by omega) (fun e he => by have := hv1 e he; omega) (by omega)
  try simp only [wtL_w1] at cm ch4
  refine wkd0 _ ?_
  refine GS.fnn [4, 5] (cm) rfl rfl rfl rfl (by simp [go_sem, List.take_of_length_le, ren, ren1, ren2, okr, okr1, okr2, ChkN, BlkN, List.range_succ, nf] <;> with_reducible rfl) (by simp [go_sem, List.take_of_length_le, ren, ren1, ren2, okr, okr1, okr2, ChkN, BlkN, List.range_succ, nf]) (by simp [go_sem, List.take_of_length_le, ren, ren1, ren2, okr, okr1, okr2, ChkN, BlkN, List.range_succ, nf]) (by simp [List.range_succ, lb]) (ChkN.toB (by simp [go_sem, List.take_of_length_le, ren, ren1, ren2, okr, okr1, okr2, ChkN, BlkN, List.range_succ, nf])) (by decide) (by simp) rfl (.nfr (by simp) (.nfr (by simp) .nil)) (by simp [go_sem, List.take_of_length_le, ren, ren1, ren2, okr, okr1, okr2, ChkN, BlkN, List.range_succ, nf] <;> with_reducible rfl) ?_
  clear cm
  refine wkd0 _ ?_
  first | refine GS.cd (ch4) rfl rfl rfl rfl (by simp [go_sem, List.take_of_length_le] <;> with_reducible rfl) rfl (by exact (.cons (Fz.agL (.cons (fz_itemssD _ rfl (by simp [mLr])) (.cons (fz_intssO _ rfl (by simp [mLr])) .nil))) (.cons (.v _) .nil))) rfl ?_ | refine Gd.cd (ch4) rfl rfl rfl rfl (by simp [go_sem, List.take_of_length_le] <;> with_reducible rfl) rfl (by exact (.cons (Fz.agL (.cons (fz_itemssD _ rfl (by simp [mLr])) (.cons (fz_intssO _ rfl (by simp [mLr])) .nil))) (.cons (.v _) .nil))) rfl ?_
  have hk4 : ¬ ((1 : Int) + (wLr v.1 : Nat) < 0) := by omega
  refine wkd (@hk4) _ ?_
  refine Holds.cond rfl (fun h => ?_) (fun h => ?_)
  · cases h
  refine wkd0 _ ?_
  refine Holds.cond rfl (fun h => ?_) (fun h => ?_)
  · cases h
  refine wkd (And.intro @grammarC.eq_1 (@lrC.eq_1)) _ ?_
  first | refine GS.cc (ctg) rfl rfl rfl rfl (by simp [go_sem, List.take_of_length_le, grammarC, lrC] <;> with_reducible rfl) rfl (by simp [go_sem, List.take_of_length_le, grammarC, lrC]) ?_ | refine Gd.cc (ctg) rfl rfl rfl rfl (by simp [go_sem, List.take_of_length_le, grammarC, lrC] <;> with_reducible rfl) rfl (by simp [go_sem, List.take_of_length_le, grammarC, lrC]) ?_
  refine wkd (And.intro @grammarC.eq_1 (@lrC.eq_1)) _ ?_
  first | refine GS.cc (p3) rfl rfl rfl rfl (by simp [go_sem, List.take_of_length_le, grammarC, lrC] <;> with_reducible rfl) rfl (by simp [go_sem, List.take_of_length_le, grammarC, lrC]) ?_ | refine Gd.cc (p3) rfl rfl rfl rfl (by simp [go_sem, List.take_of_length_le, grammarC, lrC] <;> with_reducible rfl) rfl (by simp [go_sem, List.take_of_length_le, grammarC, lrC]) ?_
  have ceq := eqLr v.1 v.1 (by omega) (fun e he => by have := hv1 e he; omega) (by omega) (fun e he => by have := hv3 e he; omega)
  try simp only [decide_true] at ceq
  refine wkd (@lrC.eq_1) _ ?_
  first | refine GS.cc (ceq) rfl rfl rfl rfl (by simp [go_sem, List.take_of_length_le, lrC] <;> with_reducible rfl) rfl (by simp [go_sem, List.take_of_length_le, lrC]) ?_ | refine Gd.cc (ceq) rfl rfl rfl rfl (by simp [go_sem, List.take_of_length_le, lrC] <;> with_reducible rfl) rfl (by simp [go_sem, List.take_of_length_le, lrC]) ?_
  clear ceq
  refine wkd (@lrC.eq_1) _ ?_
  refine Holds.cond rfl (fun h => ?_) (fun h => ?_)
  · cases h
  refine wkd0 _ ?_
  first | refine GS.cd (ch4) rfl rfl rfl rfl (by simp [go_sem, List.take_of_length_le] <;> with_reducible rfl) rfl (by exact (.cons (Fz.agL (.cons (fz_itemssD _ rfl (by simp [mLr])) (.cons (fz_intssO _ rfl (by simp [mLr])) .nil))) (.cons (.v _) .nil))) rfl ?_ | refine Gd.cd (ch4) rfl rfl rfl rfl (by simp [go_sem, List.take_of_length_le] <;> with_reducible rfl) rfl (by exact (.cons (Fz.agL (.cons (fz_itemssD _ rfl (by simp [mLr])) (.cons (fz_intssO _ rfl (by simp [mLr])) .nil))) (.cons (.v _) .nil))) rfl ?_
  have hk4 : ¬ ((1 : Int) + (wLr v.1 : Nat) < 0) := by omega
  refine wkd (@hk4) _ ?_
  refine Holds.cond rfl (fun h => ?_) (fun h => ?_)
  · cases h
  refine wkd0 _ ?_
  refine Holds.cond rfl (fun h => ?_) (fun h => ?_)
  · cases h
  refine wkd0 _ ?_
  refine Out.mk (xs := ?_) ?_ ?_ (by first | exact .inr rfl | exact .inl rfl)
  rotate_left
  · simp [go_sem, List.take_of_length_le] <;> with_reducible rfl
  exact .v _
end Go.Proofs.Ytkolhcoeifghpaa.En
end
