/- Own words and walks of this claim, part 5: what the program's functions compute, for all the arguments that are named; no further conditions. -/
import Derived.Test.YtkolhcoeifghpaaGreatM2
import Derived.Test.YtkolhcoeifghpaaGreatM4
import Derived.Test.YtkolhcoeifghpaaGreatM3
import Derived.Shelf.SlSortCmp.NoneTotal
import Derived.Test.YtkolhcoeifghpaaGreatProg
import Derived.Test.YtkolhcoeifghpaaGreatM1
import Derived.DeepKeys
section
namespace Go.Proofs.YtkolhcoeifghpaaGreat.En
open Go.RowKit
set_option linter.unusedSimpArgs false
set_option linter.unusedVariables false
set_option maxHeartbeats 4000000
theorem equalItems (a b : List Item3) (ha : a.length ≤ 4000) : Pure Tryz.prog 84 [.im 3 (nodes a), .im 3 (nodes b)] (.v (.bool (decide (a = b)))) := by
  refine Pure.mk (rs := [.tmp 4]) (nt := 26) Tryz.func84 (by kernel_rfl) rfl rfl rfl (by simp) ?_
  simp only [sl]
  by_cases hl : a.length = b.length
  · have hl1 : ((a.length : Int) != (b.length : Int)) = false := by simp [hl]
    refine wkdc (@hl1) _ ?_
    refine Holds.loop (ι := Nat) (fun i => ⟨[(0, .im 3 (nodes a)), (1, .im 3 (nodes b)), (12, .v (.int .i64 a.length)), (13, .v (.int .i64 i))], [], 0⟩)
      (fun i => i ≤ a.length ∧ ∀ j, j < i → a[j]? = b[j]?) (fun i => a.length - i) 0 ⟨Nat.zero_le _, fun j hj => absurd hj (Nat.not_lt_zero j)⟩ ?_ ?_
    · exact Cov.ofn (id) rfl (by simp [go_sem, List.take_of_length_le, ren, ren1, ren2, okr, okr1, okr2, ChkT, ChkN, BlkN, nf]) (by simp [go_sem, List.take_of_length_le, ren, ren1, ren2, okr, okr1, okr2, ChkT, ChkN, BlkN, nf])
    rintro i ⟨hi, hc⟩
    have stepi : wr64 ((i : Int) + 1) = ((i + 1 : Nat) : Int) := wr64_id (by omega) (by omega)
    refine wkdc0 _ ?_
    refine Holds.cond rfl (fun h => ?_) (fun h => ?_)
    · have hlt : i < a.length := by simp at h; omega
      have hlb : i < b.length := by omega
      have hxa : a[i]? = some a[i] := List.getElem?_eq_getElem hlt
      have hxb : b[i]? = some b[i] := List.getElem?_eq_getElem hlb
      generalize a[i] = x at hxa
      generalize b[i] = y at hxb
      refine wkdc (And.intro @hxa (And.intro (@get_E _ _ _ _ hxa) (And.intro @hxb (And.intro (@get_E _ _ _ _ hxb) (And.intro @hlt (And.intro @hlb (@nodeC.eq_1))))))) _ ?_
      refine Gd.calm rfl rfl (.neS (n := 3) (xs := [x.1, x.2.1, x.2.2]) (ys := [y.1, y.2.1, y.2.2]) rfl eqItem3 rfl rfl rfl rfl rfl) ?_
      by_cases e : x = y
      · rw [show (!decide ([x.1, x.2.1, x.2.2] = [y.1, y.2.1, y.2.2])) = false by rw [e]; simp]
        refine wkdc0 _ ?_
        refine ⟨i + 1, ⟨by omega, fun j hj => ?_⟩, by omega, ?_⟩
        · by_cases e2 : j = i
          · subst e2; rw [hxa, hxb, e]
          · exact hc j (by omega)
        rw [stepi]
        exact Cov.ofn (id) rfl (by simp [go_sem, List.take_of_length_le, ren, ren1, ren2, okr, okr1, okr2, ChkT, ChkN, BlkN, nf]) (by simp [go_sem, List.take_of_length_le, ren, ren1, ren2, okr, okr1, okr2, ChkT, ChkN, BlkN, nf])
      · rw [show (!decide ([x.1, x.2.1, x.2.2] = [y.1, y.2.1, y.2.2])) = true by rw [decide_eq_false (fun h => e (node_ext h))]; rfl]
        rw [decide_eq_false (show ¬ a = b by intro h2; subst h2; rw [hxa] at hxb; cases hxb; exact e rfl)]
        refine wkdc0 _ ?_
        refine Out.mk (xs := ?_) ?_ ?_ (by first | exact .inr rfl | exact .inl rfl)
        rotate_left
        · simp [go_sem, List.take_of_length_le] <;> with_reducible rfl
        exact .v _
    · have hie : i = a.length := by simp at h; omega
      subst hie
      rw [decide_eq_true (show a = b from List.ext_getElem? fun j => by
        by_cases hj : j < a.length
        · exact hc j hj
        · rw [List.getElem?_eq_none (by omega), List.getElem?_eq_none (by omega)])]
      refine wkdc0 _ ?_
      refine Out.mk (xs := ?_) ?_ ?_ (by first | exact .inr rfl | exact .inl rfl)
      rotate_left
      · simp [go_sem, List.take_of_length_le] <;> with_reducible rfl
      exact .v _
  · have hl1 : ((a.length : Int) != (b.length : Int)) = true := by simp; omega
    rw [decide_eq_false (show ¬ a = b by intro h; subst h; exact hl rfl)]
    refine wkdc (@hl1) _ ?_
    refine Out.mk (xs := ?_) ?_ ?_ (by first | exact .inr rfl | exact .inl rfl)
    rotate_left
    · simp [go_sem, List.take_of_length_le] <;> with_reducible rfl
    exact .v _
theorem indexFuncItems (g : FuncId) (cap : List AV) (p : List Item3 → Bool) (xs : Sets3) (hx : xs.length < 4611686018427387904) (hcap : cap.all cl1 = true) (hg : ∀ x ∈ xs, Pure Tryz.prog g (.im 3 (nodes x) :: cap) (.v (.bool (p x)))) : Pure Tryz.prog 82 [.im 1 (itemss xs), .fn g cap] (.v (.int .i64 (fstP p xs 0))) := by
  refine Pure.mk (rs := [.tmp 4]) (nt := 19) Tryz.func82 (by kernel_rfl) rfl rfl rfl (by simp) ?_
  simp only [sl]
  refine wk0 _ ?_
  refine Holds.loop (ι := Nat) (fun i => ⟨[(0, .im 1 (itemss xs)), (1, .fn g cap), (7, .v (.int .i64 xs.length)), (8, .v (.int .i64 i))], [], 0⟩) (fun i => i ≤ xs.length ∧ ∀ j, j < i → ∀ x, xs[j]? = some x → p x = false) (fun i => xs.length - i) 0 ⟨Nat.zero_le _, fun j hj => absurd hj (Nat.not_lt_zero j)⟩ ?_ ?_
  · exact Cov.ofn id rfl (by simp [go_sem, ren, ren1, okr, okr1, ChkT, okr1_cap hcap, ren1_cap hcap]) (by simp [ChkN])
  rintro i ⟨hi, hno⟩
  refine wk0 _ ?_
  refine Holds.cond rfl (fun hl => ?_) (fun hl => ?_)
  · have hlt : i < xs.length := by simpa using hl
    have hxi : xs[i]? = some xs[i] := List.getElem?_eq_getElem hlt
    have hgi := hg _ (List.getElem_mem hlt)
    generalize xs[i] = y at hxi hgi
    refine wk (And.intro @hxi (And.intro (@get_E _ _ _ _ hxi) (@itemssC.eq_1))) _ ?_
    refine GS.cc (hgi) rfl rfl rfl rfl (by simp [go_sem, List.take_of_length_le, hcap, all_cl1 hcap, itemssC] <;> with_reducible rfl) rfl (by simp [go_sem, List.take_of_length_le, hcap, all_cl1 hcap, itemssC]) ?_
    refine wk0 _ ?_
    refine Holds.cond rfl (fun hl2 => ?_) (fun hl2 => ?_)
    · rw [fstP_at xs i 0 hxi hl2 hno, Nat.zero_add]
      refine wk0 _ ?_
      refine Out.mk (xs := ?_) ?_ ?_ (by first | exact .inr rfl | exact .inl rfl)
      rotate_left
      · simp [go_sem, List.take_of_length_le] <;> with_reducible rfl
      exact .v _
    · refine wk0 _ ?_
      refine ⟨i + 1, ⟨by omega, fun j hj x hxj => ?_⟩, by omega, ?_⟩
      · by_cases e : j = i
        · subst e; rw [hxi] at hxj; cases hxj; exact hl2
        · exact hno j (by omega) x hxj
      rw [wr64_id (by omega) (by omega)]
      exact Cov.ofn id rfl (by simp [go_sem, ren, ren1, okr, okr1, ChkT, okr1_cap hcap, ren1_cap hcap]) (by simp [ChkN])
  · have hle : i = xs.length := by
      have : ¬ i < xs.length := by simpa using hl
      omega
    rw [fstP_no xs 0 fun x j hj => hno x (by have := (List.getElem?_eq_some_iff.1 hj).1; omega) j hj]
    refine wk0 _ ?_
    refine Out.mk (xs := ?_) ?_ ?_ (by first | exact .inr rfl | exact .inl rfl)
    rotate_left
    · simp [go_sem, List.take_of_length_le] <;> with_reducible rfl
    exact .v _
theorem states1 (o s : List Item3) (ho : o.length ≤ 4000) : Pure Tryz.prog 83 [.im 3 (nodes o), .pi [.im 3 (nodes s)]] (.v (.bool (decide (o = s)))) := by
  refine Pure.mk (rs := [.tmp 3]) (nt := 7) Tryz.func83 (by kernel_rfl) rfl rfl rfl (by simp) ?_
  simp only [sl]
  have c := equalItems o s ho
  refine wkc0 _ ?_
  refine GS.cc (c) rfl rfl rfl rfl (by simp [go_sem, List.take_of_length_le] <;> with_reducible rfl) rfl (by simp [go_sem, List.take_of_length_le]) ?_
  refine wkc0 _ ?_
  refine Out.mk (xs := ?_) ?_ ?_ (by first | exact .inr rfl | exact .inl rfl)
  rotate_left
  · simp [go_sem, List.take_of_length_le] <;> with_reducible rfl
  exact .v _
theorem nodes_snocE (l : List Node3) (a b c : Int) : nodes l ++ [[.v (.int .i64 a), .v (.int .i64 b), .v (.int .i64 c)]] = nodes (l ++ [(a, b, c)]) := by simp [nodes, nodeC]
theorem fz_itemssD {bl : List (Nat × Blk)} {n len : Nat} {e : TypeId} (l : Sets3) (hk : lb bl n = some ⟨e, 1, itemssO l⟩) (hl : len = l.length) : Fz bl (.own n 1 0 len) (.im 1 (itemss l)) := Fz.rowsO l itemO itemssC hk rfl rfl (fun x _ => show FzL bl (itemO x) (itemssC x) from by simp only [itemO, itemssC]; exact .cons (Fz.owI (nodes_ok _)) (.nil)) hl
theorem iAt (xs : Sets3) (r : List AV) : (itemssO xs ++ [r])[xs.length]? = some r := by simp
theorem iSnoc (xs : Sets3) (r : List AV) (q : List Item3) : (itemssO xs ++ [r]).set xs.length [.ow 97 3 (nodes q)] = itemssO (xs ++ [q]) := by
  have := set_snoc (itemssO xs) r [.ow 97 3 (nodes q)]
  rw [itemssO_len] at this
  rw [this]; simp [itemssO, itemO]
theorem iApp (xs : Sets3) (q : List Item3) : itemssO xs ++ [[.ow 97 3 (nodes q)]] = itemssO (xs ++ [q]) := by simp [itemssO, itemO]
theorem ren_itemssO (ρ : Nat → Nat) (xs : Sets3) : List.map (List.map (ren ρ)) (itemssO xs) = itemssO xs := by simp [itemssO, itemO, ren, ren1]
theorem okw_setI (G : Sets3) (u n z off len : Nat) {m : Nat} (h : n < m) : okw m ((itemssO G).set u [.own n z off len]) := by
  intro row hr x hx
  rcases List.mem_or_eq_of_mem_set hr with e | e
  · have := nfr_itemssO G row e x hx
    exact okr_nf this
  · subst e
    rw [List.mem_singleton] at hx
    subst hx
    simp [okr, okr1, h]
theorem statesG (g : GrammarT) (hG : OkG g) : Fn Tryz.prog 39 0 [.ag (grammarC g)] [] (.tu [.ag [.own 0 1 0 (lrV g).1.1.length, .own 1 1 0 (lrV g).1.2.length], .v (.bool (lrV g).2)]) 2 [(0, ⟨94, 1, itemssO (lrV g).1.1⟩), (1, ⟨25, 1, intssO (lrV g).1.2⟩)] := by
  have hlen := hG.len
  have hlX : (gX g).2.2.length ≤ 17 := by rw [gX_len]; omega
  have c0 := closureG g hG [itemN g.2.2.length 0 0] (by simp) fun z hz => by
    rw [List.mem_singleton] at hz
    subst hz
    exact univX_item hG
  change Fn _ _ 0 _ [] (.own 0 3 0 (start0 g).length) 1 [(0, ⟨_, 3, nodes (start0 g)⟩)] at c0
  have hI0 := LrI.start hG
  generalize lrV g = V at hI0 ⊢
  refine Fn.mk (rs := [.cell 2 48, .tmp 3]) (nt := 114) Tryz.func39 (by kernel_rfl) rfl rfl rfl (by simp) ?_
  simp only [sl, grammarC]
  repeat' first | (refine Holds.condT ?_ ?_; (· (simp [go_sem, List.take_of_length_le, grammarC] <;> with_reducible rfl))) | (refine Holds.condF ?_ ?_; (· (simp [go_sem, List.take_of_length_le, grammarC] <;> with_reducible rfl))) | refine Holds.seq ?_ | refine Holds.skip ?_ | refine Holds.exit ?_ | refine Holds.ret ?_ | refine thenA_normal ?_ | refine thenA_exit ?_ | refine thenA_ret ?_ | refine inB_normal ?_ | refine inB_ret ?_ | refine inB_here ?_ | (refine inB_past ?_ ?_; (· exact rfl)) | refine Holds.reg ?_ | refine Holds.block ?_ | refine GS.nil ?_ | (refine GS.stepD 20 (s' := ?_) rfl ?_ ?_ ?_; rotate_left; (· exact rfl); (· (simp [go_sem, List.take_of_length_le, grammarC] <;> with_reducible rfl))) | (refine GS.skip ?_ ?_ ?_; (· exact rfl); (· exact rfl)) | fail
  refine GS.frz [2] [(19, .im 3 (nodes [itemN g.2.2.length 0 0]))] (.cons rfl (Fz.all rfl rfl rfl rfl (nodes_ok _)) .nil) ?_
  refine GS.fnn [] (c0) rfl rfl rfl rfl (by simp [go_sem, List.take_of_length_le, ren, ren1, ren2, okr, okr1, okr2, ChkN, BlkN, List.range_succ, nf, grammarC, frz] <;> with_reducible rfl) (by simp [go_sem, List.take_of_length_le, ren, ren1, ren2, okr, okr1, okr2, ChkN, BlkN, List.range_succ, nf, grammarC, frz]) (by simp [go_sem, List.take_of_length_le, ren, ren1, ren2, okr, okr1, okr2, ChkN, BlkN, List.range_succ, nf, grammarC, frz]) (by simp [List.range_succ, lb]) (ChkN.toB (by simp [go_sem, List.take_of_length_le, ren, ren1, ren2, okr, okr1, okr2, ChkN, BlkN, List.range_succ, nf, grammarC, frz])) (by decide) (by simp) rfl (.nfr (by simp) .nil) (by simp [go_sem, List.take_of_length_le, ren, ren1, ren2, okr, okr1, okr2, ChkN, BlkN, List.range_succ, nf, grammarC, frz] <;> with_reducible rfl) ?_
  refine wkc (And.intro @grammarC.eq_1 (@frz.eq_1)) _ ?_
  refine Holds.nir 5 0 1 25 1 rfl rfl rfl (by simp [go_sem]; rfl) ?_
  refine Holds.loop (ι := LrT) (fun L => ⟨[(1, .pb 0 3 0 0), (2, .pb 1 2 0 0), (4, .pb 2 2 0 0), (5, .v (.int .i64 L.2.length))],
    [(4, ⟨25, 1, intssO L.2⟩), (3, ⟨94, 1, itemssO L.1⟩), (2, ⟨48, 2, [[.own 3 1 0 L.1.length, .own 4 1 0 L.2.length]]⟩), (1, ⟨48, 2, [[.v (.slice none 0 0), .v (.slice none 0 0)]]⟩), (0, ⟨31, 3, [grammarC g]⟩)], 5⟩)
    (fun L => LrI g V L) (fun L => 61 - L.2.length) ([start0 g], []) hI0 ?_ ?_
  · refine Cov.trans ?_ (Cov.close 4 0 0 rfl rfl rfl rfl rfl rfl (by simp) (by simp))
    simp only [rm, st, List.set_set]
    exact Cov.ofn (nm [0, 1, 5, 4, 6]) rfl (by simp [go_sem, List.take_of_length_le, ren, ren1, ren2, okr, okr1, okr2, ChkT, ChkN, BlkN, nf, grammarC, show intssO [] = [] from rfl, itemssO, itemO]) (by simp [go_sem, List.take_of_length_le, ren, ren1, ren2, okr, okr1, okr2, ChkT, ChkN, BlkN, nf, grammarC, show intssO [] = [] from rfl, itemssO, itemO])
  clear hI0 c0
  rintro ⟨sts, gs⟩ hI
  have hle := hI.p.le
  have hfew := hI.few
  dsimp only at hle hfew ⊢
  have stepk : wr64 ((gs.length : Int) + 1) = ((gs.length + 1 : Nat) : Int) := wr64_id (by omega) (by omega)
  refine wkc0 _ ?_
  refine Holds.cond rfl (fun h => ?_) (fun h => ?_)
  · have hlt : gs.length < sts.length := by simp at h; omega
    have hS : sts[gs.length]? = some sts[gs.length] := List.getElem?_eq_getElem hlt
    have hok := hI.p.ok.st _ (List.getElem_mem hlt)
    generalize sts[gs.length] = S at hS hok
    have hmany := fun h => hI.many hS h
    have hnext := fun h => hI.next hG hS h
    have hstok := hI.p.ok
    dsimp only at hmany hnext hstok
    have hn0 := hG.n0
    have hn1 := hG.n1
    have ht0 := hG.t0
    have ht1 := hG.t1
    have hwneg : wr64 (-g.2.1) = -g.2.1 := wr64_id (by omega) (by omega)
    have hsl := symsX_len hG
    refine wkc (And.intro @hwneg (@grammarC.eq_1)) _ ?_
    refine Holds.loop (ι := Nat × RowS) (fun i => ⟨[(1, .pb 0 3 0 0), (2, .pb 1 2 0 0), (4, .pb 2 2 0 0), (5, .v (.int .i64 gs.length)), (6, .own 5 1 0 i.2.2.length), (7, .v (.int .i64 ((i.1 : Int) - g.2.1)))],
      [(5, ⟨3, 1, ints i.2.2⟩), (4, ⟨25, 1, intssO gs⟩), (3, ⟨94, 1, itemssO i.2.1⟩), (2, ⟨48, 2, [[.own 3 1 0 i.2.1.length, .own 4 1 0 gs.length]]⟩), (1, ⟨48, 2, [[.v (.slice none 0 0), .v (.slice none 0 0)]]⟩), (0, ⟨31, 3, [grammarC g]⟩)], 6⟩)
      (fun i => i.1 ≤ (symsX g).length ∧ StsOk g i.2.1 ∧ i.2.1[gs.length]? = some S ∧ i.2.1.length ≤ 60 ∧ i.2.2.length = i.1 ∧ rowR g S ((symsX g).drop i.1) i.2 = rowR g S (symsX g) (sts, [])) (fun i => (symsX g).length - i.1) (0, (sts, [])) ⟨Nat.zero_le _, hstok, hS, by dsimp only; omega, rfl, rfl⟩ ?_ ?_
    · exact Cov.ofn (id) rfl (by simp [go_sem, List.take_of_length_le, ren, ren1, ren2, okr, okr1, okr2, ChkT, ChkN, BlkN, nf, grammarC, show ints [] = [] from rfl]) (by simp [go_sem, List.take_of_length_le, ren, ren1, ren2, okr, okr1, okr2, ChkT, ChkN, BlkN, nf, grammarC, show ints [] = [] from rfl])
    generalize hR : rowR g S (symsX g) (sts, []) = R at hmany hnext
    clear hI hS hstok hfew hle hlt h hR
    rintro ⟨i, sts, row⟩ ⟨hi, hstok, hS, hfew, hrl, hrun⟩
    dsimp only at hi hstok hS hfew hrl hrun ⊢
    have hlt := (List.getElem?_eq_some_iff.1 hS).1
    have stepx : wr64 ((i : Int) - g.2.1 + 1) = ((i + 1 : Nat) : Int) - g.2.1 := by rw [wr64_id (by omega) (by omega)]; omega
    refine wkc (@grammarC.eq_1) _ ?_
    refine Holds.cond rfl (fun h => ?_) (fun h => ?_)
    · have hil : i < (symsX g).length := by simp at h; omega
      have hx := symsX_at hil
      have hdr : (symsX g).drop i = ((i : Int) - g.2.1) :: (symsX g).drop (i + 1) := by
        rw [List.drop_eq_getElem_cons hil]
        congr 1
        have := List.getElem?_eq_getElem hil
        rw [hx] at this
        exact (Option.some.inj this).symm
      rw [hdr] at hrun
      change rowR g S ((symsX g).drop (i + 1)) (stepR g S (sts, row) ((i : Int) - g.2.1)) = R at hrun
      have hok2 := hstok.step hG (s := (sts, row)) S ((i : Int) - g.2.1)
      have hsd : stepR g S (sts, row) ((i : Int) - g.2.1) = if gotoX (gX g) S ((i : Int) - g.2.1) = [] then (sts, row ++ [-1]) else if plX sts (gotoX (gX g) S ((i : Int) - g.2.1)) = -1 then (sts ++ [gotoX (gX g) S ((i : Int) - g.2.1)], row ++ [(sts.length : Int)]) else (sts, row ++ [plX sts (gotoX (gX g) S ((i : Int) - g.2.1))]) := rfl
      have hpl := plX_cases hstok.nd (gotoX (gX g) S ((i : Int) - g.2.1))
      have hmono := rowR_len g S ((symsX g).drop (i + 1)) (stepR g S (sts, row) ((i : Int) - g.2.1))
      rw [hrun] at hmono
      generalize stepR g S (sts, row) ((i : Int) - g.2.1) = s2 at hrun hok2 hsd hmono
      have hbr : (row.length + 1) * 8 ≤ 140737488355328 := by omega
      have hbs : (sts.length + 1) * 24 ≤ 140737488355328 := by omega
      have hknil := gotoX_nil (G := gX g) (S := S) hok.2.2.1 ((i : Int) - g.2.1)
      have hkun := kernX_univ (G := gX g) (S := S) hok.2.2.1 ((i : Int) - g.2.1)
      have hknd := sortI_nodup (kernX_sort (G := gX g) hok.1 ((i : Int) - g.2.1))
      have hgo : gotoX (gX g) S ((i : Int) - g.2.1) = clX (gX g) (kernX (gX g) S ((i : Int) - g.2.1)) := rfl
      have hgl := (gotoX_ok hG S ((i : Int) - g.2.1)).2.2
      generalize gotoX (gX g) S ((i : Int) - g.2.1) = to at hsd hpl hknil hgo hgl
      refine Holds.open 3 gs.length 0 rfl (iGet hS) rfl rfl ?_
      have hsg := set_get (a := ([.own 6 3 0 S.length] : List AV)) (iGet hS)
      refine wkc (And.intro @hlt (And.intro @hS (And.intro (@get_E _ _ _ _ hS) (And.intro @hsg (@get_E _ _ _ _ hsg))))) _ ?_
      have hokw : okw 8 ((itemssO sts).set gs.length [.own 6 3 0 S.length]) := okw_setI sts gs.length 6 3 0 S.length (by decide)
      refine Holds.loop (ι := Nat) (fun j => ⟨[(1, .pb 0 3 0 0), (2, .pb 1 2 0 0), (4, .pb 2 2 0 0), (5, .v (.int .i64 gs.length)), (6, .own 5 1 0 row.length), (7, .v (.int .i64 ((i : Int) - g.2.1))), (8, .own 7 3 0 (kernX (gX g) (S.take j) ((i : Int) - g.2.1)).length), (45, .own 6 3 0 S.length), (46, .v (.int .i64 S.length)), (47, .v (.int .i64 j))],
        [(7, ⟨97, 3, nodes (kernX (gX g) (S.take j) ((i : Int) - g.2.1))⟩), (6, ⟨97, 3, nodes S⟩), (5, ⟨3, 1, ints row⟩), (4, ⟨25, 1, intssO gs⟩), (3, ⟨94, 1, (itemssO sts).set gs.length [.own 6 3 0 S.length]⟩), (2, ⟨48, 2, [[.own 3 1 0 sts.length, .own 4 1 0 gs.length]]⟩), (1, ⟨48, 2, [[.v (.slice none 0 0), .v (.slice none 0 0)]]⟩), (0, ⟨31, 3, [grammarC g]⟩)], 8⟩)
        (fun j => j ≤ S.length) (fun j => S.length - j) 0 (Nat.zero_le _) ?_ ?_
      · exact Cov.ofn (id) rfl (by simp [go_sem, List.take_of_length_le, ren, ren1, ren2, okr, okr1, okr2, ChkT, ChkN, BlkN, nf, grammarC, show ∀ x, kernX (gX g) [] x = [] from fun _ => rfl, show nodes [] = [] from rfl, hokw, ren_itemssO]) (by simp [go_sem, List.take_of_length_le, ren, ren1, ren2, okr, okr1, okr2, ChkT, ChkN, BlkN, nf, grammarC, show ∀ x, kernX (gX g) [] x = [] from fun _ => rfl, show nodes [] = [] from rfl, hokw, ren_itemssO])
      · intro j hj
        have stepj : wr64 ((j : Int) + 1) = ((j + 1 : Nat) : Int) := wr64_id (by omega) (by omega)
        refine wkc0 _ ?_
        refine Holds.cond rfl (fun h => ?_) (fun h => ?_)
        · have hjl : j < S.length := by simp at h; omega
          have hzj : S[j]? = some S[j] := List.getElem?_eq_getElem hjl
          obtain ⟨r, d, hr, hd, hz⟩ := mem_univX.1 (hok.2.2.1 _ (List.getElem_mem hjl))
          rw [hz] at hzj
          clear hz
          rw [gX_len] at hr
          have hnx := kernX_snoc (G := gX g) (x := (i : Int) - g.2.1) hzj
          have hkl : (kernX (gX g) (S.take j) ((i : Int) - g.2.1)).length ≤ 85 := by
            have h1 := List.length_filter_le (fun z => decide (symAt (gX g) z = some ((i : Int) - g.2.1))) (S.take j)
            rw [List.length_take] at h1
            have := hok.2.2.2
            simp only [kernX, List.length_map]
            omega
          generalize kernX (gX g) (S.take j) ((i : Int) - g.2.1) = M at hnx hkl ⊢
          rw [symAt_N, advI_N] at hnx
          have cr := rightOfG g hG r (by omega)
          have h4 := ruleX_4 hG r
          generalize (ruleN (gX g) r).2 = R2 at cr hnx hd h4
          have hbm : (M.length + 1) * 24 ≤ 140737488355328 := by omega
          have hw : wr64 ((d : Int) + 1) = ((d + 1 : Nat) : Int) := wr64_id (by omega) (by omega)
          refine wkc (And.intro @hjl (And.intro @hzj (And.intro (@get_E _ _ _ _ hzj) (And.intro @nodeC.eq_1 (And.intro @itemN.eq_1 (@grammarC.eq_1)))))) _ ?_
          refine GS.cc (cr) rfl rfl rfl rfl (by simp [go_sem, List.take_of_length_le, grammarC] <;> with_reducible rfl) rfl (by simp [go_sem, List.take_of_length_le, grammarC]) ?_
          by_cases hdl : d < R2.length
          · have hdi : (d : Int) < (R2.length : Int) := by omega
            have hyd : R2[d]? = some R2[d] := List.getElem?_eq_getElem hdl
            generalize R2[d] = y at hyd
            rw [hyd] at hnx
            by_cases hyx : y = (i : Int) - g.2.1
            · have hyx1 : (y == (i : Int) - g.2.1) = true := by simp [hyx]
              rw [if_pos (by rw [hyx])] at hnx
              refine wkc (And.intro @hdl (And.intro @hdi (And.intro @hyd (And.intro (@get_E _ _ _ _ hyd) (And.intro @hyx1 (And.intro @hjl (And.intro @hzj (And.intro (@get_E _ _ _ _ hzj) (And.intro @nodeC.eq_1 (And.intro @itemN.eq_1 (And.intro @hw (@hbm)))))))))))) _ ?_
              refine ⟨j + 1, by omega, by omega, ?_⟩
              rw [stepj, hnx]
              exact Cov.ofn (nm [0, 1, 2, 3, 4, 5, 6, 11]) rfl (by simp [go_sem, List.take_of_length_le, ren, ren1, ren2, okr, okr1, okr2, ChkT, ChkN, BlkN, nf, grammarC, itemN, nodes_snocE, hokw, ren_itemssO]) (by simp [go_sem, List.take_of_length_le, ren, ren1, ren2, okr, okr1, okr2, ChkT, ChkN, BlkN, nf, grammarC, itemN, nodes_snocE, hokw, ren_itemssO])
            · have hyx1 : (y == (i : Int) - g.2.1) = false := by rw [beq_eq_false_iff_ne]; exact hyx
              rw [if_neg (by intro e; injection e with e; exact hyx e), List.append_nil] at hnx
              refine wkc (And.intro @hdl (And.intro @hdi (And.intro @hyd (And.intro (@get_E _ _ _ _ hyd) (And.intro @hyx1 (And.intro @hjl (And.intro @hzj (And.intro (@get_E _ _ _ _ hzj) (And.intro @nodeC.eq_1 (@itemN.eq_1)))))))))) _ ?_
              refine ⟨j + 1, by omega, by omega, ?_⟩
              rw [stepj, hnx]
              exact Cov.ofn (id) rfl (by simp [go_sem, List.take_of_length_le, ren, ren1, ren2, okr, okr1, okr2, ChkT, ChkN, BlkN, nf, grammarC, hokw, ren_itemssO]) (by simp [go_sem, List.take_of_length_le, ren, ren1, ren2, okr, okr1, okr2, ChkT, ChkN, BlkN, nf, grammarC, hokw, ren_itemssO])
          · have hdi : ¬ (d : Int) < (R2.length : Int) := by omega
            rw [List.getElem?_eq_none (by omega), if_neg (by simp), List.append_nil] at hnx
            refine wkc (And.intro @hdl (And.intro @hdi (And.intro @hjl (And.intro @hzj (And.intro (@get_E _ _ _ _ hzj) (And.intro @nodeC.eq_1 (@itemN.eq_1))))))) _ ?_
            refine ⟨j + 1, by omega, by omega, ?_⟩
            rw [stepj, hnx]
            exact Cov.ofn (id) rfl (by simp [go_sem, List.take_of_length_le, ren, ren1, ren2, okr, okr1, okr2, ChkT, ChkN, BlkN, nf, grammarC, hokw, ren_itemssO]) (by simp [go_sem, List.take_of_length_le, ren, ren1, ren2, okr, okr1, okr2, ChkT, ChkN, BlkN, nf, grammarC, hokw, ren_itemssO])
        · have hje : j = S.length := by simp at h; omega
          subst hje
          rw [List.take_length]
          have hkl : (kernX (gX g) S ((i : Int) - g.2.1)).length ≤ 85 := by
            have h1 := List.length_filter_le (fun z => decide (symAt (gX g) z = some ((i : Int) - g.2.1))) S
            have := hok.2.2.2
            simp only [kernX, List.length_map]
            omega
          generalize kernX (gX g) S ((i : Int) - g.2.1) = M at hknil hkun hknd hgo hkl ⊢
          first | (refine Holds.close 3 gs.length 0 (s' := ?_) rfl (set_get (iGet hS)) rfl rfl rfl rfl (by simp) (by simp [nf]) ?_ ?_; rotate_left; (· (simp [go_sem, List.take_of_length_le, List.set_set, iSet hS] <;> with_reducible rfl))) | (refine GS.close 3 gs.length 0 (s' := ?_) rfl (set_get (iGet hS)) rfl rfl (by exact rfl) (by exact rfl) (by simp) (by simp [nf]) ?_ ?_; rotate_left; (· (simp [go_sem, List.take_of_length_le, List.set_set, iSet hS] <;> with_reducible rfl)))
          by_cases hne : M = []
          · rw [if_pos (hknil.2 hne)] at hsd
            have hpos : ¬ (0 : Int) < (M.length : Int) := by rw [hne]; simp
            have hpos2 : M.length = 0 := by rw [hne]; rfl
            subst hsd
            refine wkc (And.intro @hpos (And.intro @hpos2 (@hbr))) _ ?_
            refine ⟨(i + 1, (sts, row ++ [-1])), ⟨by dsimp only; omega, hok2, hS, hfew, by simp [hrl], hrun⟩, by dsimp only; omega, ?_⟩
            rw [stepx]
            exact Cov.ofn (nm [0, 1, 2, 3, 4, 10]) rfl (by simp [go_sem, List.take_of_length_le, ren, ren1, ren2, okr, okr1, okr2, ChkT, ChkN, BlkN, nf, grammarC, ints_snoc]) (by simp [go_sem, List.take_of_length_le, ren, ren1, ren2, okr, okr1, okr2, ChkT, ChkN, BlkN, nf, grammarC, ints_snoc])
          · have hnt : to ≠ [] := fun e => hne (hknil.1 e)
            rw [if_neg hnt] at hsd
            have hpos : (0 : Int) < (M.length : Int) := by have := List.length_pos_iff.2 hne; omega
            have hpos2 : 0 < M.length := by omega
            have cc := closureG g hG M hknd hkun
            rw [← hgo] at cc
            repeat' first | (refine Holds.condT ?_ ?_; (· (simp [go_sem, List.take_of_length_le, hpos, hpos2, hne, grammarC] <;> with_reducible rfl))) | (refine Holds.condF ?_ ?_; (· (simp [go_sem, List.take_of_length_le, hpos, hpos2, hne, grammarC] <;> with_reducible rfl))) | refine Holds.seq ?_ | refine Holds.skip ?_ | refine Holds.exit ?_ | refine Holds.ret ?_ | refine thenA_normal ?_ | refine thenA_exit ?_ | refine thenA_ret ?_ | refine inB_normal ?_ | refine inB_ret ?_ | refine inB_here ?_ | (refine inB_past ?_ ?_; (· exact rfl)) | refine Holds.reg ?_ | refine Holds.block ?_ | refine GS.nil ?_ | (refine GS.stepD 84 (s' := ?_) rfl ?_ ?_ ?_; rotate_left; (· exact rfl); (· (simp [go_sem, List.take_of_length_le, hpos, hpos2, hne, grammarC] <;> with_reducible rfl))) | (refine GS.skip ?_ ?_ ?_; (· exact rfl); (· exact rfl)) | fail
            refine GS.frz [7] [(83, .im 3 (nodes M))] (.cons rfl (Fz.all rfl rfl (by simp) rfl (nodes_ok _)) .nil) ?_
            refine GS.fnn [] (cc) rfl rfl rfl rfl (by simp [go_sem, List.take_of_length_le, ren, ren1, ren2, okr, okr1, okr2, ChkN, BlkN, List.range_succ, nf, grammarC, frz] <;> with_reducible rfl) (by simp [go_sem, List.take_of_length_le, ren, ren1, ren2, okr, okr1, okr2, ChkN, BlkN, List.range_succ, nf, grammarC, frz]) (by simp [go_sem, List.take_of_length_le, ren, ren1, ren2, okr, okr1, okr2, ChkN, BlkN, List.range_succ, nf, grammarC, frz]) (by simp [List.range_succ, lb]) (ChkN.toB (by simp [go_sem, List.take_of_length_le, ren, ren1, ren2, okr, okr1, okr2, ChkN, BlkN, List.range_succ, nf, grammarC, frz])) (by decide) (by simp) rfl (.nfr (by simp) .nil) (by simp [go_sem, List.take_of_length_le, ren, ren1, ren2, okr, okr1, okr2, ChkN, BlkN, List.range_succ, nf, grammarC, frz] <;> with_reducible rfl) ?_
            have ci := indexFuncItems 83 [.pi [.im 3 (nodes to)]] (fun o => decide (o = to)) sts (by omega) rfl (fun x hx => states1 x to (by have := (hstok.st x hx).2.2.2; omega))
            rw [show fstP (fun o => decide (o = to)) sts 0 = plX sts to from rfl] at ci
            refine wkc (And.intro @grammarC.eq_1 (@frz.eq_1)) _ ?_
            refine GS.cd (ci) rfl rfl rfl rfl (by simp [go_sem, List.take_of_length_le] <;> with_reducible rfl) rfl (by exact .cons (fz_itemssD _ rfl rfl) (.cons (Fz.fnL (.cons (Fz.pbM rfl rfl rfl (.cons (Fz.all rfl rfl (by simp) rfl (nodes_ok _)) .nil)) .nil)) .nil)) rfl ?_
            rcases hpl with ⟨_, hm1⟩ | ⟨i2, h1, h2, h3⟩
            · rw [if_pos hm1] at hsd
              subst hsd
              rw [hm1]
              by_cases h60 : sts.length = 60
              · have h60i : (60 : Int) ≤ (sts.length : Int) := by omega
                have h60n : 60 ≤ sts.length := by omega
                rw [hmany (by simp only [List.length_append, List.length_singleton] at hmono; omega)]
                refine wkc (And.intro @hbs (And.intro @h60i (@h60n))) _ ?_
                refine OutF.cov (Cov.nir (n := 1) (j := 0) (i := 0) 94 1 rfl rfl rfl) ?_
                refine OutF.cov (Cov.nir (n := 1) (j := 0) (i := 1) 25 1 rfl rfl rfl) ?_
                refine OutF.mkn (xs := ?_) (nm [13, 14]) ?_ ?_ ?_ ?_ ?_ (by first | exact .inr rfl | exact .inl rfl)
                rotate_left
                · simp [go_sem, List.take_of_length_le, nirw, show itemssO [] = [] from rfl, show intssO [] = [] from rfl] <;> with_reducible rfl
                · simp [go_sem, List.take_of_length_le, ren, ren1, ren2, okr, okr1, okr2, ChkN, BlkN, List.range_succ, nf, nirw, show itemssO [] = [] from rfl, show intssO [] = [] from rfl]
                · simp [go_sem, List.take_of_length_le, ren, ren1, ren2, okr, okr1, okr2, ChkN, BlkN, List.range_succ, nf, nirw, show itemssO [] = [] from rfl, show intssO [] = [] from rfl]
                · simp [go_sem, List.take_of_length_le, ren, ren1, ren2, okr, okr1, okr2, ChkN, BlkN, List.range_succ, nf, nirw, show itemssO [] = [] from rfl, show intssO [] = [] from rfl]
                · rfl
              · have h60i : ¬ (60 : Int) ≤ (sts.length : Int) := by omega
                have h60n : ¬ 60 ≤ sts.length := by omega
                refine wkc (And.intro @hbs (And.intro @hbr (And.intro @h60i (@h60n)))) _ ?_
                refine ⟨(i + 1, (sts ++ [to], row ++ [(sts.length : Int)])), ⟨by dsimp only; omega, hok2, by dsimp only; rw [List.getElem?_append_left hlt]; exact hS, by simp; omega, by simp [hrl], hrun⟩, by dsimp only; omega, ?_⟩
                rw [stepx]
                refine Cov.trans ?_ (Cov.close 12 sts.length 0 rfl (iAt sts _) rfl rfl rfl rfl (by simp) (by simp))
                simp only [rm, st, List.set_set]
                exact Cov.ofn (nm [0, 1, 2, 12, 4, 15]) rfl (by simp [go_sem, List.take_of_length_le, ren, ren1, ren2, okr, okr1, okr2, ChkT, ChkN, BlkN, nf, grammarC, iSnoc, iApp, ints_snoc]) (by simp [go_sem, List.take_of_length_le, ren, ren1, ren2, okr, okr1, okr2, ChkT, ChkN, BlkN, nf, grammarC, iSnoc, iApp, ints_snoc])
            · have hm2 : ¬ plX sts to = -1 := by omega
              have hm3 : ¬ (i2 : Int) < 0 := by omega
              have h60i : ¬ (60 : Int) ≤ (i2 : Int) := by omega
              have h60n : ¬ 60 ≤ i2 := by omega
              rw [if_neg hm2, h3] at hsd
              subst hsd
              rw [h3]
              refine wkc (And.intro @hbr (And.intro @hm3 (And.intro @h60i (@h60n)))) _ ?_
              refine ⟨(i + 1, (sts, row ++ [(i2 : Int)])), ⟨by dsimp only; omega, hok2, hS, hfew, by simp [hrl], hrun⟩, by dsimp only; omega, ?_⟩
              rw [stepx]
              exact Cov.ofn (nm [0, 1, 2, 3, 4, 12]) rfl (by simp [go_sem, List.take_of_length_le, ren, ren1, ren2, okr, okr1, okr2, ChkT, ChkN, BlkN, nf, grammarC, ints_snoc]) (by simp [go_sem, List.take_of_length_le, ren, ren1, ren2, okr, okr1, okr2, ChkT, ChkN, BlkN, nf, grammarC, ints_snoc])
    · have hie : i = (symsX g).length := by simp at h; omega
      subst hie
      rw [List.drop_length] at hrun
      change (sts, row) = R at hrun
      subst hrun
      dsimp only at hmany hnext
      have hbg : (gs.length + 1) * 24 ≤ 140737488355328 := by omega
      refine wkc (@hbg) _ ?_
      refine ⟨(sts, gs ++ [row]), hnext (by omega), by dsimp only; rw [List.length_append, List.length_singleton]; omega, ?_⟩
      rw [stepk]
      refine Cov.trans ?_ (Cov.close 8 gs.length 0 rfl (oAt gs _) rfl rfl rfl rfl (by simp) (by simp))
      simp only [rm, st, List.set_set]
      exact Cov.ofn (nm [0, 1, 2, 3, 8]) rfl (by simp [go_sem, List.take_of_length_le, ren, ren1, ren2, okr, okr1, okr2, ChkT, ChkN, BlkN, nf, grammarC, oSnoc, oApp]) (by simp [go_sem, List.take_of_length_le, ren, ren1, ren2, okr, okr1, okr2, ChkT, ChkN, BlkN, nf, grammarC, oSnoc, oApp])
  · rw [hI.end_ (by dsimp only; simp at h; omega)]
    refine wkc0 _ ?_
    refine OutF.mkn (xs := ?_) (nm [3, 4]) ?_ ?_ ?_ ?_ ?_ (by first | exact .inr rfl | exact .inl rfl)
    rotate_left
    · simp [go_sem, List.take_of_length_le] <;> with_reducible rfl
    · simp [go_sem, List.take_of_length_le, ren, ren1, ren2, okr, okr1, okr2, ChkN, BlkN, List.range_succ, nf]
    · simp [go_sem, List.take_of_length_le, ren, ren1, ren2, okr, okr1, okr2, ChkN, BlkN, List.range_succ, nf]
    · simp [go_sem, List.take_of_length_le, ren, ren1, ren2, okr, okr1, okr2, ChkN, BlkN, List.range_succ, nf]
    · rfl
end Go.Proofs.YtkolhcoeifghpaaGreat.En
end
section
namespace Go.Proofs.YtkolhcoeifghpaaGreat.En
open Go.RowKit
set_option linter.unusedSimpArgs false
set_option linter.unusedVariables false
set_option maxHeartbeats 4000000
theorem eqItem (a b : Node3) : Pure Tryz.prog 123 [.ag (nodeC a), .ag (nodeC b)] (.v (.bool (decide (a = b)))) := by
  refine Pure.mk (rs := [.tmp 4]) (nt := 20) Tryz.func123 rfl rfl rfl rfl (by simp) ?_
  simp only [sl, nodeC]
  refine wk0 _ ?_
  refine Holds.cond rfl (fun hl => ?_) (fun h1 => ?_)
  · have : ¬ a = b := by rintro rfl; simp at hl
    simp only [this, decide_false]
    refine wk0 _ ?_
    refine Out.mk (xs := ?_) ?_ ?_ (by first | exact .inr rfl | exact .inl rfl)
    rotate_left
    · simp [go_sem, List.take_of_length_le] <;> with_reducible rfl
    exact .v _
  refine wk0 _ ?_
  refine Holds.cond rfl (fun hl => ?_) (fun h2 => ?_)
  · have : ¬ a = b := by rintro rfl; simp at hl
    simp only [this, decide_false]
    refine wk0 _ ?_
    refine Out.mk (xs := ?_) ?_ ?_ (by first | exact .inr rfl | exact .inl rfl)
    rotate_left
    · simp [go_sem, List.take_of_length_le] <;> with_reducible rfl
    exact .v _
  refine wk0 _ ?_
  refine Holds.cond rfl (fun hl => ?_) (fun h3 => ?_)
  · have : ¬ a = b := by rintro rfl; simp at hl
    simp only [this, decide_false]
    refine wk0 _ ?_
    refine Out.mk (xs := ?_) ?_ ?_ (by first | exact .inr rfl | exact .inl rfl)
    rotate_left
    · simp [go_sem, List.take_of_length_le] <;> with_reducible rfl
    exact .v _
  have : a = b := by
    obtain ⟨a1, a2, a3⟩ := a
    obtain ⟨b1, b2, b3⟩ := b
    simp at h1 h2 h3
    simp [h1, h2, h3]
  simp only [this, decide_true]
  refine wk0 _ ?_
  refine Out.mk (xs := ?_) ?_ ?_ (by first | exact .inr rfl | exact .inl rfl)
  rotate_left
  · simp [go_sem, List.take_of_length_le] <;> with_reducible rfl
  exact .v _

theorem eqItemS (xs ys : List Node3) (hx : xs.length < 4611686018427387904) : Pure Tryz.prog 99 [.im 3 (nodes xs), .im 3 (nodes ys)] (.v (.bool (decide (xs = ys)))) := by
  refine Pure.mk (rs := [.tmp 4]) (nt := 27) Tryz.func99 rfl rfl rfl rfl (by simp) ?_
  simp only [sl]
  refine wkd0 _ ?_
  refine Holds.cond rfl (fun hl => ?_) (fun hl => ?_)
  · have : ¬ xs = ys := by rintro rfl; simp at hl
    simp only [this, decide_false]
    refine wkd0 _ ?_
    refine Out.mk (xs := ?_) ?_ ?_ (by first | exact .inr rfl | exact .inl rfl)
    rotate_left
    · simp [go_sem, List.take_of_length_le] <;> with_reducible rfl
    exact .v _
  · have hlen : xs.length = ys.length := by
      have : (xs.length : Int) = ys.length := by simpa using hl
      omega
    refine wkd0 _ ?_
    refine Holds.loop (ι := Nat) (fun i => ⟨[(0, .im 3 (nodes xs)), (1, .im 3 (nodes ys)), (5, .v (.int .i64 i))], [], 0⟩) (fun i => i ≤ xs.length ∧ xs.take i = ys.take i) (fun i => xs.length - i) 0 ⟨Nat.zero_le _, rfl⟩ ?_ ?_
    · exact Cov.of id (by simp [ChkT, okr, okr1, lk, ren, ren1]) (by simp [ChkB])
    rintro i ⟨hi, htk⟩
    refine wkd0 _ ?_
    refine Holds.cond rfl (fun hl => ?_) (fun hl => ?_)
    · have hlt : i < xs.length := by simpa using hl
      have hxi : xs[i]? = some xs[i] := List.getElem?_eq_getElem hlt
      have hyi : ys[i]? = some ys[i] := List.getElem?_eq_getElem (by omega)
      refine wkd (And.intro @hxi (And.intro @hyi (@nodeC.eq_1))) _ ?_
      first | refine GS.cc (eqItem xs[i] ys[i]) rfl rfl rfl rfl (by simp [go_sem, List.take_of_length_le, nodeC] <;> with_reducible rfl) rfl (by simp [go_sem, List.take_of_length_le, nodeC]) ?_ | refine Gd.cc (eqItem xs[i] ys[i]) rfl rfl rfl rfl (by simp [go_sem, List.take_of_length_le, nodeC] <;> with_reducible rfl) rfl (by simp [go_sem, List.take_of_length_le, nodeC]) ?_
      refine wkd0 _ ?_
      refine Holds.cond rfl (fun hl => ?_) (fun hl => ?_)
      · have hne : ¬ xs = ys := ne_at hxi hyi (by simpa using hl)
        simp only [hne, decide_false]
        refine wkd0 _ ?_
        refine Out.mk (xs := ?_) ?_ ?_ (by first | exact .inr rfl | exact .inl rfl)
        rotate_left
        · simp [go_sem, List.take_of_length_le] <;> with_reducible rfl
        exact .v _
      · have he : xs[i] = ys[i] := by simpa using hl
        refine wkd0 _ ?_
        refine ⟨i + 1, ⟨by omega, (take_next hxi hyi htk).2 he⟩, by omega, ?_⟩
        rw [wr64_id (by omega) (by omega)]
        exact Cov.of id (by simp [ChkT, okr, okr1, lk, ren, ren1]) (by simp [ChkB])
    · have hle : i = xs.length := by
        have : ¬ i < xs.length := by simpa using hl
        omega
      have he : xs = ys := by
        subst hle
        rw [List.take_length, hlen, List.take_length] at htk
        exact htk
      simp only [he, decide_true]
      refine wkd0 _ ?_
      refine Out.mk (xs := ?_) ?_ ?_ (by first | exact .inr rfl | exact .inl rfl)
      rotate_left
      · simp [go_sem, List.take_of_length_le] <;> with_reducible rfl
      exact .v _

theorem markItemS (l : List (Node3)) (k : Int) (h0 : 0 ≤ k) (h1 : k + wtL wNode l ≤ 4611686018427387904) (h2 : l.length ≤ 4611686018427387904) : Fn Tryz.prog 100 1 [.own 0 3 0 l.length, .v (.int .i64 k)] [(0, ⟨97, 3, nodes l⟩)] (.v (.int .i64 (k + wtL wNode l))) 1 [(0, ⟨97, 3, nodes (mkL wNode mNode k l)⟩)] := by
  have hl0 : (nodes (mkL wNode mNode k l)).length = (nodes l).length := by simp
  have hl1 : (nodes l).length = l.length := by simp
  refine Fn.mk (rs := [.tmp 4]) (nt := 34) Tryz.func100 (by kernel_rfl) rfl rfl rfl (by simp) ?_
  simp only [sl]
  refine wk0 _ ?_
  refine Holds.loop (ι := Nat) (fun i => ⟨[(0, .own 0 3 0 l.length), (1, .v (.int .i64 (k + wtL wNode (l.take i)))), (5, .v (.int .i64 i))], [(0, ⟨97, 3, mid (nodes (mkL wNode mNode k l)) (nodes l) i⟩)], 1⟩) (fun i => i ≤ l.length) (fun i => l.length - i) 0 (Nat.zero_le _) ?_ ?_
  · exact Cov.ofn (id) rfl (by simp [go_sem, List.take_of_length_le, ren, ren1, ren2, okr, okr1, okr2, ChkT, ChkN, BlkN, nf, wtL]) (by simp [go_sem, List.take_of_length_le, ren, ren1, ren2, okr, okr1, okr2, ChkT, ChkN, BlkN, nf, wtL])
  intro i hi
  have hml := (mid_len (i := i) hl0).trans hl1
  refine wk (@hml) _ ?_
  refine Holds.cond rfl (fun hl => ?_) (fun hl => ?_)
  · have hlt : i < l.length := by simpa using hl
    have hxi : l[i]? = some l[i] := List.getElem?_eq_getElem hlt
    have hwn := wtL_next wNode hxi
    have hwl := wtL_le wNode l (i + 1)
    have hmk : (mkL wNode mNode k l)[i]? = some (mNode (k + wtL wNode (l.take i)) l[i]) := by rw [mkL_get, hxi]; rfl
    have hhi := (mid_get hl0 (i := i) (by simpa using hlt)).trans (show (nodes l)[i]? = some (nodeC l[i]) by simp [hxi])
    have hhs := mid_set hl0 (i := i) (by simpa using hlt) (show (nodes (mkL wNode mNode k l))[i]? = some (nodeC (mNode (k + wtL wNode (l.take i)) l[i])) by simp [hmk])
    have hnf : nfr (mid (nodes (mkL wNode mNode k l)) (nodes l) i) := nfr_mid (by simp) (by simp)
    have hnf1 : nfr (mid (nodes (mkL wNode mNode k l)) (nodes l) (i + 1)) := nfr_mid (by simp) (by simp)
    have hW0 : (0 : Int) ≤ (wtL wNode (l.take i) : Int) := Int.natCast_nonneg _
    generalize wtL wNode (l.take i) = W at hwn hmk hhs hW0 ⊢
    generalize hX : l[i] = x at hxi hwn hmk hhi hhs
    simp only [wNode] at hwn
    simp only [nodeC, mNode] at hhs
    simp only [nodeC] at hhi
    have hhe := get_E hhi
    have hw0 : wr64 ((k + W : Int) + 1) = (k + W : Int) + 1 := wr64_id (by omega) (by omega)
    have hw1 : wr64 ((k + W : Int) + 1 + 1) = (k + W : Int) + 1 + 1 := wr64_id (by omega) (by omega)
    have hw2 : wr64 ((k + W : Int) + 1 + 1 + 1) = (k + W : Int) + 1 + 1 + 1 := wr64_id (by omega) (by omega)
    refine wk (And.intro @hml (And.intro @hhi (And.intro @hhe (And.intro @hlt (And.intro @hl0 (And.intro @hw0 (And.intro @hw1 (@hw2)))))))) _ ?_
    refine ⟨i + 1, by omega, by omega, ?_⟩
    rw [show wr64 ((i : Int) + 1) = ((i + 1 : Nat) : Int) from wr64_id (by omega) (by omega), hwn]
    exact Cov.ofn (id) rfl (by simp [go_sem, List.take_of_length_le, ren, ren1, ren2, okr, okr1, okr2, ChkT, ChkN, BlkN, nf, hhs, hnf, hnf1, Int.add_assoc]) (by simp [go_sem, List.take_of_length_le, ren, ren1, ren2, okr, okr1, okr2, ChkT, ChkN, BlkN, nf, hhs, hnf, hnf1])
  · have hle : i = l.length := by
      have : ¬ i < l.length := by simpa using hl
      omega
    subst hle
    rw [mid_all (by simp) (by simp), List.take_length]
    refine wk0 _ ?_
    refine OutF.mkn (xs := ?_) (nm [0]) ?_ ?_ ?_ ?_ ?_ (by first | exact .inr rfl | exact .inl rfl)
    rotate_left
    · simp [go_sem, List.take_of_length_le] <;> with_reducible rfl
    · simp [go_sem, List.take_of_length_le, ren, ren1, ren2, okr, okr1, okr2, ChkN, BlkN, List.range_succ, nf]
    · simp [go_sem, List.take_of_length_le, ren, ren1, ren2, okr, okr1, okr2, ChkN, BlkN, List.range_succ, nf]
    · simp [go_sem, List.take_of_length_le, ren, ren1, ren2, okr, okr1, okr2, ChkN, BlkN, List.range_succ, nf]
    · rfl
end Go.Proofs.YtkolhcoeifghpaaGreat.En
end
section
namespace Go.Proofs.YtkolhcoeifghpaaGreat.En
open Go.RowKit
set_option linter.unusedSimpArgs false
set_option linter.unusedVariables false
set_option maxHeartbeats 4000000
@[simp] theorem onyR_dones (l : List (DoneT)) : onyR (dones l) := fun row hr x hx => by
  have := dones_ok l row hr x hx
  simp only [dones, List.mem_map] at hr
  obtain ⟨n, _, rfl⟩ := hr
  simp only [doneC, List.mem_cons, List.not_mem_nil, or_false] at hx
  rcases hx with rfl | rfl | rfl | rfl <;> simp
end Go.Proofs.YtkolhcoeifghpaaGreat.En
end
section
namespace Go.Proofs.YtkolhcoeifghpaaGreat.En
open Go.RowKit
set_option linter.unusedSimpArgs false
set_option linter.unusedVariables false
theorem wtL_bound {α : Type} {w : α → Nat} {c : Nat} : ∀ {xs : List α}, (∀ x ∈ xs, w x ≤ c) → wtL w xs ≤ c * xs.length
  | [], _ => by simp [wtL]
  | x :: xs, h => by
    have h1 := h x (by simp)
    have h2 := wtL_bound (xs := xs) (fun y hy => h y (by simp [hy]))
    simp only [wtL, List.length_cons, Nat.mul_succ]; omega
end Go.Proofs.YtkolhcoeifghpaaGreat.En
end
section
namespace Go.Proofs.YtkolhcoeifghpaaGreat.En
open Go.RowKit
set_option linter.unusedSimpArgs false
set_option linter.unusedVariables false
set_option maxHeartbeats 4000000
def wItemS (x : List Node3) : Nat := wtL wNode x
def mItemS (k : Int) (x : List Node3) : List Node3 := mkL wNode mNode k x
@[simp] theorem onyR_itemssO (l : Sets3) : onyR (itemssO l) := ony_itemssO l
def lrC (x : LrT) : List AV := [.im 1 (itemss x.1), .im 1 (intss x.2)]
theorem markItemSS (l : List (List Node3)) (k : Int) (h0 : 0 ≤ k) (h1 : k + wtL wItemS l ≤ 4611686018427387904) (h2 : l.length ≤ 4611686018427387904) (hs : ∀ q ∈ l, q.length ≤ 4611686018427387904) : Fn Tryz.prog 56 1 [.own 0 1 0 l.length, .v (.int .i64 k)] [(0, ⟨94, 1, itemssO l⟩)] (.v (.int .i64 (k + wtL wItemS l))) 1 [(0, ⟨94, 1, itemssO (mkL wItemS mItemS k l)⟩)] := by
  have hl0 : (itemssO (mkL wItemS mItemS k l)).length = (itemssO l).length := by simp
  have hl1 : (itemssO l).length = l.length := by simp
  refine Fn.mk (rs := [.tmp 4]) (nt := 19) Tryz.func56 (by kernel_rfl) rfl rfl rfl (by simp) ?_
  simp only [sl]
  refine wk0 _ ?_
  refine Holds.loop (ι := Nat) (fun i => ⟨[(0, .own 0 1 0 l.length), (1, .v (.int .i64 (k + wtL wItemS (l.take i)))), (5, .v (.int .i64 i))], [(0, ⟨94, 1, mid (itemssO (mkL wItemS mItemS k l)) (itemssO l) i⟩)], 1⟩) (fun i => i ≤ l.length) (fun i => l.length - i) 0 (Nat.zero_le _) ?_ ?_
  · exact Cov.ofn (id) rfl (by simp [go_sem, List.take_of_length_le, ren, ren1, ren2, okr, okr1, okr2, ChkT, ChkN, BlkN, nf, wtL]) (by simp [go_sem, List.take_of_length_le, ren, ren1, ren2, okr, okr1, okr2, ChkT, ChkN, BlkN, nf, wtL])
  intro i hi
  have hml := (mid_len (i := i) hl0).trans hl1
  refine wk (@hml) _ ?_
  refine Holds.cond rfl (fun hl => ?_) (fun hl => ?_)
  · have hlt : i < l.length := by simpa using hl
    have hxi : l[i]? = some l[i] := List.getElem?_eq_getElem hlt
    have hwn := wtL_next wItemS hxi
    have hwl := wtL_le wItemS l (i + 1)
    have hmk : (mkL wItemS mItemS k l)[i]? = some (mItemS (k + wtL wItemS (l.take i)) l[i]) := by rw [mkL_get, hxi]; rfl
    have hhi := (mid_get hl0 (i := i) (by simpa using hlt)).trans (show (itemssO l)[i]? = some (itemO l[i]) by simp [hxi])
    have hhs := mid_set hl0 (i := i) (by simpa using hlt) (show (itemssO (mkL wItemS mItemS k l))[i]? = some (itemO (mItemS (k + wtL wItemS (l.take i)) l[i])) by simp [hmk])
    have hnf : nfr (mid (itemssO (mkL wItemS mItemS k l)) (itemssO l) i) := nfr_mid (by simp) (by simp)
    have hnf1 : nfr (mid (itemssO (mkL wItemS mItemS k l)) (itemssO l) (i + 1)) := nfr_mid (by simp) (by simp)
    have hW0 : (0 : Int) ≤ (wtL wItemS (l.take i) : Int) := Int.natCast_nonneg _
    generalize wtL wItemS (l.take i) = W at hwn hmk hhs hW0 ⊢
    generalize hX : l[i] = x at hxi hwn hmk hhi hhs
    simp only [wItemS] at hwn
    simp only [itemO, mItemS] at hhs
    simp only [itemO] at hhi
    have hhe := get_E hhi
    refine wk (And.intro @hml (And.intro @hhi (And.intro @hhe (And.intro @hlt (@hl0))))) _ ?_
    refine GS.fnn [1] (markItemS x ((k + W : Int)) (by omega) (by omega) (hs _ (List.mem_of_getElem? hxi))) rfl rfl rfl rfl (by simp [go_sem, List.take_of_length_le, ren, ren1, ren2, okr, okr1, okr2, ChkN, BlkN, List.range_succ, nf, hml, hhi, hhe, hlt, hl0] <;> with_reducible rfl) (by simp [go_sem, List.take_of_length_le, ren, ren1, ren2, okr, okr1, okr2, ChkN, BlkN, List.range_succ, nf, hml, hhi, hhe, hlt, hl0]) (by simp [go_sem, List.take_of_length_le, ren, ren1, ren2, okr, okr1, okr2, ChkN, BlkN, List.range_succ, nf, hml, hhi, hhe, hlt, hl0]) (by simp [List.range_succ, lb]) (ChkN.toB (by simp [go_sem, List.take_of_length_le, ren, ren1, ren2, okr, okr1, okr2, ChkN, BlkN, List.range_succ, nf, hml, hhi, hhe, hlt, hl0])) (by decide) (by simp) rfl (.nfr (by simp) .nil) (by simp [go_sem, List.take_of_length_le, ren, ren1, ren2, okr, okr1, okr2, ChkN, BlkN, List.range_succ, nf, hml, hhi, hhe, hlt, hl0] <;> with_reducible rfl) ?_
    refine wk (And.intro @hml (And.intro @hhi (And.intro @hhe (And.intro @hlt (@hl0))))) _ ?_
    refine ⟨i + 1, by omega, by omega, ?_⟩
    rw [show wr64 ((i : Int) + 1) = ((i + 1 : Nat) : Int) from wr64_id (by omega) (by omega), hwn]
    refine Cov.trans ?_ (Cov.close 0 i 0 rfl (set_get hhi) rfl rfl rfl rfl (by first | rfl | simp) (by simp))
    simp only [rm, st, List.set_set, List.set_cons_zero, List.set_cons_succ]
    exact Cov.ofn (id) rfl (by simp [go_sem, List.take_of_length_le, ren, ren1, ren2, okr, okr1, okr2, ChkT, ChkN, BlkN, nf, hhs, hnf, hnf1, Int.add_assoc]) (by simp [go_sem, List.take_of_length_le, ren, ren1, ren2, okr, okr1, okr2, ChkT, ChkN, BlkN, nf, hhs, hnf, hnf1])
  · have hle : i = l.length := by
      have : ¬ i < l.length := by simpa using hl
      omega
    subst hle
    rw [mid_all (by simp) (by simp), List.take_length]
    refine wk0 _ ?_
    refine OutF.mkn (xs := ?_) (nm [0]) ?_ ?_ ?_ ?_ ?_ (by first | exact .inr rfl | exact .inl rfl)
    rotate_left
    · simp [go_sem, List.take_of_length_le] <;> with_reducible rfl
    · simp [go_sem, List.take_of_length_le, ren, ren1, ren2, okr, okr1, okr2, ChkN, BlkN, List.range_succ, nf]
    · simp [go_sem, List.take_of_length_le, ren, ren1, ren2, okr, okr1, okr2, ChkN, BlkN, List.range_succ, nf]
    · simp [go_sem, List.take_of_length_le, ren, ren1, ren2, okr, okr1, okr2, ChkN, BlkN, List.range_succ, nf]
    · rfl
def wLr (x : LrT) : Nat := wtL wItemS x.1 + wtL wIntS x.2
def mLr (k : Int) (x : LrT) : LrT := (mkL wItemS mItemS (k) x.1, mkL wIntS mIntS (k + wtL wItemS x.1) x.2)
theorem markLr (x : LrT) (k : Int) (h0 : 0 ≤ k) (h1 : k + wLr x ≤ 4611686018427387904) (g00 : x.1.length ≤ 4611686018427387904) (g01 : ∀ q ∈ x.1, q.length ≤ 4611686018427387904) (g10 : x.2.length ≤ 4611686018427387904) : Fn Tryz.prog 23 2 [.ag [.own 0 1 0 (x.1).length, .own 1 1 0 (x.2).length], .v (.int .i64 k)] [(0, ⟨94, 1, itemssO x.1⟩), (1, ⟨25, 1, intssO x.2⟩)] (.v (.int .i64 (k + wLr x))) 2 [(0, ⟨94, 1, itemssO (mLr k x).1⟩), (1, ⟨25, 1, intssO (mLr k x).2⟩)] := by
  simp only [wLr] at h1
  simp only [wLr, mLr]
  refine Fn.mk (rs := [.tmp 4]) (nt := 14) Tryz.func23 (by kernel_rfl) rfl rfl rfl (by simp) ?_
  simp only [sl]
  refine wk0 _ ?_
  refine GS.fnn [0] (markItemSS x.1 (k) (by omega) (by omega) g00 g01) rfl rfl rfl rfl (by simp [go_sem, List.take_of_length_le, ren, ren1, ren2, okr, okr1, okr2, ChkN, BlkN, List.range_succ, nf] <;> with_reducible rfl) (by simp [go_sem, List.take_of_length_le, ren, ren1, ren2, okr, okr1, okr2, ChkN, BlkN, List.range_succ, nf]) (by simp [go_sem, List.take_of_length_le, ren, ren1, ren2, okr, okr1, okr2, ChkN, BlkN, List.range_succ, nf]) (by simp [List.range_succ, lb]) (ChkN.toB (by simp [go_sem, List.take_of_length_le, ren, ren1, ren2, okr, okr1, okr2, ChkN, BlkN, List.range_succ, nf])) (by decide) (by simp) rfl (.nfr (by simp) .nil) (by simp [go_sem, List.take_of_length_le, ren, ren1, ren2, okr, okr1, okr2, ChkN, BlkN, List.range_succ, nf] <;> with_reducible rfl) ?_
  refine wk0 _ ?_
  refine GS.fnn [1] (markIntSS x.2 (k + wtL wItemS x.1) (by omega) (by omega) g10) rfl rfl rfl rfl (by simp [go_sem, List.take_of_length_le, ren, ren1, ren2, okr, okr1, okr2, ChkN, BlkN, List.range_succ, nf] <;> with_reducible rfl) (by simp [go_sem, List.take_of_length_le, ren, ren1, ren2, okr, okr1, okr2, ChkN, BlkN, List.range_succ, nf]) (by simp [go_sem, List.take_of_length_le, ren, ren1, ren2, okr, okr1, okr2, ChkN, BlkN, List.range_succ, nf]) (by simp [List.range_succ, lb]) (ChkN.toB (by simp [go_sem, List.take_of_length_le, ren, ren1, ren2, okr, okr1, okr2, ChkN, BlkN, List.range_succ, nf])) (by decide) (by simp) rfl (.nfr (by simp) .nil) (by simp [go_sem, List.take_of_length_le, ren, ren1, ren2, okr, okr1, okr2, ChkN, BlkN, List.range_succ, nf] <;> with_reducible rfl) ?_
  refine wk0 _ ?_
  refine OutF.mkn (xs := ?_) (nm [0, 1]) ?_ ?_ ?_ ?_ ?_ (by first | exact .inr rfl | exact .inl rfl)
  rotate_left
  · simp [go_sem, List.take_of_length_le, Int.add_assoc, cnt] <;> with_reducible rfl
  · simp [go_sem, List.take_of_length_le, ren, ren1, ren2, okr, okr1, okr2, ChkN, BlkN, List.range_succ, nf, Int.add_assoc, cnt]
  · simp [go_sem, List.take_of_length_le, ren, ren1, ren2, okr, okr1, okr2, ChkN, BlkN, List.range_succ, nf, Int.add_assoc, cnt]
  · simp [go_sem, List.take_of_length_le, ren, ren1, ren2, okr, okr1, okr2, ChkN, BlkN, List.range_succ, nf, Int.add_assoc, cnt]
  · rfl
theorem eqItemSS (xs ys : List (List Node3)) (hx : xs.length < 4611686018427387904) (hs : ∀ e ∈ xs, e.length < 4611686018427387904) : Pure Tryz.prog 54 [.im 1 (itemss xs), .im 1 (itemss ys)] (.v (.bool (decide (xs = ys)))) := by
  refine Pure.mk (rs := [.tmp 4]) (nt := 27) Tryz.func54 (by kernel_rfl) rfl rfl rfl (by simp) ?_
  simp only [sl]
  refine wkd0 _ ?_
  refine Holds.cond rfl (fun hl => ?_) (fun hl => ?_)
  · have : ¬ xs = ys := by rintro rfl; simp at hl
    simp only [this, decide_false]
    refine wkd0 _ ?_
    refine Out.mk (xs := ?_) ?_ ?_ (by first | exact .inr rfl | exact .inl rfl)
    rotate_left
    · simp [go_sem, List.take_of_length_le] <;> with_reducible rfl
    exact .v _
  · have hlen : xs.length = ys.length := by
      have : (xs.length : Int) = ys.length := by simpa using hl
      omega
    refine wkd0 _ ?_
    refine Holds.loop (ι := Nat) (fun i => ⟨[(0, .im 1 (itemss xs)), (1, .im 1 (itemss ys)), (5, .v (.int .i64 i))], [], 0⟩) (fun i => i ≤ xs.length ∧ xs.take i = ys.take i) (fun i => xs.length - i) 0 ⟨Nat.zero_le _, rfl⟩ ?_ ?_
    · exact Cov.of id (by simp [ChkT, okr, okr1, lk, ren, ren1]) (by simp [ChkB])
    rintro i ⟨hi, htk⟩
    refine wkd0 _ ?_
    refine Holds.cond rfl (fun hl => ?_) (fun hl => ?_)
    · have hlt : i < xs.length := by simpa using hl
      have hxi : xs[i]? = some xs[i] := List.getElem?_eq_getElem hlt
      have hyi : ys[i]? = some ys[i] := List.getElem?_eq_getElem (by omega)
      refine wkd (And.intro @hxi (And.intro @hyi (@itemssC.eq_1))) _ ?_
      first | refine GS.cc (eqItemS xs[i] ys[i] (hs _ (List.getElem_mem hlt))) rfl rfl rfl rfl (by simp [go_sem, List.take_of_length_le, itemssC] <;> with_reducible rfl) rfl (by simp [go_sem, List.take_of_length_le, itemssC]) ?_ | refine Gd.cc (eqItemS xs[i] ys[i] (hs _ (List.getElem_mem hlt))) rfl rfl rfl rfl (by simp [go_sem, List.take_of_length_le, itemssC] <;> with_reducible rfl) rfl (by simp [go_sem, List.take_of_length_le, itemssC]) ?_
      refine wkd0 _ ?_
      refine Holds.cond rfl (fun hl => ?_) (fun hl => ?_)
      · have hne : ¬ xs = ys := ne_at hxi hyi (by simpa using hl)
        simp only [hne, decide_false]
        refine wkd0 _ ?_
        refine Out.mk (xs := ?_) ?_ ?_ (by first | exact .inr rfl | exact .inl rfl)
        rotate_left
        · simp [go_sem, List.take_of_length_le] <;> with_reducible rfl
        exact .v _
      · have he : xs[i] = ys[i] := by simpa using hl
        refine wkd0 _ ?_
        refine ⟨i + 1, ⟨by omega, (take_next hxi hyi htk).2 he⟩, by omega, ?_⟩
        rw [wr64_id (by omega) (by omega)]
        exact Cov.of id (by simp [ChkT, okr, okr1, lk, ren, ren1]) (by simp [ChkB])
    · have hle : i = xs.length := by
        have : ¬ i < xs.length := by simpa using hl
        omega
      have he : xs = ys := by
        subst hle
        rw [List.take_length, hlen, List.take_length] at htk
        exact htk
      simp only [he, decide_true]
      refine wkd0 _ ?_
      refine Out.mk (xs := ?_) ?_ ?_ (by first | exact .inr rfl | exact .inl rfl)
      rotate_left
      · simp [go_sem, List.take_of_length_le] <;> with_reducible rfl
      exact .v _
theorem eqLr (x y : LrT) (h0 : x.1.length < 4611686018427387904) (h1 : ∀ e ∈ x.1, e.length < 4611686018427387904) (h2 : x.2.length < 4611686018427387904) (h3 : ∀ e ∈ x.2, e.length < 4611686018427387904) : Pure Tryz.prog 22 [.ag (lrC x), .ag (lrC y)] (.v (.bool (decide (x = y)))) := by
  refine Pure.mk (rs := [.tmp 4]) (nt := 17) Tryz.func22 (by kernel_rfl) rfl rfl rfl (by simp) ?_
  simp only [sl, lrC]
  have c1 := eqItemSS x.1 y.1 h0 h1
  have c2 := eqIntSS x.2 y.2 h2 h3
  refine wk0 _ ?_
  refine GS.cc (c1) rfl rfl rfl rfl (by simp [go_sem, List.take_of_length_le] <;> with_reducible rfl) rfl (by simp [go_sem, List.take_of_length_le]) ?_
  by_cases e1 : x.1 = y.1
  · rw [decide_eq_true e1]
    refine wk0 _ ?_
    refine Holds.cond rfl (fun h => by cases h) (fun h => ?_)
    refine wk0 _ ?_
    refine GS.cc (c2) rfl rfl rfl rfl (by simp [go_sem, List.take_of_length_le] <;> with_reducible rfl) rfl (by simp [go_sem, List.take_of_length_le]) ?_
    by_cases e2 : x.2 = y.2
    · rw [decide_eq_true e2, decide_eq_true (Prod.ext e1 e2)]
      refine wk0 _ ?_
      refine Holds.cond rfl (fun h => by cases h) (fun h => ?_)
      refine wk0 _ ?_
      refine Out.mk (xs := ?_) ?_ ?_ (by first | exact .inr rfl | exact .inl rfl)
      rotate_left
      · simp [go_sem, List.take_of_length_le] <;> with_reducible rfl
      exact .v _
    · rw [decide_eq_false e2, decide_eq_false (show ¬ x = y by intro e; subst e; exact e2 rfl)]
      refine wk0 _ ?_
      refine Holds.cond rfl (fun h => ?_) (fun h => by cases h)
      refine wk0 _ ?_
      refine Out.mk (xs := ?_) ?_ ?_ (by first | exact .inr rfl | exact .inl rfl)
      rotate_left
      · simp [go_sem, List.take_of_length_le] <;> with_reducible rfl
      exact .v _
  · rw [decide_eq_false e1, decide_eq_false (show ¬ x = y by intro e; subst e; exact e1 rfl)]
    refine wk0 _ ?_
    refine Holds.cond rfl (fun h => ?_) (fun h => by cases h)
    refine wk0 _ ?_
    refine Out.mk (xs := ?_) ?_ ?_ (by first | exact .inr rfl | exact .inl rfl)
    rotate_left
    · simp [go_sem, List.take_of_length_le] <;> with_reducible rfl
    exact .v _
end Go.Proofs.YtkolhcoeifghpaaGreat.En
end
section
namespace Go.Proofs.YtkolhcoeifghpaaGreat.En
open Go.RowKit Go.Shelf
set_option linter.unusedVariables false
end Go.Proofs.YtkolhcoeifghpaaGreat.En
end
section
namespace Go.Proofs.YtkolhcoeifghpaaGreat.En
open Go.RowKit
set_option linter.unusedSimpArgs false
set_option linter.unusedVariables false
set_option maxHeartbeats 4000000
theorem hasN_lstA (S : Int → Bool) {x : Int} (h0 : 0 ≤ x) (h5 : x ≤ 5) : hasN (lstN S) x = S x := by
  rw [hasN_dec, Bool.eq_iff_iff, decide_eq_true_eq, lstN, List.mem_filter, mem_univN]
  exact ⟨fun h => h.2, fun h => ⟨⟨h0, h5⟩, h⟩⟩
theorem lstN_len (S : Int → Bool) : (lstN S).length ≤ 6 := Nat.le_trans (List.length_filter_le _ _) (by decide)
def rowsT (n : Nat) (S : Int × Int → Bool) : List (List Int) := (List.range n).map fun x : Nat => lstT fun t => S (x, t)
@[simp] theorem rowsT_len (n : Nat) (S : Int × Int → Bool) : (rowsT n S).length = n := by simp [rowsT]
theorem rowsT_at (S : Int × Int → Bool) {n x : Nat} (h : x < n) : (rowsT n S)[x]? = some (lstT fun t => S (x, t)) := by
  simp [rowsT, List.getElem?_range h]
theorem rowsT_none (n : Nat) : rowsT n (fun _ => false) = List.replicate n [] := by
  refine List.ext_getElem? fun i => ?_
  by_cases h : i < n
  · rw [rowsT_at _ h, List.getElem?_replicate, if_pos h]; rfl
  · rw [List.getElem?_eq_none (by simp; omega), List.getElem?_eq_none (by simp; omega)]
theorem rowsT_put (S : Int × Int → Bool) {n x : Nat} (h : x < n) {t : Int} (ht : 0 ≤ t ∧ t ≤ 3) : (rowsT n S).set x (putL (lstT fun t => S (x, t)) t) = rowsT n (insI S (x, t)) := by
  refine List.ext_getElem? fun i => ?_
  by_cases hi : i < n
  · rw [rowsT_at _ hi, List.getElem?_set]
    by_cases e : x = i
    · subst e
      rw [if_pos rfl, if_pos (by simpa using h), lstT_put _ ht]
      congr 1
      exact lstT_ext fun u _ _ => by simp [insI]
    · rw [if_neg e, rowsT_at _ hi]
      congr 1
      refine lstT_ext fun u _ _ => ?_
      have : ¬ ((i : Int) = (x : Int)) := by omega
      simp [insI, this]
  · rw [List.getElem?_eq_none (by simp; omega), List.getElem?_eq_none (by simp; omega)]
theorem lstT_step (b : Int → Bool) {L : List Int} {j : Nat} {t : Int} (h : L[j]? = some t) (ht : 0 ≤ t ∧ t ≤ 3) : putL (lstT fun u => b u || hasN (L.take j) u) t = lstT fun u => b u || hasN (L.take (j + 1)) u := by
  rw [lstT_put _ ht]
  refine lstT_ext fun u _ _ => ?_
  rw [insI, Bool.eq_iff_iff]
  simp only [hasN_dec, Bool.or_eq_true, decide_eq_true_eq, List.take_add_one, h, List.mem_append, Option.toList_some, List.mem_singleton]
  exact or_assoc
theorem l14First (g : GrammarT) (hG : OkG g) (S : Int × Int → Bool) (n : Nat) (hn : (n : Int) = g.1) (right : List Int) (hl : right.length ≤ 4) (h1 : ∀ x ∈ right, x < g.1) (h0 : ∀ x ∈ right, -4 ≤ x) :
    Fn Tryz.prog 107 1 [.ag (grammarC g), .own 0 1 0 n, .im 1 (ints right)] [(0, ⟨25, 1, intss (rowsT n S)⟩)] (.im 1 (ints (lstT fun t => begT (madeS g false) S right t))) 1 [(0, ⟨25, 1, intss (rowsT n S)⟩)] := by
  have cn := l3Close g hG false
  have hn1 := hG.n1
  refine Fn.mk (rs := [.tmp 6]) (nt := 47) Tryz.func107 (by kernel_rfl) rfl rfl rfl (by simp) ?_
  simp only [sl, grammarC]
  refine wkc (@grammarC.eq_1) _ ?_
  refine GS.cc (cn) rfl rfl rfl rfl (by simp [go_sem, List.take_of_length_le, grammarC] <;> with_reducible rfl) rfl (by simp [go_sem, List.take_of_length_le, grammarC]) ?_
  generalize hN : madeS g false = N
  have hNl := lstN_len N
  refine wkc0 _ ?_
  refine Holds.frz [] [(8, .im 1 (ints []))] (.cons rfl (Fz.nl _) .nil) ?_
  refine Holds.loop (ι := Nat) (fun a => ⟨[(1, .own 0 1 0 n), (3, .pb 1 3 0 0), (7, .im 1 (ints (lstN N))), (8, .im 1 (ints (lstT fun t => begT N S (right.take a) t))), (15, .im 1 (ints right)), (16, .v (.int .i64 right.length)), (17, .v (.int .i64 a))], [(1, ⟨31, 3, [grammarC g]⟩), (0, ⟨25, 1, intss (rowsT n S)⟩)], 2⟩)
    (fun a => a ≤ right.length ∧ okM false N (right.take a) = true) (fun a => right.length - a) 0 ⟨Nat.zero_le _, rfl⟩ ?_ ?_
  · have h00 : lstT (fun t => begT N S (right.take 0) t) = [] := lstT_none
    rw [h00]
    exact Cov.ofn (id) rfl (by simp [go_sem, List.take_of_length_le, ren, ren1, ren2, okr, okr1, okr2, ChkT, ChkN, BlkN, nf, grammarC, frz]) (by simp [go_sem, List.take_of_length_le, ren, ren1, ren2, okr, okr1, okr2, ChkT, ChkN, BlkN, nf, grammarC, frz])
  rintro a ⟨ha, hok⟩
  have stepa : wr64 ((a : Int) + 1) = ((a + 1 : Nat) : Int) := wr64_id (by omega) (by omega)
  refine wkc0 _ ?_
  refine Holds.cond rfl (fun h => ?_) (fun h => ?_)
  · have hla : a < right.length := by simp at h; omega
    have hxa : right[a]? = some right[a] := List.getElem?_eq_getElem hla
    have hxm := List.getElem_mem hla
    generalize right[a] = x at hxa hxm
    have hx5 := h1 x hxm
    have hx4 := h0 x hxm
    have hnext := fun t => begT_next (F := S) hxa hok t
    have hstop := fun h t => begT_stop (F := S) hxa hok h t
    generalize hb : begT N S (right.take a) = b at hnext hstop ⊢
    have hbl := lstT_len b
    by_cases hx0 : x < 0
    · have hx1 : ¬ 0 ≤ x := by omega
      have e2 : (lstT fun t => begT N S right t) = putL (lstT b) (-1 - x) := by
        rw [lstT_put b (by omega)]
        refine lstT_ext fun t _ _ => ?_
        rw [hstop (by simp [hx1]) t, headT, if_pos hx0, insI]
      rw [e2]
      have cpu := l1Put (lstT b) (-1 - x) (by omega)
      have hwx : wr64 (-1 - x) = -1 - x := wr64_id (by omega) (by omega)
      refine wkc (And.intro (@get_E _ _ _ _ hxa) (And.intro @hxa (And.intro @hla (And.intro @hx0 (@hwx))))) _ ?_
      refine GS.cc (cpu) rfl rfl rfl rfl (by simp [go_sem, List.take_of_length_le] <;> with_reducible rfl) rfl (by simp [go_sem, List.take_of_length_le]) ?_
      refine wkc0 _ ?_
      refine OutF.mkn (xs := ?_) (nm [0]) ?_ ?_ ?_ ?_ ?_ (by first | exact .inr rfl | exact .inl rfl)
      rotate_left
      · simp [go_sem, List.take_of_length_le] <;> with_reducible rfl
      · simp [go_sem, List.take_of_length_le, ren, ren1, ren2, okr, okr1, okr2, ChkN, BlkN, List.range_succ, nf]
      · simp [go_sem, List.take_of_length_le, ren, ren1, ren2, okr, okr1, okr2, ChkN, BlkN, List.range_succ, nf]
      · simp [go_sem, List.take_of_length_le, ren, ren1, ren2, okr, okr1, okr2, ChkN, BlkN, List.range_succ, nf]
      · rfl
    · obtain ⟨m, rfl⟩ : ∃ m : Nat, x = (m : Int) := ⟨x.toNat, by omega⟩
      have hmn : m < n := by omega
      have hrow := rowsT_at S hmn
      have hno : okM false N (right.take (a + 1)) = N (m : Int) := by
        rw [okM_snoc false N hxa, hok]; simp
      have hrl := lstT_len fun t => S ((m : Int), t)
      have hrm := lstT_mem fun t => S ((m : Int), t)
      have hall : (lstT fun u => b u || hasN ((lstT fun t => S ((m : Int), t)).take (lstT fun t => S ((m : Int), t)).length) u) = lstT fun t => begT N S (right.take (a + 1)) t := by
        refine lstT_ext fun u hu0 hu1 => ?_
        rw [List.take_length, lstT_has _ ⟨hu0, hu1⟩, hnext u, headT, if_neg hx0]
      generalize (lstT fun t => S ((m : Int), t)) = L at hrow hrl hrm hall
      refine wkc (And.intro (@get_E _ _ _ _ hxa) (And.intro @hxa (And.intro @hla (And.intro @hx0 (And.intro @hmn (And.intro @hrow (And.intro (@get_E _ _ _ _ hrow) (@intsC.eq_1)))))))) _ ?_
      refine Holds.loop (ι := Nat) (fun j => ⟨[(1, .own 0 1 0 n), (3, .pb 1 3 0 0), (7, .im 1 (ints (lstN N))), (8, .im 1 (ints (lstT fun u => b u || hasN (L.take j) u))), (10, .v (.int .i64 m)), (15, .im 1 (ints right)), (16, .v (.int .i64 right.length)), (17, .v (.int .i64 a)), (30, .im 1 (ints L)), (31, .v (.int .i64 L.length)), (32, .v (.int .i64 j))], [(1, ⟨31, 3, [grammarC g]⟩), (0, ⟨25, 1, intss (rowsT n S)⟩)], 2⟩)
        (fun j => j ≤ L.length) (fun j => L.length - j) 0 (Nat.zero_le _) ?_ ?_
      · rw [show (fun u => b u || hasN (L.take 0) u) = b from by funext u; simp [hasN]]
        exact Cov.ofn (id) rfl (by simp [go_sem, List.take_of_length_le, ren, ren1, ren2, okr, okr1, okr2, ChkT, ChkN, BlkN, nf, grammarC]) (by simp [go_sem, List.take_of_length_le, ren, ren1, ren2, okr, okr1, okr2, ChkT, ChkN, BlkN, nf, grammarC])
      intro j hj
      have stepj : wr64 ((j : Int) + 1) = ((j + 1 : Nat) : Int) := wr64_id (by omega) (by omega)
      refine wkc0 _ ?_
      refine Holds.cond rfl (fun h => ?_) (fun h => ?_)
      · have hlj : j < L.length := by simp at h; omega
        have htj : L[j]? = some L[j] := List.getElem?_eq_getElem hlj
        have htm := ((hrm _).1 (List.getElem_mem hlj)).1
        generalize L[j] = t at htj htm
        have hst := lstT_step b htj htm
        have cpu := l1Put (lstT fun u => b u || hasN (L.take j) u) t (by have := lstT_len fun u => b u || hasN (L.take j) u; omega)
        rw [hst] at cpu
        refine wkc (And.intro (@get_E _ _ _ _ htj) (And.intro @htj (@hlj))) _ ?_
        refine GS.cc (cpu) rfl rfl rfl rfl (by simp [go_sem, List.take_of_length_le] <;> with_reducible rfl) rfl (by simp [go_sem, List.take_of_length_le]) ?_
        refine wkc0 _ ?_
        refine ⟨j + 1, by omega, by omega, ?_⟩
        rw [stepj]
        exact Cov.ofn (id) rfl (by simp [go_sem, List.take_of_length_le, ren, ren1, ren2, okr, okr1, okr2, ChkT, ChkN, BlkN, nf, grammarC]) (by simp [go_sem, List.take_of_length_le, ren, ren1, ren2, okr, okr1, okr2, ChkT, ChkN, BlkN, nf, grammarC])
      · have hje : j = L.length := by simp at h; omega
        subst hje
        rw [hall]
        have ch := l1Has (lstN N) m (by omega)
        rw [hasN_lstA N (by omega) (by omega)] at ch
        refine wkc0 _ ?_
        refine GS.cc (ch) rfl rfl rfl rfl (by simp [go_sem, List.take_of_length_le] <;> with_reducible rfl) rfl (by simp [go_sem, List.take_of_length_le]) ?_
        refine wkc0 _ ?_
        refine Holds.cond rfl (fun h => ?_) (fun h => ?_)
        · have hNm : N (m : Int) = false := by simpa using h
          have e2 : (fun t => begT N S right t) = fun t => begT N S (right.take (a + 1)) t := by
            funext t
            rw [hstop (by simp [hNm]) t, hnext t]
          rw [e2]
          refine wkc0 _ ?_
          refine OutF.mkn (xs := ?_) (nm [0]) ?_ ?_ ?_ ?_ ?_ (by first | exact .inr rfl | exact .inl rfl)
          rotate_left
          · simp [go_sem, List.take_of_length_le] <;> with_reducible rfl
          · simp [go_sem, List.take_of_length_le, ren, ren1, ren2, okr, okr1, okr2, ChkN, BlkN, List.range_succ, nf]
          · simp [go_sem, List.take_of_length_le, ren, ren1, ren2, okr, okr1, okr2, ChkN, BlkN, List.range_succ, nf]
          · simp [go_sem, List.take_of_length_le, ren, ren1, ren2, okr, okr1, okr2, ChkN, BlkN, List.range_succ, nf]
          · rfl
        · have hNm : N (m : Int) = true := by simpa using h
          rw [hNm] at hno
          refine wkc0 _ ?_
          refine ⟨a + 1, ⟨by omega, hno⟩, by omega, ?_⟩
          rw [stepa]
          exact Cov.ofn (id) rfl (by simp [go_sem, List.take_of_length_le, ren, ren1, ren2, okr, okr1, okr2, ChkT, ChkN, BlkN, nf, grammarC]) (by simp [go_sem, List.take_of_length_le, ren, ren1, ren2, okr, okr1, okr2, ChkT, ChkN, BlkN, nf, grammarC])
  · have hae : a = right.length := by simp at h; omega
    subst hae
    rw [List.take_length]
    refine wkc0 _ ?_
    refine OutF.mkn (xs := ?_) (nm [0]) ?_ ?_ ?_ ?_ ?_ (by first | exact .inr rfl | exact .inl rfl)
    rotate_left
    · simp [go_sem, List.take_of_length_le] <;> with_reducible rfl
    · simp [go_sem, List.take_of_length_le, ren, ren1, ren2, okr, okr1, okr2, ChkN, BlkN, List.range_succ, nf]
    · simp [go_sem, List.take_of_length_le, ren, ren1, ren2, okr, okr1, okr2, ChkN, BlkN, List.range_succ, nf]
    · simp [go_sem, List.take_of_length_le, ren, ren1, ren2, okr, okr1, okr2, ChkN, BlkN, List.range_succ, nf]
    · rfl
theorem l14Null (g : GrammarT) (hG : OkG g) (right : List Int) (hl : right.length ≤ 4) (h1 : ∀ x ∈ right, x < g.1) : Pure Tryz.prog 69 [.ag (grammarC g), .im 1 (ints right)] (.v (.bool (nullS g right))) := by
  have cn := l3Close g hG false
  have hn1 := hG.n1
  unfold nullS
  refine Pure.mk (rs := [.tmp 4]) (nt := 25) Tryz.func69 (by kernel_rfl) rfl rfl rfl (by simp) ?_
  simp only [sl, grammarC]
  refine wkc (@grammarC.eq_1) _ ?_
  refine GS.cc (cn) rfl rfl rfl rfl (by simp [go_sem, List.take_of_length_le, grammarC] <;> with_reducible rfl) rfl (by simp [go_sem, List.take_of_length_le, grammarC]) ?_
  generalize hN : madeS g false = N
  have hNl := lstN_len N
  refine wkc0 _ ?_
  refine Holds.loop (ι := Nat) (fun a => ⟨[(5, .im 1 (ints (lstN N))), (10, .im 1 (ints right)), (11, .v (.int .i64 right.length)), (12, .v (.int .i64 a))], [(0, ⟨31, 3, [grammarC g]⟩)], 1⟩)
    (fun a => a ≤ right.length ∧ okM false N (right.take a) = true) (fun a => right.length - a) 0 ⟨Nat.zero_le _, rfl⟩ ?_ ?_
  · exact Cov.ofn (id) rfl (by simp [go_sem, List.take_of_length_le, ren, ren1, ren2, okr, okr1, okr2, ChkT, ChkN, BlkN, nf, grammarC]) (by simp [go_sem, List.take_of_length_le, ren, ren1, ren2, okr, okr1, okr2, ChkT, ChkN, BlkN, nf, grammarC])
  rintro a ⟨ha, hok⟩
  have stepa : wr64 ((a : Int) + 1) = ((a + 1 : Nat) : Int) := wr64_id (by omega) (by omega)
  refine wkc0 _ ?_
  refine Holds.cond rfl (fun h => ?_) (fun h => ?_)
  · have hla : a < right.length := by simp at h; omega
    have hxa : right[a]? = some right[a] := List.getElem?_eq_getElem hla
    have hxm := List.getElem_mem hla
    generalize right[a] = x at hxa hxm
    have hx5 := h1 x hxm
    have hstop := fun h => okM_stop (nu := N) hxa h
    by_cases hx0 : x < 0
    · have hx1 : ¬ 0 ≤ x := by omega
      rw [hstop (by simp [hx1])]
      refine wkc (And.intro (@get_E _ _ _ _ hxa) (And.intro @hxa (And.intro @hla (@hx0)))) _ ?_
      refine Out.mk (xs := ?_) ?_ ?_ (by first | exact .inr rfl | exact .inl rfl)
      rotate_left
      · simp [go_sem, List.take_of_length_le] <;> with_reducible rfl
      exact .v _
    · have hno : okM false N (right.take (a + 1)) = N x := by
        have hx1 : 0 ≤ x := by omega
        rw [okM_snoc false N hxa, hok]; simp [hx1]
      have ch := l1Has (lstN N) x (by omega)
      rw [hasN_lstA N (by omega) (by omega)] at ch
      refine wkc (And.intro (@get_E _ _ _ _ hxa) (And.intro @hxa (And.intro @hla (@hx0)))) _ ?_
      refine GS.cc (ch) rfl rfl rfl rfl (by simp [go_sem, List.take_of_length_le] <;> with_reducible rfl) rfl (by simp [go_sem, List.take_of_length_le]) ?_
      refine wkc0 _ ?_
      refine Holds.cond rfl (fun h => ?_) (fun h => ?_)
      · have hNm : N x = false := by simpa using h
        rw [hstop (by simp [hNm])]
        refine wkc0 _ ?_
        refine Out.mk (xs := ?_) ?_ ?_ (by first | exact .inr rfl | exact .inl rfl)
        rotate_left
        · simp [go_sem, List.take_of_length_le] <;> with_reducible rfl
        exact .v _
      · have hNm : N x = true := by simpa using h
        rw [hNm] at hno
        refine wkc0 _ ?_
        refine ⟨a + 1, ⟨by omega, hno⟩, by omega, ?_⟩
        rw [stepa]
        exact Cov.ofn (id) rfl (by simp [go_sem, List.take_of_length_le, ren, ren1, ren2, okr, okr1, okr2, ChkT, ChkN, BlkN, nf, grammarC]) (by simp [go_sem, List.take_of_length_le, ren, ren1, ren2, okr, okr1, okr2, ChkT, ChkN, BlkN, nf, grammarC])
  · have hae : a = right.length := by simp at h; omega
    subst hae
    rw [List.take_length] at hok
    rw [hok]
    refine wkc0 _ ?_
    refine Out.mk (xs := ?_) ?_ ?_ (by first | exact .inr rfl | exact .inl rfl)
    rotate_left
    · simp [go_sem, List.take_of_length_le] <;> with_reducible rfl
    exact .v _
end Go.Proofs.YtkolhcoeifghpaaGreat.En
end
section
namespace Go.Proofs.YtkolhcoeifghpaaGreat.En
open Go.RowKit
set_option linter.unusedSimpArgs false
set_option linter.unusedVariables false
set_option maxHeartbeats 4000000
theorem intss_set (l : List (List Int)) (k : Nat) (r : List Int) : (intss l).set k [.im 1 (ints r)] = intss (l.set k r) := by simp [intss, intsC]
theorem l14Firsts (g : GrammarT) (hG : OkG g) (n : Nat) (hn : (n : Int) = g.1) : Fn Tryz.prog 108 0 [.ag (grammarC g)] [] (.own 0 1 0 n) 1 [(0, ⟨25, 1, intss (rowsT n (firstS g))⟩)] := by
  have cm := l3Close g hG true
  have hlen := hG.len
  have hn1 := hG.n1
  have hn0 := hG.n0
  have hml := lstN_len (madeS g true)
  refine Fn.mk (rs := [.tmp 2]) (nt := 79) Tryz.func108 (by kernel_rfl) rfl rfl rfl (by simp) ?_
  simp only [sl, grammarC]
  refine wkdc (@grammarC.eq_1) _ ?_
  first | refine GS.cc (cm) rfl rfl rfl rfl (by simp [go_sem, List.take_of_length_le, grammarC] <;> with_reducible rfl) rfl (by simp [go_sem, List.take_of_length_le, grammarC]) ?_ | refine Gd.cc (cm) rfl rfl rfl rfl (by simp [go_sem, List.take_of_length_le, grammarC] <;> with_reducible rfl) rfl (by simp [go_sem, List.take_of_length_le, grammarC]) ?_
  have hgn : g.1 = (n : Int) := hn.symm
  refine wkdc (And.intro @grammarC.eq_1 (And.intro @hgn (And.intro ((show (0:Int) ≤ (n : Int) by omega)) (And.intro ((show (24:Int) * n ≤ 281474976710656 by omega)) ((show (n : Int) ≤ 281474976710656 by omega)))))) _ ?_
  refine Holds.nilI 1 n 1 rfl rfl ?_
  have hO0 : List.replicate n ([.im 1 []] : List AV) = intss (rowsT n (fun _ => false)) := by rw [rowsT_none]; simp [intss, intsC, ints]
  refine Holds.loop (ι := (Int × Int → Bool) × Bool) (fun i => ⟨[(1, .pb 0 3 0 0), (3, .im 1 (ints (lstN (madeS g true)))), (4, .own 1 1 0 n), (5, .v (.bool i.2))], [(1, ⟨25, 1, intss (rowsT n i.1)⟩), (0, ⟨31, 3, [grammarC g]⟩)], 2⟩)
    (fun i => LowI (impsB g g.2.2) i.1 ∧ (i.2 = false → i.1 = firstS g)) (fun i => 2 * (24 - (univP.filter i.1).length) + if i.2 then 1 else 0) (fun _ => false, true) ⟨fun T hT x hx => absurd hx (by simp), fun e => (by cases e)⟩ ?_ ?_
  · rw [← hO0]
    have hnf0 : nfr (List.replicate n ([.im 1 []] : List AV)) := .rep (by simp [nf])
    exact Cov.ofn (id) rfl (by simp [go_sem, List.take_of_length_le, ren, ren1, ren2, okr, okr1, okr2, ChkT, ChkN, BlkN, nf, grammarC, hgn, st, hnf0]) (by simp [go_sem, List.take_of_length_le, ren, ren1, ren2, okr, okr1, okr2, ChkT, ChkN, BlkN, nf, grammarC, hgn, st, hnf0])
  rintro ⟨S0, more0⟩ ⟨hlow0, hfin⟩
  dsimp only at hlow0 hfin ⊢
  refine wkdc0 _ ?_
  refine Holds.cond rfl (fun h => ?_) (fun h => ?_)
  · subst h
    have hc0 := card_leP S0
    refine wkdc (@grammarC.eq_1) _ ?_
    refine Holds.loop (ι := Nat × (Int × Int → Bool) × Bool) (fun i => ⟨[(1, .pb 0 3 0 0), (3, .im 1 (ints (lstN (madeS g true)))), (4, .own 1 1 0 n), (5, .v (.bool i.2.2)), (20, .im 2 (rules g.2.2)), (21, .v (.int .i64 g.2.2.length)), (22, .v (.int .i64 i.1))], [(1, ⟨25, 1, intss (rowsT n i.2.1)⟩), (0, ⟨31, 3, [grammarC g]⟩)], 2⟩)
      (fun i => i.1 ≤ g.2.2.length ∧ ClI (impsB g g.2.2) univP S0 i.2.1 i.2.2 (impsB g (g.2.2.take i.1))) (fun i => g.2.2.length - i.1) (0, S0, false) ⟨Nat.zero_le _, ClI.start _ hlow0⟩ ?_ ?_
    · exact Cov.ofn (id) rfl (by simp [go_sem, List.take_of_length_le, ren, ren1, ren2, okr, okr1, okr2, ChkT, ChkN, BlkN, nf, grammarC]) (by simp [go_sem, List.take_of_length_le, ren, ren1, ren2, okr, okr1, okr2, ChkT, ChkN, BlkN, nf, grammarC])
    rintro ⟨k, S, more⟩ ⟨hk, hC⟩
    dsimp only at hk hC ⊢
    have stepk : wr64 ((k : Int) + 1) = ((k + 1 : Nat) : Int) := wr64_id (by omega) (by omega)
    refine wkdc0 _ ?_
    refine Holds.cond rfl (fun h => ?_) (fun h => ?_)
    · have hlt : k < g.2.2.length := by simp at h; omega
      have hrk : g.2.2[k]? = some g.2.2[k] := List.getElem?_eq_getElem hlt
      have hmem := List.getElem_mem hlt
      generalize g.2.2[k] = r at hrk hmem
      have hr0 := hG.l0 r hmem
      have hr1 := hG.l1 r hmem
      have hr4 := hG.r4 r hmem
      have hs0 := hG.s0 r hmem
      have hs1 := hG.s1 r hmem
      have ht1 := hG.t1
      obtain ⟨m, hm⟩ : ∃ m : Nat, r.1 = (m : Int) := ⟨r.1.toNat, by omega⟩
      have hmn : m < n := by omega
      refine wkdc (And.intro (@get_E _ _ _ _ hrk) (And.intro @hrk (And.intro @hlt (@ruleC.eq_1)))) _ ?_
      refine Holds.loop (ι := Nat) (fun a => ⟨[(1, .pb 0 3 0 0), (3, .im 1 (ints (lstN (madeS g true)))), (4, .own 1 1 0 n), (5, .v (.bool more)), (7, .pb 2 2 0 0), (8, .v (.bool (okM true (madeS g true) (r.2.take a)))), (20, .im 2 (rules g.2.2)), (21, .v (.int .i64 g.2.2.length)), (22, .v (.int .i64 k)), (27, .im 1 (ints r.2)), (28, .v (.int .i64 r.2.length)), (29, .v (.int .i64 a))], [(2, ⟨66, 2, [ruleC r]⟩), (1, ⟨25, 1, intss (rowsT n S)⟩), (0, ⟨31, 3, [grammarC g]⟩)], 3⟩)
        (fun a => a ≤ r.2.length) (fun a => r.2.length - a) 0 (Nat.zero_le _) ?_ ?_
      · exact Cov.ofn (id) rfl (by simp [go_sem, List.take_of_length_le, ren, ren1, ren2, okr, okr1, okr2, ChkT, ChkN, BlkN, nf, grammarC, ruleC, okM]) (by simp [go_sem, List.take_of_length_le, ren, ren1, ren2, okr, okr1, okr2, ChkT, ChkN, BlkN, nf, grammarC, ruleC, okM])
      intro a ha
      have stepa : wr64 ((a : Int) + 1) = ((a + 1 : Nat) : Int) := wr64_id (by omega) (by omega)
      refine wkdc0 _ ?_
      refine Holds.cond rfl (fun h => ?_) (fun h => ?_)
      · have hla : a < r.2.length := by simp at h; omega
        have hxa : r.2[a]? = some r.2[a] := List.getElem?_eq_getElem hla
        have hxm := List.getElem_mem hla
        generalize r.2[a] = x at hxa hxm
        have hx5 := hs1 x hxm
        have hsn := okM_snoc true (madeS g true) hxa
        cases hb : okM true (madeS g true) (r.2.take a) with
        | false =>
          rw [hb, Bool.false_and] at hsn
          refine wkdc (And.intro (@get_E _ _ _ _ hxa) (And.intro @hxa (@hla))) _ ?_
          refine ⟨a + 1, by omega, by omega, ?_⟩
          dsimp only
          rw [stepa, hsn]
          exact Cov.ofn (id) rfl (by simp [go_sem, List.take_of_length_le, ren, ren1, ren2, okr, okr1, okr2, ChkT, ChkN, BlkN, nf, grammarC, ruleC]) (by simp [go_sem, List.take_of_length_le, ren, ren1, ren2, okr, okr1, okr2, ChkT, ChkN, BlkN, nf, grammarC, ruleC])
        | true =>
          rw [hb, Bool.true_and] at hsn
          by_cases hx0 : x < 0
          · have hsn' : okM true (madeS g true) (r.2.take (a + 1)) = true := by rw [hsn]; simp [hx0]
            refine wkdc (And.intro (@get_E _ _ _ _ hxa) (And.intro @hxa (And.intro @hla (@hx0)))) _ ?_
            refine ⟨a + 1, by omega, by omega, ?_⟩
            dsimp only
            rw [stepa, hsn']
            exact Cov.ofn (id) rfl (by simp [go_sem, List.take_of_length_le, ren, ren1, ren2, okr, okr1, okr2, ChkT, ChkN, BlkN, nf, grammarC, ruleC]) (by simp [go_sem, List.take_of_length_le, ren, ren1, ren2, okr, okr1, okr2, ChkT, ChkN, BlkN, nf, grammarC, ruleC])
          · have hx1 : 0 ≤ x := by omega
            have ch := l1Has (lstN (madeS g true)) x (by omega)
            rw [hasN_lstA _ (by omega) (by omega)] at ch
            have hsn' : okM true (madeS g true) (r.2.take (a + 1)) = madeS g true x := by rw [hsn]; simp [hx0, hx1]
            refine wkdc (And.intro (@get_E _ _ _ _ hxa) (And.intro @hxa (And.intro @hla (@hx0)))) _ ?_
            first | refine GS.cc (ch) rfl rfl rfl rfl (by simp [go_sem, List.take_of_length_le] <;> with_reducible rfl) rfl (by simp [go_sem, List.take_of_length_le]) ?_ | refine Gd.cc (ch) rfl rfl rfl rfl (by simp [go_sem, List.take_of_length_le] <;> with_reducible rfl) rfl (by simp [go_sem, List.take_of_length_le]) ?_
            refine wkdc0 _ ?_
            refine ⟨a + 1, by omega, by omega, ?_⟩
            dsimp only
            rw [stepa, hsn']
            exact Cov.ofn (id) rfl (by simp [go_sem, List.take_of_length_le, ren, ren1, ren2, okr, okr1, okr2, ChkT, ChkN, BlkN, nf, grammarC, ruleC]) (by simp [go_sem, List.take_of_length_le, ren, ren1, ren2, okr, okr1, okr2, ChkT, ChkN, BlkN, nf, grammarC, ruleC])
      · have hae : a = r.2.length := by simp at h; omega
        subst hae
        rw [List.take_length]
        obtain ⟨ok, hok⟩ : ∃ ok, ok = okM true (madeS g true) r.2 := ⟨_, rfl⟩
        rw [← hok]
        have cf := l14First g hG S n hn r.2 hr4 hs1 (fun x hx => by have := hs0 x hx; omega)
        have hLl := lstT_len fun t => begT (madeS g false) S r.2 t
        have hLm := lstT_mem fun t => begT (madeS g false) S r.2 t
        generalize (lstT fun t => begT (madeS g false) S r.2 t) = L at cf hLl hLm
        refine wkdc (And.intro @ruleC.eq_1 (@grammarC.eq_1)) _ ?_
        refine GS.fnn [1] (cf) rfl rfl rfl rfl (by simp [go_sem, List.take_of_length_le, ren, ren1, ren2, okr, okr1, okr2, ChkN, BlkN, List.range_succ, nf, grammarC] <;> with_reducible rfl) (by simp [go_sem, List.take_of_length_le, ren, ren1, ren2, okr, okr1, okr2, ChkN, BlkN, List.range_succ, nf, grammarC]) (by simp [go_sem, List.take_of_length_le, ren, ren1, ren2, okr, okr1, okr2, ChkN, BlkN, List.range_succ, nf, grammarC]) (by simp [List.range_succ, lb]) (ChkN.toB (by simp [go_sem, List.take_of_length_le, ren, ren1, ren2, okr, okr1, okr2, ChkN, BlkN, List.range_succ, nf, grammarC])) (by decide) (by simp) rfl (.nfr (by simp) .nil) (by simp [go_sem, List.take_of_length_le, ren, ren1, ren2, okr, okr1, okr2, ChkN, BlkN, List.range_succ, nf, grammarC] <;> with_reducible rfl) ?_
        refine wkdc0 _ ?_
        refine Holds.loop (ι := Nat × (Int × Int → Bool) × Bool) (fun i => ⟨[(1, .pb 0 3 0 0), (3, .im 1 (ints (lstN (madeS g true)))), (4, .own 1 1 0 n), (5, .v (.bool i.2.2)), (7, .pb 2 2 0 0), (8, .v (.bool ok)), (20, .im 2 (rules g.2.2)), (21, .v (.int .i64 g.2.2.length)), (22, .v (.int .i64 k)), (48, .im 1 (ints L)), (49, .v (.int .i64 L.length)), (50, .v (.int .i64 i.1))], [(1, ⟨25, 1, intss (rowsT n i.2.1)⟩), (2, ⟨66, 2, [ruleC r]⟩), (0, ⟨31, 3, [grammarC g]⟩)], 3⟩)
          (fun i => i.1 ≤ L.length ∧ ClI (impsB g g.2.2) univP S0 i.2.1 i.2.2 (impsB g (g.2.2.take k)) ∧ (∀ p, S p = true → i.2.1 p = true) ∧ ∀ t ∈ L.take i.1, ok = true → i.2.1 (r.1, t) = true) (fun i => L.length - i.1) (0, S, more) ⟨Nat.zero_le _, hC, fun _ h => h, fun t ht => by simp at ht⟩ ?_ ?_
        · exact Cov.ofn (id) rfl (by simp [go_sem, List.take_of_length_le, ren, ren1, ren2, okr, okr1, okr2, ChkT, ChkN, BlkN, nf, grammarC, ruleC]) (by simp [go_sem, List.take_of_length_le, ren, ren1, ren2, okr, okr1, okr2, ChkT, ChkN, BlkN, nf, grammarC, ruleC])
        have hle0 := hC.le
        clear hC
        rintro ⟨j, S2, more⟩ ⟨hj, hC, hle, hset⟩
        dsimp only at hj hC hle hset ⊢
        have stepj : wr64 ((j : Int) + 1) = ((j + 1 : Nat) : Int) := wr64_id (by omega) (by omega)
        refine wkdc0 _ ?_
        refine Holds.cond rfl (fun h => ?_) (fun h => ?_)
        · have hlj : j < L.length := by simp at h; omega
          have htj : L[j]? = some L[j] := List.getElem?_eq_getElem hlj
          have htm := (hLm _).1 (List.getElem_mem hlj)
          generalize L[j] = t at htj htm
          have hsnt : ∀ S3 : Int × Int → Bool, (∀ p, S2 p = true → S3 p = true) → (ok = true → S3 (r.1, t) = true) → ∀ u ∈ L.take (j + 1), ok = true → S3 (r.1, u) = true := fun S3 h2 h3 u hu ho => by
            rw [List.take_add_one, htj] at hu
            rcases List.mem_append.1 hu with hu | hu
            · exact h2 _ (hset u hu ho)
            · rw [Option.toList_some, List.mem_singleton] at hu
              subst hu; exact h3 ho
          have hrow := rowsT_at S2 hmn
          have hput := rowsT_put S2 hmn htm.1
          have hrl := lstT_len fun u => S2 ((m : Int), u)
          have ch := l1Has (lstT fun u => S2 ((m : Int), u)) t (by omega)
          rw [lstT_has _ htm.1] at ch
          have cpu := l1Put (lstT fun u => S2 ((m : Int), u)) t (by omega)
          have hput' : (intss (rowsT n S2)).set m [.im 1 (ints (putL (lstT fun u => S2 ((m : Int), u)) t))] = intss (rowsT n (insI S2 ((m : Int), t))) := by rw [intss_set, hput]
          have hadd := fun (h1 : ok = true) (h2 : S2 ((m : Int), t) = false) => hC.add (impB_mem (g := g) hmem htm.1) (impB_mono g r t) (by
              refine impB_mono g r t S S2 hle ?_
              show (okM true (madeS g true) r.2 && begT (madeS g false) S r.2 t) = true
              rw [← hok, h1, htm.2]; rfl) (by rw [← hm] at h2; exact h2) (mem_univP.2 ⟨⟨hr0, by show r.1 ≤ 5; omega⟩, htm.1⟩) (impsB g (g.2.2.take k))
          have hc2 : (impB g r t).2 = ((m : Int), t) := by rw [← hm]; rfl
          rw [hc2] at hadd
          generalize (lstT fun u => S2 ((m : Int), u)) = R at hrow ch cpu hput'
          cases ok with
          | false =>
            refine wkdc (And.intro (@get_E _ _ _ _ htj) (And.intro @htj (@hlj))) _ ?_
            refine ⟨(j + 1, S2, more), ⟨by dsimp only; omega, hC, hle, hsnt S2 (fun _ h => h) fun e => by cases e⟩, by dsimp only; omega, ?_⟩
            rw [stepj]
            exact Cov.ofn (id) rfl (by simp [go_sem, List.take_of_length_le, ren, ren1, ren2, okr, okr1, okr2, ChkT, ChkN, BlkN, nf, grammarC, ruleC]) (by simp [go_sem, List.take_of_length_le, ren, ren1, ren2, okr, okr1, okr2, ChkT, ChkN, BlkN, nf, grammarC, ruleC])
          | true =>
            cases hS2 : S2 ((m : Int), t) with
            | true =>
              rw [hS2] at ch
              refine wkdc (And.intro (@get_E _ _ _ _ htj) (And.intro @htj (And.intro @hlj (And.intro @ruleC.eq_1 (And.intro @hm (And.intro @hmn (And.intro @hrow (And.intro (@get_E _ _ _ _ hrow) (@intsC.eq_1))))))))) _ ?_
              first | refine GS.cc (ch) rfl rfl rfl rfl (by simp [go_sem, List.take_of_length_le] <;> with_reducible rfl) rfl (by simp [go_sem, List.take_of_length_le]) ?_ | refine Gd.cc (ch) rfl rfl rfl rfl (by simp [go_sem, List.take_of_length_le] <;> with_reducible rfl) rfl (by simp [go_sem, List.take_of_length_le]) ?_
              refine wkdc0 _ ?_
              refine ⟨(j + 1, S2, more), ⟨by dsimp only; omega, hC, hle, hsnt S2 (fun _ h => h) fun _ => by rw [hm]; exact hS2⟩, by dsimp only; omega, ?_⟩
              rw [stepj]
              exact Cov.ofn (id) rfl (by simp [go_sem, List.take_of_length_le, ren, ren1, ren2, okr, okr1, okr2, ChkT, ChkN, BlkN, nf, grammarC, ruleC, hm]) (by simp [go_sem, List.take_of_length_le, ren, ren1, ren2, okr, okr1, okr2, ChkT, ChkN, BlkN, nf, grammarC, ruleC, hm])
            | false =>
              rw [hS2] at ch
              refine wkdc (And.intro (@get_E _ _ _ _ htj) (And.intro @htj (And.intro @hlj (And.intro @ruleC.eq_1 (And.intro @hm (And.intro @hmn (And.intro @hrow (And.intro (@get_E _ _ _ _ hrow) (@intsC.eq_1))))))))) _ ?_
              first | refine GS.cc (ch) rfl rfl rfl rfl (by simp [go_sem, List.take_of_length_le] <;> with_reducible rfl) rfl (by simp [go_sem, List.take_of_length_le]) ?_ | refine Gd.cc (ch) rfl rfl rfl rfl (by simp [go_sem, List.take_of_length_le] <;> with_reducible rfl) rfl (by simp [go_sem, List.take_of_length_le]) ?_
              refine wkdsc (@ruleC.eq_1) _ ?_
              refine Holds.anx [1011] [] (fun n => decide (n = 1)) mixed ?_ ?_ ?_; (· kernel_rfl); (· kernel_rfl)
              refine wkdac (And.intro @hm (And.intro @hmn (And.intro @hrow (And.intro (@get_E _ _ _ _ hrow) (@intsC.eq_1))))) _ ?_
              first | refine GS.cc (cpu) rfl rfl rfl rfl (by simp [go_sem, List.take_of_length_le] <;> with_reducible rfl) rfl (by simp [go_sem, List.take_of_length_le]) ?_ | refine Gd.cc (cpu) rfl rfl rfl rfl (by simp [go_sem, List.take_of_length_le] <;> with_reducible rfl) rfl (by simp [go_sem, List.take_of_length_le]) ?_ | refine Gx.cc (cpu) rfl rfl rfl rfl rfl (by simp [go_sem, List.take_of_length_le] <;> with_reducible rfl) rfl (by simp [go_sem, List.take_of_length_le]) ?_ | refine Gx.cch (cpu) rfl rfl rfl rfl rfl (by simp [go_sem, List.take_of_length_le] <;> with_reducible rfl) rfl (by simp [go_sem, List.take_of_length_le]) ?_
              refine wkdac (And.intro @hmn (And.intro @hrow (And.intro (@get_E _ _ _ _ hrow) (And.intro @intsC.eq_1 (@hput'))))) _ ?_
              refine ⟨(j + 1, insI S2 ((m : Int), t), true), ⟨by dsimp only; omega, hadd rfl hS2, fun p hp => insI_le _ _ _ (hle p hp), hsnt _ (fun p hp => insI_le _ _ _ hp) fun _ => by rw [hm]; exact insI_self _ _⟩, by dsimp only; omega, ?_⟩
              rw [stepj]
              exact Cov.ofn (id) rfl (by simp [go_sem, List.take_of_length_le, ren, ren1, ren2, okr, okr1, okr2, ChkT, ChkN, BlkN, nf, grammarC, ruleC, hm]) (by simp [go_sem, List.take_of_length_le, ren, ren1, ren2, okr, okr1, okr2, ChkT, ChkN, BlkN, nf, grammarC, ruleC, hm])
        · have hje : j = L.length := by simp at h; omega
          subst hje
          rw [List.take_length] at hset
          refine wkdac0 _ ?_
          refine ⟨(k + 1, S2, more), ⟨by dsimp only; omega, ?_⟩, by dsimp only; omega, ?_⟩
          · dsimp only
            rw [impsB_snoc g hrk]
            refine hC.ext _ fun e1 e2 p hp h1 => ?_
            obtain ⟨t, ht, rfl⟩ := List.mem_map.1 hp
            have ht := mem_univT.1 ht
            have hFF : S2 = S := by
              funext q
              rw [Bool.eq_iff_iff]
              exact ⟨fun h => hle0 q (by rw [← e2]; exact h), hle q⟩
            have h1 : (okM true (madeS g true) r.2 && begT (madeS g false) S2 r.2 t) = true := h1
            rw [hFF, Bool.and_eq_true] at h1
            exact hset t ((hLm t).2 ⟨ht, h1.2⟩) (by rw [hok]; exact h1.1)
          rw [stepk]
          exact Cov.ofn (id) rfl (by simp [go_sem, List.take_of_length_le, ren, ren1, ren2, okr, okr1, okr2, ChkT, ChkN, BlkN, nf, grammarC]) (by simp [go_sem, List.take_of_length_le, ren, ren1, ren2, okr, okr1, okr2, ChkT, ChkN, BlkN, nf, grammarC])
    · have hke : k = g.2.2.length := by simp at h; omega
      subst hke
      rw [List.take_length] at hC
      refine wkdac0 _ ?_
      refine ⟨(S, more), ⟨hC.low, fun e => ?_⟩, ?_, ?_⟩
      · dsimp only at e ⊢
        subst e
        exact hC.done
      · dsimp only
        have hc := card_leP S
        cases more with
        | true => have := hC.yes rfl; simp only [if_true]; omega
        | false => rw [(hC.no rfl).1]; simp
      exact Cov.ofn (id) rfl (by simp [go_sem, List.take_of_length_le, ren, ren1, ren2, okr, okr1, okr2, ChkT, ChkN, BlkN, nf, grammarC]) (by simp [go_sem, List.take_of_length_le, ren, ren1, ren2, okr, okr1, okr2, ChkT, ChkN, BlkN, nf, grammarC])
  · have h : more0 = false := by simpa using h
    have := hfin h
    subst this
    refine wkdac0 _ ?_
    refine OutF.mkn (xs := ?_) (nm [1]) ?_ ?_ ?_ ?_ ?_ (by first | exact .inr rfl | exact .inl rfl)
    rotate_left
    · simp [go_sem, List.take_of_length_le] <;> with_reducible rfl
    · simp [go_sem, List.take_of_length_le, ren, ren1, ren2, okr, okr1, okr2, ChkN, BlkN, List.range_succ, nf]
    · simp [go_sem, List.take_of_length_le, ren, ren1, ren2, okr, okr1, okr2, ChkN, BlkN, List.range_succ, nf]
    · simp [go_sem, List.take_of_length_le, ren, ren1, ren2, okr, okr1, okr2, ChkN, BlkN, List.range_succ, nf]
    · rfl
theorem l14Begins (g : GrammarT) (hG : OkG g) (right : List Int) (hl : right.length ≤ 4) (h1 : ∀ x ∈ right, x < g.1) (h0 : ∀ x ∈ right, -4 ≤ x) : Pure Tryz.prog 68 [.ag (grammarC g), .im 1 (ints right)] (.im 1 (ints (lstT (begS g right)))) := by
  have cm := l3Close g hG true
  have hn1 := hG.n1
  have hn0 := hG.n0
  obtain ⟨n, hn⟩ : ∃ n : Nat, (n : Int) = g.1 := ⟨g.1.toNat, by omega⟩
  have c1 := l14Firsts g hG n hn
  have c2 := l14First g hG (firstS g) n hn right hl h1 h0
  refine Pure.mk (rs := [.tmp 4]) (nt := 30) Tryz.func68 (by kernel_rfl) rfl rfl rfl (by simp) ?_
  simp only [sl, grammarC]
  refine wkdc (@grammarC.eq_1) _ ?_
  first | refine GS.cc (cm) rfl rfl rfl rfl (by simp [go_sem, List.take_of_length_le, grammarC] <;> with_reducible rfl) rfl (by simp [go_sem, List.take_of_length_le, grammarC]) ?_ | refine Gd.cc (cm) rfl rfl rfl rfl (by simp [go_sem, List.take_of_length_le, grammarC] <;> with_reducible rfl) rfl (by simp [go_sem, List.take_of_length_le, grammarC]) ?_
  have hml := lstN_len (madeS g true)
  obtain ⟨M, hM⟩ : ∃ M, M = madeS g true := ⟨_, rfl⟩
  rw [← hM] at hml ⊢
  refine wkdsc0 _ ?_
  refine Holds.loop (ι := Nat) (fun a => ⟨[(1, .im 1 (ints right)), (2, .pb 0 3 0 0), (5, .im 1 (ints (lstN M))), (10, .im 1 (ints right)), (11, .v (.int .i64 right.length)), (12, .v (.int .i64 a))], [(0, ⟨31, 3, [grammarC g]⟩)], 1⟩)
    (fun a => a ≤ right.length ∧ okM true M (right.take a) = true) (fun a => right.length - a) 0 ⟨Nat.zero_le _, rfl⟩ ?_ ?_
  · exact Cov.ofn (id) rfl (by simp [go_sem, List.take_of_length_le, ren, ren1, ren2, okr, okr1, okr2, ChkT, ChkN, BlkN, nf, grammarC]) (by simp [go_sem, List.take_of_length_le, ren, ren1, ren2, okr, okr1, okr2, ChkT, ChkN, BlkN, nf, grammarC])
  rintro a ⟨ha, hok⟩
  have stepa : wr64 ((a : Int) + 1) = ((a + 1 : Nat) : Int) := wr64_id (by omega) (by omega)
  refine wkdc0 _ ?_
  refine Holds.cond rfl (fun h => ?_) (fun h => ?_)
  · have hla : a < right.length := by simp at h; omega
    have hxa : right[a]? = some right[a] := List.getElem?_eq_getElem hla
    have hxm := List.getElem_mem hla
    generalize right[a] = x at hxa hxm
    have hx5 := h1 x hxm
    have hsn := okM_snoc true M hxa
    rw [hok, Bool.true_and] at hsn
    by_cases hx0 : 0 ≤ x
    · have ch := l1Has (lstN M) x (by omega)
      rw [hasN_lstA _ (by omega) (by omega)] at ch
      have hx1 : ¬ x < 0 := by omega
      refine wkdc (And.intro (@get_E _ _ _ _ hxa) (And.intro @hxa (And.intro @hla (@hx0)))) _ ?_
      first | refine GS.cc (ch) rfl rfl rfl rfl (by simp [go_sem, List.take_of_length_le] <;> with_reducible rfl) rfl (by simp [go_sem, List.take_of_length_le]) ?_ | refine Gd.cc (ch) rfl rfl rfl rfl (by simp [go_sem, List.take_of_length_le] <;> with_reducible rfl) rfl (by simp [go_sem, List.take_of_length_le]) ?_
      refine wkdc0 _ ?_
      refine Holds.cond rfl (fun h => ?_) (fun h => ?_)
      · have hMx : M x = false := by simpa using h
        have hn : okM true (madeS g true) right = false := by
          rw [← hM]
          cases e : okM true M right with
          | false => rfl
          | true =>
            simp only [okM, List.all_eq_true] at e
            have := e x hxm
            simp [hMx, hx1] at this
        have e0 : lstT (begS g right) = [] := by
          rw [← lstT_none]
          refine lstT_ext fun t _ _ => ?_
          rw [begS, hn, Bool.false_and]
        rw [e0]
        refine wkdc0 _ ?_
        refine Out.mk (xs := ?_) ?_ ?_ (by first | exact .inr rfl | exact .inl rfl)
        rotate_left
        · simp [go_sem, List.take_of_length_le] <;> with_reducible rfl
        exact Fz.nl _
      · have hMx : M x = true := by simpa using h
        have hsn' : okM true M (right.take (a + 1)) = true := by rw [hsn]; simp [hMx, hx0]
        refine wkdc0 _ ?_
        refine ⟨a + 1, ⟨by omega, hsn'⟩, by omega, ?_⟩
        rw [stepa]
        exact Cov.ofn (id) rfl (by simp [go_sem, List.take_of_length_le, ren, ren1, ren2, okr, okr1, okr2, ChkT, ChkN, BlkN, nf, grammarC]) (by simp [go_sem, List.take_of_length_le, ren, ren1, ren2, okr, okr1, okr2, ChkT, ChkN, BlkN, nf, grammarC])
    · have hx1 : x < 0 := by omega
      have hsn' : okM true M (right.take (a + 1)) = true := by rw [hsn]; simp [hx1]
      refine wkdc (And.intro (@get_E _ _ _ _ hxa) (And.intro @hxa (And.intro @hla (@hx0)))) _ ?_
      refine ⟨a + 1, ⟨by omega, hsn'⟩, by omega, ?_⟩
      rw [stepa]
      exact Cov.ofn (id) rfl (by simp [go_sem, List.take_of_length_le, ren, ren1, ren2, okr, okr1, okr2, ChkT, ChkN, BlkN, nf, grammarC]) (by simp [go_sem, List.take_of_length_le, ren, ren1, ren2, okr, okr1, okr2, ChkT, ChkN, BlkN, nf, grammarC])
  · have hae : a = right.length := by simp at h; omega
    subst hae
    rw [List.take_length, hM] at hok
    have e0 : lstT (begS g right) = lstT fun t => begT (madeS g false) (firstS g) right t := lstT_ext fun t _ _ => by rw [begS, hok, Bool.true_and]
    rw [e0]
    refine wkdsc0 _ ?_
    refine Holds.anx [2, 4] [0, 1, 3] (fun n => decide (1 ≤ n)) mixed ?_ ?_ ?_; (· kernel_rfl); (· kernel_rfl)
    refine wkdac (@grammarC.eq_1) _ ?_
    first | refine GS.fnn [] (c1) rfl rfl rfl rfl (by simp [go_sem, List.take_of_length_le, ren, ren1, ren2, okr, okr1, okr2, ChkN, BlkN, List.range_succ, nf, grammarC] <;> with_reducible rfl) (by simp [go_sem, List.take_of_length_le, ren, ren1, ren2, okr, okr1, okr2, ChkN, BlkN, List.range_succ, nf, grammarC]) (by simp [go_sem, List.take_of_length_le, ren, ren1, ren2, okr, okr1, okr2, ChkN, BlkN, List.range_succ, nf, grammarC]) (by simp [List.range_succ, lb]) (ChkN.toB (by simp [go_sem, List.take_of_length_le, ren, ren1, ren2, okr, okr1, okr2, ChkN, BlkN, List.range_succ, nf, grammarC])) (by decide) (by simp) rfl (.nfr (by simp) .nil) (by simp [go_sem, List.take_of_length_le, ren, ren1, ren2, okr, okr1, okr2, ChkN, BlkN, List.range_succ, nf, grammarC] <;> with_reducible rfl) ?_ | refine Gx.fnn [] (c1) rfl rfl rfl rfl rfl (by simp [go_sem, List.take_of_length_le, ren, ren1, ren2, okr, okr1, okr2, ChkN, BlkN, List.range_succ, nf, grammarC] <;> with_reducible rfl) (by simp [go_sem, List.take_of_length_le, ren, ren1, ren2, okr, okr1, okr2, ChkN, BlkN, List.range_succ, nf, grammarC]) (by simp [go_sem, List.take_of_length_le, ren, ren1, ren2, okr, okr1, okr2, ChkN, BlkN, List.range_succ, nf, grammarC]) (by simp [List.range_succ, lb]) (ChkN.toB (by simp [go_sem, List.take_of_length_le, ren, ren1, ren2, okr, okr1, okr2, ChkN, BlkN, List.range_succ, nf, grammarC])) (by decide) (by simp) rfl (.nfr (by simp) .nil) (by simp [go_sem, List.take_of_length_le, ren, ren1, ren2, okr, okr1, okr2, ChkN, BlkN, List.range_succ, nf, grammarC]) (by simp [go_sem, List.take_of_length_le, ren, ren1, ren2, okr, okr1, okr2, ChkN, BlkN, List.range_succ, nf, grammarC] <;> with_reducible rfl) ?_ | refine Gx.fnno [] (c1) rfl rfl rfl rfl rfl (by simp [go_sem, List.take_of_length_le, ren, ren1, ren2, okr, okr1, okr2, ChkN, BlkN, List.range_succ, nf, grammarC] <;> with_reducible rfl) (by simp [go_sem, List.take_of_length_le, ren, ren1, ren2, okr, okr1, okr2, ChkN, BlkN, List.range_succ, nf, grammarC]) (by simp [go_sem, List.take_of_length_le, ren, ren1, ren2, okr, okr1, okr2, ChkN, BlkN, List.range_succ, nf, grammarC]) (by simp [List.range_succ, lb]) (ChkN.toB (by simp [go_sem, List.take_of_length_le, ren, ren1, ren2, okr, okr1, okr2, ChkN, BlkN, List.range_succ, nf, grammarC])) (by decide) (by simp) rfl (.nfr (by simp) .nil) (by simp [go_sem, List.take_of_length_le, ren, ren1, ren2, okr, okr1, okr2, ChkN, BlkN, List.range_succ, nf, grammarC] <;> with_reducible rfl) ?_
    refine wkdac (@grammarC.eq_1) _ ?_
    first | refine GS.fnn [1] (c2) rfl rfl rfl rfl (by simp [go_sem, List.take_of_length_le, ren, ren1, ren2, okr, okr1, okr2, ChkN, BlkN, List.range_succ, nf, grammarC] <;> with_reducible rfl) (by simp [go_sem, List.take_of_length_le, ren, ren1, ren2, okr, okr1, okr2, ChkN, BlkN, List.range_succ, nf, grammarC]) (by simp [go_sem, List.take_of_length_le, ren, ren1, ren2, okr, okr1, okr2, ChkN, BlkN, List.range_succ, nf, grammarC]) (by simp [List.range_succ, lb]) (ChkN.toB (by simp [go_sem, List.take_of_length_le, ren, ren1, ren2, okr, okr1, okr2, ChkN, BlkN, List.range_succ, nf, grammarC])) (by decide) (by simp) rfl (.nfr (by simp) .nil) (by simp [go_sem, List.take_of_length_le, ren, ren1, ren2, okr, okr1, okr2, ChkN, BlkN, List.range_succ, nf, grammarC] <;> with_reducible rfl) ?_ | refine Gx.fnn [1] (c2) rfl rfl rfl rfl rfl (by simp [go_sem, List.take_of_length_le, ren, ren1, ren2, okr, okr1, okr2, ChkN, BlkN, List.range_succ, nf, grammarC] <;> with_reducible rfl) (by simp [go_sem, List.take_of_length_le, ren, ren1, ren2, okr, okr1, okr2, ChkN, BlkN, List.range_succ, nf, grammarC]) (by simp [go_sem, List.take_of_length_le, ren, ren1, ren2, okr, okr1, okr2, ChkN, BlkN, List.range_succ, nf, grammarC]) (by simp [List.range_succ, lb]) (ChkN.toB (by simp [go_sem, List.take_of_length_le, ren, ren1, ren2, okr, okr1, okr2, ChkN, BlkN, List.range_succ, nf, grammarC])) (by decide) (by simp) rfl (.nfr (by simp) .nil) (by simp [go_sem, List.take_of_length_le, ren, ren1, ren2, okr, okr1, okr2, ChkN, BlkN, List.range_succ, nf, grammarC]) (by simp [go_sem, List.take_of_length_le, ren, ren1, ren2, okr, okr1, okr2, ChkN, BlkN, List.range_succ, nf, grammarC] <;> with_reducible rfl) ?_ | refine Gx.fnno [1] (c2) rfl rfl rfl rfl rfl (by simp [go_sem, List.take_of_length_le, ren, ren1, ren2, okr, okr1, okr2, ChkN, BlkN, List.range_succ, nf, grammarC] <;> with_reducible rfl) (by simp [go_sem, List.take_of_length_le, ren, ren1, ren2, okr, okr1, okr2, ChkN, BlkN, List.range_succ, nf, grammarC]) (by simp [go_sem, List.take_of_length_le, ren, ren1, ren2, okr, okr1, okr2, ChkN, BlkN, List.range_succ, nf, grammarC]) (by simp [List.range_succ, lb]) (ChkN.toB (by simp [go_sem, List.take_of_length_le, ren, ren1, ren2, okr, okr1, okr2, ChkN, BlkN, List.range_succ, nf, grammarC])) (by decide) (by simp) rfl (.nfr (by simp) .nil) (by simp [go_sem, List.take_of_length_le, ren, ren1, ren2, okr, okr1, okr2, ChkN, BlkN, List.range_succ, nf, grammarC] <;> with_reducible rfl) ?_
    refine wkdac (@grammarC.eq_1) _ ?_

    refine Out.mk (xs := ?_) ?_ ?_ (by first | exact .inr rfl | exact .inl rfl)
    rotate_left
    · simp [go_sem, List.take_of_length_le] <;> with_reducible rfl
    exact .im _ _
end Go.Proofs.YtkolhcoeifghpaaGreat.En
end
section
namespace Go.Proofs.YtkolhcoeifghpaaGreat.En
open Go.RowKit
set_option linter.unusedSimpArgs false
set_option linter.unusedVariables false
set_option maxHeartbeats 4000000
theorem l1OwnF (xs : List Int) (hx : xs.length ≤ 1000000) : Fn Tryz.prog 35 0 [.im 1 (ints xs)] [] (.own 0 1 0 xs.length) 1 [(0, ⟨3, 1, ints xs⟩)] := by
  have hb : xs.length * 8 ≤ 140737488355328 := by omega
  refine Fn.mk (rs := [.tmp 2]) (nt := 6) Tryz.func35 (by kernel_rfl) rfl rfl rfl (by simp) ?_
  simp only [sl]
  refine wkc (And.intro @hb (@ints_all)) _ ?_
  refine OutF.mkn (xs := ?_) (nm [2]) ?_ ?_ ?_ ?_ ?_ (by first | exact .inr rfl | exact .inl rfl)
  rotate_left
  · simp [go_sem, List.take_of_length_le] <;> with_reducible rfl
  · simp [go_sem, List.take_of_length_le, ren, ren1, ren2, okr, okr1, okr2, ChkN, BlkN, List.range_succ, nf]
  · simp [go_sem, List.take_of_length_le, ren, ren1, ren2, okr, okr1, okr2, ChkN, BlkN, List.range_succ, nf]
  · simp [go_sem, List.take_of_length_le, ren, ren1, ren2, okr, okr1, okr2, ChkN, BlkN, List.range_succ, nf]
  · rfl
def lastR (n : Nat) (W : Int × Int → Bool) : List (List AV) := (List.range n).map fun x : Nat => [.v (.bool (W (x, -1)))]
@[simp] theorem lastR_len (n : Nat) (W : Int × Int → Bool) : (lastR n W).length = n := by simp [lastR]
theorem lastR_at (W : Int × Int → Bool) {n x : Nat} (h : x < n) : (lastR n W)[x]? = some [.v (.bool (W (x, -1)))] := by
  simp [lastR, List.getElem?_range h]
theorem lastR_none (n : Nat) : lastR n (fun _ => false) = List.replicate n [.v (.bool false)] := by
  simp [lastR, List.map_const']
theorem lastR_put (W : Int × Int → Bool) {n x : Nat} (h : x < n) : (lastR n W).set x [.v (.bool true)] = lastR n (insI W (x, -1)) := by
  refine List.ext_getElem? fun i => ?_
  by_cases hi : i < n
  · rw [lastR_at _ hi, List.getElem?_set]
    by_cases e : x = i
    · subst e
      rw [if_pos rfl, if_pos (by simpa using h)]
      simp [insI]
    · rw [if_neg e, lastR_at _ hi]
      have : ¬ ((i : Int) = (x : Int)) := by omega
      simp [insI, this]
  · rw [List.getElem?_eq_none (by simp; omega), List.getElem?_eq_none (by simp; omega)]
theorem lastR_ins (W : Int × Int → Bool) (n : Nat) (x : Int) {t : Int} (ht : 0 ≤ t) : lastR n (insI W (x, t)) = lastR n W := by
  unfold lastR
  refine List.map_congr_left fun y _ => ?_
  have : ¬ ((-1 : Int) = t) := by omega
  simp [insI, this]
theorem rowsT_ins (W : Int × Int → Bool) (n : Nat) (x : Int) : rowsT n (insI W (x, -1)) = rowsT n W := by
  unfold rowsT
  refine List.map_congr_left fun y _ => lstT_ext fun t h0 _ => ?_
  have : ¬ (t = (-1 : Int)) := by omega
  simp [insI, this]
@[simp] theorem nfr_lastR (n : Nat) (W : Int × Int → Bool) : nfr (lastR n W) := fun row hr x hx => by
  simp only [lastR, List.mem_map] at hr
  obtain ⟨y, _, rfl⟩ := hr
  simp only [List.mem_singleton] at hx
  subst hx; rfl
theorem l14Follows (g : GrammarT) (hG : OkG g) (n : Nat) (hn : (n : Int) = g.1) : Fn Tryz.prog 33 0 [.ag (grammarC g)] [] (.tu [.own 0 1 0 n, .own 1 1 0 n]) 2 [(0, ⟨25, 1, intss (rowsT n (followS g))⟩), (1, ⟨4, 1, lastR n (followS g)⟩)] := by
  have hlen := hG.len
  have hn1 := hG.n1
  have hn0 := hG.n0
  have hgn : g.1 = (n : Int) := hn.symm
  have h0n : 0 < n := by omega
  refine Fn.mk (rs := [.tmp 2, .tmp 3]) (nt := 109) Tryz.func33 (by kernel_rfl) rfl rfl rfl (by simp) ?_
  simp only [sl, grammarC]
  have hset0 : bools ((List.replicate n false).set 0 true) = lastR n (fun p => decide (p = (0, -1))) := by
    have e1 : bools ((List.replicate n false).set 0 true) = (List.replicate n ([.v (.bool false)] : List AV)).set 0 [.v (.bool true)] := by rw [bools_rep, bools_set]
    rw [e1, ← lastR_none, lastR_put (fun _ => false) h0n]
    congr 1
  refine wkdc (And.intro @grammarC.eq_1 (And.intro @hgn (And.intro @h0n (And.intro ((show (0:Int) ≤ (n : Int) by omega)) (And.intro ((show (24:Int) * n ≤ 281474976710656 by omega)) (And.intro ((show (n : Int) ≤ 281474976710656 by omega)) (@hset0))))))) _ ?_
  refine Holds.nilI 1 n 1 rfl rfl ?_
  have hO0 : List.replicate n ([.im 1 []] : List AV) = intss (rowsT n (fun p => decide (p = (0, -1)))) := by
    have : rowsT n (fun p => decide (p = (0, -1))) = rowsT n (fun _ => false) := by
      unfold rowsT
      refine List.map_congr_left fun y _ => lstT_ext fun t h0 _ => ?_
      have : ¬ (t = (-1 : Int)) := by omega
      simp [this]
    rw [this, rowsT_none]; simp [intss, intsC, ints]
  have hz : LowI (impsW g) (fun p => decide (p = (0, -1))) := low_W g
  refine Holds.loop (ι := (Int × Int → Bool) × Bool) (fun i => ⟨[(1, .pb 0 3 0 0), (4, .own 1 1 0 n), (5, .own 2 1 0 n), (6, .v (.bool i.2))], [(2, ⟨4, 1, lastR n i.1⟩), (1, ⟨25, 1, intss (rowsT n i.1)⟩), (0, ⟨31, 3, [grammarC g]⟩)], 3⟩)
    (fun i => i.1 (0, -1) = true ∧ LowI (impsW g) i.1 ∧ (i.2 = false → i.1 = followS g)) (fun i => 2 * (30 - (univQ.filter i.1).length) + if i.2 then 1 else 0) (fun p => decide (p = (0, -1)), true) ⟨rfl, hz, fun e => (by cases e)⟩ ?_ ?_
  · rw [← hO0]
    have hnf0 : nfr (List.replicate n ([.im 1 []] : List AV)) := .rep (by simp [nf])
    exact Cov.ofn (id) rfl (by simp [go_sem, List.take_of_length_le, ren, ren1, ren2, okr, okr1, okr2, ChkT, ChkN, BlkN, nf, grammarC, hgn, st, hnf0]) (by simp [go_sem, List.take_of_length_le, ren, ren1, ren2, okr, okr1, okr2, ChkT, ChkN, BlkN, nf, grammarC, hgn, st, hnf0])
  clear hset0 hz hO0
  rintro ⟨W0, more0⟩ ⟨hz0, hlow0, hfin⟩
  dsimp only at hz0 hlow0 hfin ⊢
  refine wkdc0 _ ?_
  refine Holds.cond rfl (fun h => ?_) (fun h => ?_)
  · subst h
    have hc0 := card_leQ W0
    refine wkdc (@grammarC.eq_1) _ ?_
    refine Holds.loop (ι := Nat × (Int × Int → Bool) × Bool) (fun i => ⟨[(1, .pb 0 3 0 0), (4, .own 1 1 0 n), (5, .own 2 1 0 n), (6, .v (.bool i.2.2)), (25, .im 2 (rules g.2.2)), (26, .v (.int .i64 g.2.2.length)), (27, .v (.int .i64 i.1))], [(2, ⟨4, 1, lastR n i.2.1⟩), (1, ⟨25, 1, intss (rowsT n i.2.1)⟩), (0, ⟨31, 3, [grammarC g]⟩)], 3⟩)
      (fun i => i.1 ≤ g.2.2.length ∧ ClI (impsW g) univQ W0 i.2.1 i.2.2 (impWz :: (g.2.2.take i.1).flatMap (impsWf g))) (fun i => g.2.2.length - i.1) (0, W0, false) ⟨Nat.zero_le _, (ClI.start _ hlow0).ext [impWz] (fun _ _ p hp _ => by rw [List.mem_singleton] at hp; subst hp; exact hz0)⟩ ?_ ?_
    · exact Cov.ofn (id) rfl (by simp [go_sem, List.take_of_length_le, ren, ren1, ren2, okr, okr1, okr2, ChkT, ChkN, BlkN, nf, grammarC]) (by simp [go_sem, List.take_of_length_le, ren, ren1, ren2, okr, okr1, okr2, ChkT, ChkN, BlkN, nf, grammarC])
    rintro ⟨k, W, more⟩ ⟨hk, hC⟩
    dsimp only at hk hC ⊢
    have stepk : wr64 ((k : Int) + 1) = ((k + 1 : Nat) : Int) := wr64_id (by omega) (by omega)
    refine wkdc0 _ ?_
    refine Holds.cond rfl (fun h => ?_) (fun h => ?_)
    · have hlt : k < g.2.2.length := by simp at h; omega
      have hrk : g.2.2[k]? = some g.2.2[k] := List.getElem?_eq_getElem hlt
      have hmem := List.getElem_mem hlt
      generalize g.2.2[k] = r at hrk hmem
      have hr0 := hG.l0 r hmem
      have hr1 := hG.l1 r hmem
      have hr4 := hG.r4 r hmem
      have hs0 := hG.s0 r hmem
      have hs1 := hG.s1 r hmem
      have ht1 := hG.t1
      obtain ⟨b, hb⟩ : ∃ b : Nat, r.1 = (b : Int) := ⟨r.1.toNat, by omega⟩
      have hbn : b < n := by omega
      refine wkdc (And.intro (@get_E _ _ _ _ hrk) (And.intro @hrk (And.intro @hlt (@ruleC.eq_1)))) _ ?_
      refine Holds.loop (ι := Nat × (Int × Int → Bool) × Bool) (fun i => ⟨[(1, .pb 0 3 0 0), (4, .own 1 1 0 n), (5, .own 2 1 0 n), (6, .v (.bool i.2.2)), (8, .pb 3 2 0 0), (25, .im 2 (rules g.2.2)), (26, .v (.int .i64 g.2.2.length)), (27, .v (.int .i64 k)), (32, .im 1 (ints r.2)), (33, .v (.int .i64 r.2.length)), (34, .v (.int .i64 i.1))], [(3, ⟨66, 2, [ruleC r]⟩), (2, ⟨4, 1, lastR n i.2.1⟩), (1, ⟨25, 1, intss (rowsT n i.2.1)⟩), (0, ⟨31, 3, [grammarC g]⟩)], 4⟩)
        (fun i => i.1 ≤ r.2.length ∧ ClI (impsW g) univQ W0 i.2.1 i.2.2 (seenW g k r i.1)) (fun i => r.2.length - i.1) (0, W, more) ⟨Nat.zero_le _, by rw [seenW_zero]; exact hC⟩ ?_ ?_
      · exact Cov.ofn (id) rfl (by simp [go_sem, List.take_of_length_le, ren, ren1, ren2, okr, okr1, okr2, ChkT, ChkN, BlkN, nf, grammarC, ruleC]) (by simp [go_sem, List.take_of_length_le, ren, ren1, ren2, okr, okr1, okr2, ChkT, ChkN, BlkN, nf, grammarC, ruleC])
      clear hC
      rintro ⟨a, W, more⟩ ⟨ha, hC⟩
      dsimp only at ha hC ⊢
      have stepa : wr64 ((a : Int) + 1) = ((a + 1 : Nat) : Int) := wr64_id (by omega) (by omega)
      refine wkdc0 _ ?_
      refine Holds.cond rfl (fun h => ?_) (fun h => ?_)
      · have hla : a < r.2.length := by simp at h; omega
        have hxa : r.2[a]? = some r.2[a] := List.getElem?_eq_getElem hla
        have hxm := List.getElem_mem hla
        generalize r.2[a] = x at hxa hxm
        have hx5 := hs1 x hxm
        have hx4 := hs0 x hxm
        by_cases hx0 : x < 0
        · have hsn : seenW g k r (a + 1) = seenW g k r a := by
            rw [seenW_snoc, impsWr, hxa]
            simp only [if_pos hx0, List.append_nil]
          refine wkdc (And.intro (@get_E _ _ _ _ hxa) (And.intro @hxa (And.intro @hla (@hx0)))) _ ?_
          refine ⟨(a + 1, W, more), ⟨by dsimp only; omega, by rw [hsn]; exact hC⟩, by dsimp only; omega, ?_⟩
          rw [stepa]
          exact Cov.ofn (id) rfl (by simp [go_sem, List.take_of_length_le, ren, ren1, ren2, okr, okr1, okr2, ChkT, ChkN, BlkN, nf, grammarC, ruleC]) (by simp [go_sem, List.take_of_length_le, ren, ren1, ren2, okr, okr1, okr2, ChkT, ChkN, BlkN, nf, grammarC, ruleC])
        · have hsn : seenW g k r (a + 1) = seenW g k r a ++ univL.map (impW g r.1 x (r.2.drop (a + 1))) := by
            rw [seenW_snoc, impsWr, hxa]
            simp only [if_neg hx0]
          obtain ⟨m, rfl⟩ : ∃ m : Nat, x = (m : Int) := ⟨x.toNat, by omega⟩
          have hmn : m < n := by omega
          have hdl : (r.2.drop (a + 1)).length ≤ 4 := by rw [List.length_drop]; omega
          have hrs1 : ∀ x ∈ r.2.drop (a + 1), x < g.1 := fun x hx => by have := hs1 x (List.mem_of_mem_drop hx); omega
          have hrs : ∀ x ∈ r.2.drop (a + 1), -4 ≤ x := fun x hx => by have := hs0 x (List.mem_of_mem_drop hx); omega
          have cb := l14Begins g hG (r.2.drop (a + 1)) hdl hrs1 hrs
          have cn := l14Null g hG (r.2.drop (a + 1)) hdl hrs1
          have himp := fun t ht => impW_mem (g := g) hmem hxa hx0 (t := t) ht
          have hal : a + 1 ≤ r.2.length := by omega
          have hdr : (ints r.2).drop (a + 1) = ints (r.2.drop (a + 1)) := by simp [ints]
          generalize r.2.drop (a + 1) = rest at cb cn hsn himp hdr hrs
          obtain ⟨S, hS⟩ : ∃ S, S = begS g rest := ⟨_, rfl⟩
          obtain ⟨e0, hE⟩ : ∃ e0, e0 = nullS g rest := ⟨_, rfl⟩
          rw [← hS] at cb
          rw [← hE] at cn
          have hSl := lstT_len S
          have hWl := lstT_len fun t => W ((b : Int), t)
          have hrow := rowsT_at W hbn
          refine wkdc (And.intro (@get_E _ _ _ _ hxa) (And.intro @hxa (And.intro @hla (And.intro @hx0 (And.intro @ruleC.eq_1 (And.intro @grammarC.eq_1 (And.intro @stepa (And.intro @hal (And.intro ((show (0 : Int) ≤ (a : Int) + 1 by omega)) (@hdr)))))))))) _ ?_
          first | refine GS.cc (cb) rfl rfl rfl rfl (by simp [go_sem, List.take_of_length_le, grammarC] <;> with_reducible rfl) rfl (by simp [go_sem, List.take_of_length_le, grammarC]) ?_ | refine Gd.cc (cb) rfl rfl rfl rfl (by simp [go_sem, List.take_of_length_le, grammarC] <;> with_reducible rfl) rfl (by simp [go_sem, List.take_of_length_le, grammarC]) ?_
          refine wkdc (And.intro @ruleC.eq_1 (And.intro @grammarC.eq_1 (And.intro @stepa (And.intro @hal (And.intro ((show (0 : Int) ≤ (a : Int) + 1 by omega)) (@hdr)))))) _ ?_
          first | refine GS.cc (cn) rfl rfl rfl rfl (by simp [go_sem, List.take_of_length_le, grammarC] <;> with_reducible rfl) rfl (by simp [go_sem, List.take_of_length_le, grammarC]) ?_ | refine Gd.cc (cn) rfl rfl rfl rfl (by simp [go_sem, List.take_of_length_le, grammarC] <;> with_reducible rfl) rfl (by simp [go_sem, List.take_of_length_le, grammarC]) ?_
          refine wkdc0 _ ?_
          refine Holds.join (ι := List Int) (fun A => ⟨[(1, .pb 0 3 0 0), (4, .own 1 1 0 n), (5, .own 2 1 0 n), (6, .v (.bool more)), (8, .pb 3 2 0 0), (10, .v (.int .i64 m)), (11, .im 1 (ints A)), (12, .v (.bool e0)), (25, .im 2 (rules g.2.2)), (26, .v (.int .i64 g.2.2.length)), (27, .v (.int .i64 k)), (32, .im 1 (ints r.2)), (33, .v (.int .i64 r.2.length)), (34, .v (.int .i64 a))], [(3, ⟨66, 2, [ruleC r]⟩), (2, ⟨4, 1, lastR n W⟩), (1, ⟨25, 1, intss (rowsT n W)⟩), (0, ⟨31, 3, [grammarC g]⟩)], 4⟩)
            (fun A => A.length ≤ 8 ∧ ∀ t, t ∈ A ↔ (0 ≤ t ∧ t ≤ 3) ∧ (S t || (e0 && W ((b : Int), t))) = true) ?_ ?_
          · cases e0 with
            | false =>
              refine wkdc0 _ ?_
              refine ⟨lstT S, ⟨by omega, fun t => by rw [lstT_mem, Bool.false_and, Bool.or_false]⟩, ?_⟩
              exact Cov.ofn (id) rfl (by simp [go_sem, List.take_of_length_le, ren, ren1, ren2, okr, okr1, okr2, ChkT, ChkN, BlkN, nf, grammarC, ruleC]) (by simp [go_sem, List.take_of_length_le, ren, ren1, ren2, okr, okr1, okr2, ChkT, ChkN, BlkN, nf, grammarC, ruleC])
            | true =>
              have co := l1OwnF (lstT S) (by omega)
              obtain ⟨R, hR⟩ : ∃ R, R = lstT fun t => W ((b : Int), t) := ⟨_, rfl⟩
              rw [← hR] at hWl hrow
              refine wkdsc0 _ ?_
              refine Holds.anx [1, 7] [2, 3, 4, 5, 6] (fun n => decide (4 ≤ n)) mixed ?_ ?_ ?_; (· kernel_rfl); (· kernel_rfl)
              refine wkdac0 _ ?_
              first | refine GS.fnn [] (co) rfl rfl rfl rfl (by simp [go_sem, List.take_of_length_le, ren, ren1, ren2, okr, okr1, okr2, ChkN, BlkN, List.range_succ, nf] <;> with_reducible rfl) (by simp [go_sem, List.take_of_length_le, ren, ren1, ren2, okr, okr1, okr2, ChkN, BlkN, List.range_succ, nf]) (by simp [go_sem, List.take_of_length_le, ren, ren1, ren2, okr, okr1, okr2, ChkN, BlkN, List.range_succ, nf]) (by simp [List.range_succ, lb]) (ChkN.toB (by simp [go_sem, List.take_of_length_le, ren, ren1, ren2, okr, okr1, okr2, ChkN, BlkN, List.range_succ, nf])) (by decide) (by simp) rfl (.nfr (by simp) .nil) (by simp [go_sem, List.take_of_length_le, ren, ren1, ren2, okr, okr1, okr2, ChkN, BlkN, List.range_succ, nf] <;> with_reducible rfl) ?_ | refine Gx.fnn [] (co) rfl rfl rfl rfl rfl (by simp [go_sem, List.take_of_length_le, ren, ren1, ren2, okr, okr1, okr2, ChkN, BlkN, List.range_succ, nf] <;> with_reducible rfl) (by simp [go_sem, List.take_of_length_le, ren, ren1, ren2, okr, okr1, okr2, ChkN, BlkN, List.range_succ, nf]) (by simp [go_sem, List.take_of_length_le, ren, ren1, ren2, okr, okr1, okr2, ChkN, BlkN, List.range_succ, nf]) (by simp [List.range_succ, lb]) (ChkN.toB (by simp [go_sem, List.take_of_length_le, ren, ren1, ren2, okr, okr1, okr2, ChkN, BlkN, List.range_succ, nf])) (by decide) (by simp) rfl (.nfr (by simp) .nil) (by simp [go_sem, List.take_of_length_le, ren, ren1, ren2, okr, okr1, okr2, ChkN, BlkN, List.range_succ, nf]) (by simp [go_sem, List.take_of_length_le, ren, ren1, ren2, okr, okr1, okr2, ChkN, BlkN, List.range_succ, nf] <;> with_reducible rfl) ?_ | refine Gx.fnno [] (co) rfl rfl rfl rfl rfl (by simp [go_sem, List.take_of_length_le, ren, ren1, ren2, okr, okr1, okr2, ChkN, BlkN, List.range_succ, nf] <;> with_reducible rfl) (by simp [go_sem, List.take_of_length_le, ren, ren1, ren2, okr, okr1, okr2, ChkN, BlkN, List.range_succ, nf]) (by simp [go_sem, List.take_of_length_le, ren, ren1, ren2, okr, okr1, okr2, ChkN, BlkN, List.range_succ, nf]) (by simp [List.range_succ, lb]) (ChkN.toB (by simp [go_sem, List.take_of_length_le, ren, ren1, ren2, okr, okr1, okr2, ChkN, BlkN, List.range_succ, nf])) (by decide) (by simp) rfl (.nfr (by simp) .nil) (by simp [go_sem, List.take_of_length_le, ren, ren1, ren2, okr, okr1, okr2, ChkN, BlkN, List.range_succ, nf] <;> with_reducible rfl) ?_
              refine wkdac (And.intro @ruleC.eq_1 (And.intro @hb (And.intro @hbn (And.intro @hrow (And.intro (@get_E _ _ _ _ hrow) (@intsC.eq_1)))))) _ ?_
              have hb8 : ((lstT S).length + R.length) * 8 ≤ 140737488355328 := by omega
              refine wkdac (And.intro @hb8 (@ints_all)) _ ?_
              refine ⟨lstT S ++ R, ⟨by rw [List.length_append]; omega, fun t => ?_⟩, ?_⟩
              · rw [List.mem_append, lstT_mem, hR, lstT_mem, Bool.true_and, Bool.or_eq_true]
                constructor
                · rintro (h | h)
                  · exact ⟨h.1, .inl h.2⟩
                  · exact ⟨h.1, .inr h.2⟩
                · rintro ⟨h1, h2 | h2⟩
                  · exact .inl ⟨h1, h2⟩
                  · exact .inr ⟨h1, h2⟩
              refine Cov.trans ?_ (Cov.freeze [6] (ts := [(11, .im 1 (ints (lstT S ++ R)))]) (.cons rfl (Fz.all rfl rfl (by simp) (by simp [ints]) (ints_cl _)) .nil))
              exact Cov.ofn (id) rfl (by simp [go_sem, List.take_of_length_le, ren, ren1, ren2, okr, okr1, okr2, ChkT, ChkN, BlkN, nf, frz, grammarC, ruleC, hb]) (by simp [go_sem, List.take_of_length_le, ren, ren1, ren2, okr, okr1, okr2, ChkT, ChkN, BlkN, nf, frz, grammarC, ruleC, hb])
          rintro A ⟨hAl, hA⟩
          refine wkdac0 _ ?_
          refine Holds.loop (ι := Nat × (Int × Int → Bool) × Bool) (fun i => ⟨[(1, .pb 0 3 0 0), (4, .own 1 1 0 n), (5, .own 2 1 0 n), (6, .v (.bool i.2.2)), (8, .pb 3 2 0 0), (10, .v (.int .i64 m)), (12, .v (.bool e0)), (25, .im 2 (rules g.2.2)), (26, .v (.int .i64 g.2.2.length)), (27, .v (.int .i64 k)), (32, .im 1 (ints r.2)), (33, .v (.int .i64 r.2.length)), (34, .v (.int .i64 a)), (64, .im 1 (ints A)), (65, .v (.int .i64 A.length)), (66, .v (.int .i64 i.1))], [(3, ⟨66, 2, [ruleC r]⟩), (2, ⟨4, 1, lastR n i.2.1⟩), (1, ⟨25, 1, intss (rowsT n i.2.1)⟩), (0, ⟨31, 3, [grammarC g]⟩)], 4⟩)
            (fun i => i.1 ≤ A.length ∧ ClI (impsW g) univQ W0 i.2.1 i.2.2 (seenW g k r a) ∧ (∀ p, W p = true → i.2.1 p = true) ∧ ∀ t ∈ A.take i.1, i.2.1 (m, t) = true) (fun i => A.length - i.1) (0, W, more) ⟨Nat.zero_le _, hC, fun _ h => h, fun t ht => by simp at ht⟩ ?_ ?_
          · exact Cov.ofn (id) rfl (by simp [go_sem, List.take_of_length_le, ren, ren1, ren2, okr, okr1, okr2, ChkT, ChkN, BlkN, nf, grammarC, ruleC]) (by simp [go_sem, List.take_of_length_le, ren, ren1, ren2, okr, okr1, okr2, ChkT, ChkN, BlkN, nf, grammarC, ruleC])
          have hle0 := hC.le
          clear hC
          rintro ⟨j, W2, more⟩ ⟨hj, hC, hle, hset⟩
          dsimp only at hj hC hle hset ⊢
          have stepj : wr64 ((j : Int) + 1) = ((j + 1 : Nat) : Int) := wr64_id (by omega) (by omega)
          refine wkdac0 _ ?_
          refine Holds.cond rfl (fun h => ?_) (fun h => ?_)
          · have hlj : j < A.length := by simp at h; omega
            have htj : A[j]? = some A[j] := List.getElem?_eq_getElem hlj
            have htm := (hA _).1 (List.getElem_mem hlj)
            generalize A[j] = t at htj htm
            have hsnt : ∀ W3 : Int × Int → Bool, (∀ p, W2 p = true → W3 p = true) → W3 (m, t) = true → ∀ u ∈ A.take (j + 1), W3 (m, u) = true := fun W3 h2 h3 u hu => by
              rw [List.take_add_one, htj] at hu
              rcases List.mem_append.1 hu with hu | hu
              · exact h2 _ (hset u hu)
              · rw [Option.toList_some, List.mem_singleton] at hu
                subst hu; exact h3
            have hrow := rowsT_at W2 hmn
            have hput := rowsT_put W2 hmn htm.1
            have hrl := lstT_len fun u => W2 ((m : Int), u)
            have ch := l1Has (lstT fun u => W2 ((m : Int), u)) t (by omega)
            rw [lstT_has _ htm.1] at ch
            have cpu := l1Put (lstT fun u => W2 ((m : Int), u)) t (by omega)
            have hput' : (intss (rowsT n W2)).set m [.im 1 (ints (putL (lstT fun u => W2 ((m : Int), u)) t))] = intss (rowsT n (insI W2 ((m : Int), t))) := by rw [intss_set, hput]
            have hlr := lastR_ins W2 n m htm.1.1
            have hadd := fun (h2 : W2 ((m : Int), t) = false) => hC.add (himp t ⟨by omega, htm.1.2⟩) (impW_mono g r.1 m rest t) (by
                show (begS g rest t || (nullS g rest && W2 (r.1, t))) = true
                have := htm.2
                rw [Bool.or_eq_true, Bool.and_eq_true] at this ⊢
                rw [hS, hE] at this
                exact this.imp id fun h => ⟨h.1, by rw [hb]; exact hle _ h.2⟩) h2 (mem_univQ.2 ⟨⟨by show (0 : Int) ≤ m; omega, by show (m : Int) ≤ 5; omega⟩, ⟨by show (-1 : Int) ≤ t; omega, htm.1.2⟩⟩) (seenW g k r a)
            generalize (lstT fun u => W2 ((m : Int), u)) = R at hrow ch cpu hput'
            cases hW2 : W2 ((m : Int), t) with
            | true =>
              rw [hW2] at ch
              refine wkdac (And.intro (@get_E _ _ _ _ htj) (And.intro @htj (And.intro @hlj (And.intro @hmn (And.intro @hrow (And.intro (@get_E _ _ _ _ hrow) (@intsC.eq_1))))))) _ ?_
              first | refine GS.cc (ch) rfl rfl rfl rfl (by simp [go_sem, List.take_of_length_le] <;> with_reducible rfl) rfl (by simp [go_sem, List.take_of_length_le]) ?_ | refine Gd.cc (ch) rfl rfl rfl rfl (by simp [go_sem, List.take_of_length_le] <;> with_reducible rfl) rfl (by simp [go_sem, List.take_of_length_le]) ?_ | refine Gx.cc (ch) rfl rfl rfl rfl rfl (by simp [go_sem, List.take_of_length_le] <;> with_reducible rfl) rfl (by simp [go_sem, List.take_of_length_le]) ?_ | refine Gx.cch (ch) rfl rfl rfl rfl rfl (by simp [go_sem, List.take_of_length_le] <;> with_reducible rfl) rfl (by simp [go_sem, List.take_of_length_le]) ?_
              refine wkdac0 _ ?_
              refine ⟨(j + 1, W2, more), ⟨by dsimp only; omega, hC, hle, hsnt W2 (fun _ h => h) hW2⟩, by dsimp only; omega, ?_⟩
              rw [stepj]
              exact Cov.ofn (id) rfl (by simp [go_sem, List.take_of_length_le, ren, ren1, ren2, okr, okr1, okr2, ChkT, ChkN, BlkN, nf, grammarC, ruleC]) (by simp [go_sem, List.take_of_length_le, ren, ren1, ren2, okr, okr1, okr2, ChkT, ChkN, BlkN, nf, grammarC, ruleC])
            | false =>
              rw [hW2] at ch
              refine wkdac (And.intro (@get_E _ _ _ _ htj) (And.intro @htj (And.intro @hlj (And.intro @hmn (And.intro @hrow (And.intro (@get_E _ _ _ _ hrow) (@intsC.eq_1))))))) _ ?_
              first | refine GS.cc (ch) rfl rfl rfl rfl (by simp [go_sem, List.take_of_length_le] <;> with_reducible rfl) rfl (by simp [go_sem, List.take_of_length_le]) ?_ | refine Gd.cc (ch) rfl rfl rfl rfl (by simp [go_sem, List.take_of_length_le] <;> with_reducible rfl) rfl (by simp [go_sem, List.take_of_length_le]) ?_ | refine Gx.cc (ch) rfl rfl rfl rfl rfl (by simp [go_sem, List.take_of_length_le] <;> with_reducible rfl) rfl (by simp [go_sem, List.take_of_length_le]) ?_ | refine Gx.cch (ch) rfl rfl rfl rfl rfl (by simp [go_sem, List.take_of_length_le] <;> with_reducible rfl) rfl (by simp [go_sem, List.take_of_length_le]) ?_
              refine wkdac (And.intro @hmn (And.intro @hrow (And.intro (@get_E _ _ _ _ hrow) (@intsC.eq_1)))) _ ?_
              first | refine GS.cc (cpu) rfl rfl rfl rfl (by simp [go_sem, List.take_of_length_le] <;> with_reducible rfl) rfl (by simp [go_sem, List.take_of_length_le]) ?_ | refine Gd.cc (cpu) rfl rfl rfl rfl (by simp [go_sem, List.take_of_length_le] <;> with_reducible rfl) rfl (by simp [go_sem, List.take_of_length_le]) ?_ | refine Gx.cc (cpu) rfl rfl rfl rfl rfl (by simp [go_sem, List.take_of_length_le] <;> with_reducible rfl) rfl (by simp [go_sem, List.take_of_length_le]) ?_ | refine Gx.cch (cpu) rfl rfl rfl rfl rfl (by simp [go_sem, List.take_of_length_le] <;> with_reducible rfl) rfl (by simp [go_sem, List.take_of_length_le]) ?_
              refine wkdac (And.intro @hmn (And.intro @hrow (And.intro (@get_E _ _ _ _ hrow) (And.intro @intsC.eq_1 (@hput'))))) _ ?_
              refine ⟨(j + 1, insI W2 ((m : Int), t), true), ⟨by dsimp only; omega, hadd hW2, fun p hp => insI_le _ _ _ (hle p hp), hsnt _ (fun p hp => insI_le _ _ _ hp) (insI_self _ _)⟩, by dsimp only; omega, ?_⟩
              dsimp only
              rw [stepj, hlr]
              exact Cov.ofn (id) rfl (by simp [go_sem, List.take_of_length_le, ren, ren1, ren2, okr, okr1, okr2, ChkT, ChkN, BlkN, nf, grammarC, ruleC]) (by simp [go_sem, List.take_of_length_le, ren, ren1, ren2, okr, okr1, okr2, ChkT, ChkN, BlkN, nf, grammarC, ruleC])
          · have hje : j = A.length := by simp at h; omega
            subst hje
            rw [List.take_length] at hset
            have hb1 : begS g rest (-1) = false := by
              cases hb : begS g rest (-1) with
              | false => rfl
              | true => have := begS_univ hG hrs hb; omega
            have hlb := lastR_at W2 hbn
            have hlm := lastR_at W2 hmn
            have hlp := lastR_put W2 hmn
            have hri := rowsT_ins W2 n m
            have hext : ∀ W3 : Int × Int → Bool, ∀ more3, ClI (impsW g) univQ W0 W3 more3 (seenW g k r a) → (∀ p, W2 p = true → W3 p = true) → ((e0 && W2 ((b : Int), -1)) = true → W3 ((m : Int), -1) = true) → ClI (impsW g) univQ W0 W3 more3 (seenW g k r (a + 1)) := fun W3 more3 hC3 hle3 hl3 => by
              rw [hsn]
              refine hC3.ext _ fun f1 f2 p hp h1 => ?_
              obtain ⟨t, ht, rfl⟩ := List.mem_map.1 hp
              have ht := mem_univL.1 ht
              have hWW : ∀ q, W3 q = true → W q = true := fun q hq => hle0 q (by rw [← f2]; exact hq)
              have h1 : (begS g rest t || (nullS g rest && W3 (r.1, t))) = true := h1
              by_cases ht1 : t = -1
              · subst ht1
                rw [hb1, Bool.false_or, Bool.and_eq_true] at h1
                refine hl3 ?_
                rw [Bool.and_eq_true]
                exact ⟨by rw [hE]; exact h1.1, by rw [← hb]; exact hle _ (hWW _ h1.2)⟩
              · refine hle3 _ (hset t ((hA t).2 ⟨⟨by omega, ht.2⟩, ?_⟩))
                rw [hS, hE]
                rw [Bool.or_eq_true, Bool.and_eq_true] at h1 ⊢
                exact h1.imp id fun h => ⟨h.1, by rw [← hb]; exact hWW _ h.2⟩
            have hadd := fun (h1 : e0 = true) (h2 : W2 ((b : Int), -1) = true) (h3 : W2 ((m : Int), -1) = false) => hC.add (himp (-1) (by omega)) (impW_mono g r.1 m rest (-1)) (by
                show (begS g rest (-1) || (nullS g rest && W2 (r.1, -1))) = true
                rw [← hE, h1, hb, h2, Bool.true_and, Bool.or_true]) h3 (mem_univQ.2 ⟨⟨by show (0 : Int) ≤ m; omega, by show (m : Int) ≤ 5; omega⟩, ⟨by show (-1 : Int) ≤ -1; omega, by show (-1 : Int) ≤ 3; omega⟩⟩) (seenW g k r a)
            cases he : e0 with
            | false =>
              have hfin := hext W2 more hC (fun _ h => h) fun e => by rw [he] at e; cases e
              refine wkdac0 _ ?_
              refine ⟨(a + 1, W2, more), ⟨by dsimp only; omega, hfin⟩, by dsimp only; omega, ?_⟩
              rw [stepa]
              exact Cov.ofn (id) rfl (by simp [go_sem, List.take_of_length_le, ren, ren1, ren2, okr, okr1, okr2, ChkT, ChkN, BlkN, nf, grammarC, ruleC]) (by simp [go_sem, List.take_of_length_le, ren, ren1, ren2, okr, okr1, okr2, ChkT, ChkN, BlkN, nf, grammarC, ruleC])
            | true =>
              cases hqb : W2 ((b : Int), -1) with
              | false =>
                have hfin := hext W2 more hC (fun _ h => h) fun e => by rw [hqb, Bool.and_false] at e; cases e
                rw [hqb] at hlb
                refine wkdac (And.intro @ruleC.eq_1 (And.intro @hb (And.intro @hbn (And.intro @hlb (@get_E _ _ _ _ hlb))))) _ ?_
                refine ⟨(a + 1, W2, more), ⟨by dsimp only; omega, hfin⟩, by dsimp only; omega, ?_⟩
                rw [stepa]
                exact Cov.ofn (id) rfl (by simp [go_sem, List.take_of_length_le, ren, ren1, ren2, okr, okr1, okr2, ChkT, ChkN, BlkN, nf, grammarC, ruleC, hb]) (by simp [go_sem, List.take_of_length_le, ren, ren1, ren2, okr, okr1, okr2, ChkT, ChkN, BlkN, nf, grammarC, ruleC, hb])
              | true =>
                cases hqm : W2 ((m : Int), -1) with
                | true =>
                  have hfin := hext W2 more hC (fun _ h => h) fun _ => hqm
                  rw [hqb] at hlb
                  rw [hqm] at hlm
                  refine wkdac (And.intro @ruleC.eq_1 (And.intro @hb (And.intro @hbn (And.intro @hlb (And.intro (@get_E _ _ _ _ hlb) (And.intro @hmn (And.intro @hlm (@get_E _ _ _ _ hlm)))))))) _ ?_
                  refine ⟨(a + 1, W2, more), ⟨by dsimp only; omega, hfin⟩, by dsimp only; omega, ?_⟩
                  rw [stepa]
                  exact Cov.ofn (id) rfl (by simp [go_sem, List.take_of_length_le, ren, ren1, ren2, okr, okr1, okr2, ChkT, ChkN, BlkN, nf, grammarC, ruleC, hb]) (by simp [go_sem, List.take_of_length_le, ren, ren1, ren2, okr, okr1, okr2, ChkT, ChkN, BlkN, nf, grammarC, ruleC, hb])
                | false =>
                  have hfin := hext (insI W2 ((m : Int), -1)) true (hadd he hqb hqm) (fun p hp => insI_le _ _ _ hp) fun _ => insI_self _ _
                  rw [hqb] at hlb
                  rw [hqm] at hlm
                  refine wkdac (And.intro @ruleC.eq_1 (And.intro @hb (And.intro @hbn (And.intro @hlb (And.intro (@get_E _ _ _ _ hlb) (And.intro @hmn (And.intro @hlm (And.intro (@get_E _ _ _ _ hlm) (@hlp))))))))) _ ?_
                  refine ⟨(a + 1, insI W2 ((m : Int), -1), true), ⟨by dsimp only; omega, hfin⟩, by dsimp only; omega, ?_⟩
                  dsimp only
                  rw [stepa, hri]
                  exact Cov.ofn (id) rfl (by simp [go_sem, List.take_of_length_le, ren, ren1, ren2, okr, okr1, okr2, ChkT, ChkN, BlkN, nf, grammarC, ruleC, hb]) (by simp [go_sem, List.take_of_length_le, ren, ren1, ren2, okr, okr1, okr2, ChkT, ChkN, BlkN, nf, grammarC, ruleC, hb])
      · have hae : a = r.2.length := by simp at h; omega
        subst hae
        rw [seenW_all g hrk] at hC
        refine wkdac0 _ ?_
        refine ⟨(k + 1, W, more), ⟨by dsimp only; omega, hC⟩, by dsimp only; omega, ?_⟩
        rw [stepk]
        exact Cov.ofn (id) rfl (by simp [go_sem, List.take_of_length_le, ren, ren1, ren2, okr, okr1, okr2, ChkT, ChkN, BlkN, nf, grammarC]) (by simp [go_sem, List.take_of_length_le, ren, ren1, ren2, okr, okr1, okr2, ChkT, ChkN, BlkN, nf, grammarC])
    · have hke : k = g.2.2.length := by simp at h; omega
      subst hke
      rw [List.take_length] at hC
      change ClI _ _ _ _ _ (impsW g) at hC
      refine wkdac0 _ ?_
      refine ⟨(W, more), ⟨hC.le _ hz0, hC.low, fun e => ?_⟩, ?_, ?_⟩
      · dsimp only at e ⊢
        subst e
        exact hC.done
      · dsimp only
        have hc := card_leQ W
        cases more with
        | true => have := hC.yes rfl; simp only [if_true]; omega
        | false => rw [(hC.no rfl).1]; simp
      exact Cov.ofn (id) rfl (by simp [go_sem, List.take_of_length_le, ren, ren1, ren2, okr, okr1, okr2, ChkT, ChkN, BlkN, nf, grammarC]) (by simp [go_sem, List.take_of_length_le, ren, ren1, ren2, okr, okr1, okr2, ChkT, ChkN, BlkN, nf, grammarC])
  · have h : more0 = false := by simpa using h
    have := hfin h
    subst this
    refine wkdac0 _ ?_
    refine OutF.mkn (xs := ?_) (nm [1, 2]) ?_ ?_ ?_ ?_ ?_ (by first | exact .inr rfl | exact .inl rfl)
    rotate_left
    · simp [go_sem, List.take_of_length_le] <;> with_reducible rfl
    · simp [go_sem, List.take_of_length_le, ren, ren1, ren2, okr, okr1, okr2, ChkN, BlkN, List.range_succ, nf]
    · simp [go_sem, List.take_of_length_le, ren, ren1, ren2, okr, okr1, okr2, ChkN, BlkN, List.range_succ, nf]
    · simp [go_sem, List.take_of_length_le, ren, ren1, ren2, okr, okr1, okr2, ChkN, BlkN, List.range_succ, nf]
    · rfl
end Go.Proofs.YtkolhcoeifghpaaGreat.En
end
section
namespace Go.Proofs.YtkolhcoeifghpaaGreat.En
open Go.RowKit
set_option linter.unusedSimpArgs false
set_option linter.unusedVariables false
def consecF (P : Program) : Nat → List Field → Option Nat
  | o, [] => some o
  | o, f :: fs => if f.offset = o then consecF P (o + P.cellsOf f.type) fs else none
def boolsT (P : Program) : Nat → TypeId → Bool
  | 0, _ => false
  | d + 1, t => match P.underlying t with
    | some .bool => P.cellsOf t == 1
    | some (.array n e) => boolsT P d e && P.cellsOf t == n * P.cellsOf e
    | some (.struct fs) => (fs.all fun f => f.name != "_") && (fs.toList.all fun f => boolsT P d f.type) && consecF P 0 fs.toList == some (P.cellsOf t)
    | _ => false
theorem mapM_some_map {α β : Type} {f : α → Option β} {g : α → β} : ∀ {l : List α}, (∀ x ∈ l, f x = some (g x)) → l.mapM f = some (l.map g)
  | [], _ => rfl
  | a :: l, h => by
    rw [List.mapM_cons, h a (.head _), mapM_some_map fun x hx => h x (.tail _ hx)]; rfl
theorem chunks_flat {α : Type} (c : Nat) : ∀ (n : Nat) (xs : List α), xs.length = n * c → ((List.range n).map fun i => (xs.drop (i * c)).take c).flatten = xs
  | 0, xs, h => by
    have : xs = [] := List.eq_nil_of_length_eq_zero (by simpa using h)
    subst this; rfl
  | n + 1, xs, h => by
    have h1 : (n + 1) * c = n * c + c := Nat.succ_mul n c
    have ih := chunks_flat c n (xs.drop c) (by rw [List.length_drop]; omega)
    rw [List.range_succ_eq_map, List.map_cons, List.map_map, List.flatten_cons, Nat.zero_mul, List.drop_zero]
    have e : (fun i => List.take c (List.drop (i * c) xs)) ∘ Nat.succ = fun i => List.take c (List.drop (i * c) (xs.drop c)) := by
      funext i
      simp only [Function.comp, List.drop_drop]
      congr 2
      rw [Nat.succ_mul]; omega
    rw [e, ih, List.take_append_drop]
theorem consec_flat {α : Type} {P : Program} {m : Nat} (xs : List α) : ∀ (fs : List Field) (o : Nat), consecF P o fs = some m → xs.length = m → (fs.map fun f => (xs.drop f.offset).take (P.cellsOf f.type)).flatten = xs.drop o
  | [], o, h, hx => by
    simp only [consecF, Option.some.injEq] at h
    rw [List.drop_eq_nil_of_le (by omega)]; rfl
  | f :: fs, o, h, hx => by
    simp only [consecF] at h
    split at h
    · rename_i hf
      rw [List.map_cons, List.flatten_cons, consec_flat xs fs _ h hx, hf, ← List.drop_drop, List.take_append_drop]
    · cases h
theorem consec_le {P : Program} {m : Nat} : ∀ (fs : List Field) (o : Nat), consecF P o fs = some m → o ≤ m ∧ ∀ f ∈ fs, f.offset + P.cellsOf f.type ≤ m
  | [], o, h => by
    simp only [consecF, Option.some.injEq] at h
    exact ⟨by omega, fun f hf => by cases hf⟩
  | f :: fs, o, h => by
    simp only [consecF] at h
    split at h
    · rename_i hf
      obtain ⟨h1, h2⟩ := consec_le fs _ h
      exact ⟨by omega, fun g hg => by
        rcases List.mem_cons.1 hg with e | e
        · subst e; omega
        · exact h2 g e⟩
    · cases h
theorem keyLits_bools {P : Program} : ∀ (d : Nat) (t : TypeId), boolsT P d t = true → ∀ xs : List Bool, xs.length = P.cellsOf t → P.keyLits d t (xs.map Value.bool) = some (xs.map Lit.bool)
  | 0, t, h => by simp [boolsT] at h
  | d + 1, t, h => fun xs hx => by
    unfold boolsT at h
    unfold Program.keyLits
    cases hu : P.underlying t with
    | none => simp [hu] at h
    | some k =>
      cases k <;> simp only [hu, Bool.false_eq_true, Bool.and_eq_true, beq_iff_eq] at h
      case bool =>
        rw [h] at hx
        match xs, hx with
        | [b], _ => rfl
      case array n e =>
        obtain ⟨h1, h2⟩ := h
        have hl : (xs.map Value.bool).length = P.cellsOf t := by simpa using hx
        simp only
        rw [if_pos hl, mapM_some_map (g := fun i => ((xs.drop (i * P.cellsOf e)).take (P.cellsOf e)).map Lit.bool) fun i hi => ?_]
        · rw [Option.map_some]
          congr 1
          have := congrArg (List.map Lit.bool) (chunks_flat (P.cellsOf e) n xs (by omega))
          rw [List.map_flatten, List.map_map] at this
          exact this
        · rw [← List.map_drop, ← List.map_take]
          have hi := List.mem_range.1 hi
          refine keyLits_bools d e h1 _ ?_
          rw [List.length_take, List.length_drop, hx, h2]
          have : (i + 1) * P.cellsOf e ≤ n * P.cellsOf e := Nat.mul_le_mul_right _ hi
          rw [Nat.succ_mul] at this
          omega
      case struct fs =>
        obtain ⟨⟨h1, h2⟩, h3⟩ := h
        have hl : (xs.map Value.bool).length = P.cellsOf t := by simpa using hx
        simp only
        rw [if_pos ⟨hl, h1⟩, mapM_some_map (g := fun f => ((xs.drop f.offset).take (P.cellsOf f.type)).map Lit.bool) fun f hf => ?_]
        · rw [Option.map_some]
          congr 1
          have := congrArg (List.map Lit.bool) (consec_flat xs fs.toList 0 h3 hx)
          rw [List.map_flatten, List.map_map] at this
          exact this
        · rw [← List.map_drop, ← List.map_take]
          have hle := (consec_le _ _ h3).2 f hf
          refine keyLits_bools d f.type (List.all_eq_true.1 h2 f hf) _ ?_
          rw [List.length_take, List.length_drop, hx]
          omega
theorem EqBs.mk {P : Program} {t : TypeId} {n : Nat} (hg : P.eqGuardType P.depth t = false) (hk : P.keyTypeAt 10000 t = true) (hb : boolsT P 10 t = true) (hn : P.cellsOf t = n)
    (hf : (match P.underlying t with | some (.struct _) | some (.array _ _) => true | _ => false) = true) : EqBs P t n := by
  refine .made hg fun xs ys w hx hy => ?_
  have hfm : ∀ xs : List Bool, xs.length = n → (Value.agg (boolA xs)).formed P t = true := fun xs hx => by
    simp only [Value.formed, boolA]
    split at hf
    · simp_all
    · simp_all
    · cases hf
  obtain ⟨r, hr, hi⟩ := run_equalIn_deep 0 10000 t hk w 10 10 (.agg (boolA xs)) (.agg (boolA ys)) (xs.map Lit.bool) (ys.map Lit.bool) (hfm xs hx) (hfm ys hy)
    (by simpa [Value.cells, boolA] using keyLits_bools 10 t hb xs (by omega)) (by simpa [Value.cells, boolA] using keyLits_bools 10 t hb ys (by omega))
  rw [Nat.zero_add] at hr
  rw [hr]
  congr 1
  rw [Bool.eq_iff_iff, hi, decide_eq_true_eq]
  refine ⟨fun h => ?_, fun h => by rw [h]⟩
  have := congrArg (List.map fun l => match l with | Lit.bool b => b | _ => false) h
  simpa [List.map_map, Function.comp_def] using this
end Go.Proofs.YtkolhcoeifghpaaGreat.En
end
section
namespace Go.Proofs.YtkolhcoeifghpaaGreat.En
open Go.RowKit
set_option linter.unusedSimpArgs false
set_option linter.unusedVariables false
set_option maxHeartbeats 4000000
def boolsH (H : Nat → Bool) : List Bool := (List.range 66).map H
def boxH (H : Nat → Bool) : List AV := (boolsH H).map fun b => .v (.bool b)
@[simp] theorem boolsH_len (H : Nat → Bool) : (boolsH H).length = 66 := by rw [boolsH, List.length_map, List.length_range]
@[simp] theorem boxH_len (H : Nat → Bool) : (boxH H).length = 66 := by rw [boxH, List.length_map, boolsH_len]
theorem boxH_v (H : Nat → Bool) : ∀ x ∈ boxH H, ∃ b, x = .v (.bool b) := fun x hx => by
  simp only [boxH, List.mem_map] at hx
  obtain ⟨b, _, rfl⟩ := hx
  exact ⟨b, rfl⟩
theorem boxH_cl (H : Nat → Bool) : ∀ x ∈ boxH H, cl1 x = true := fun x hx => by
  obtain ⟨b, rfl⟩ := boxH_v H x hx; rfl
@[simp] theorem boxH_clA (H : Nat → Bool) : (boxH H).all cl1 = true := List.all_eq_true.2 (boxH_cl H)
@[simp] theorem nfc_boxH (H : Nat → Bool) : nfc (boxH H) := fun x hx => by obtain ⟨b, rfl⟩ := boxH_v H x hx; rfl
@[simp] theorem boxH_flat (H : Nat → Bool) : ∀ x ∈ boxH H, flat x = true := fun x hx => by obtain ⟨b, rfl⟩ := boxH_v H x hx; rfl
@[simp] theorem boxH_all (H : Nat → Bool) : (boxH H).all flat = true := List.all_eq_true.2 (boxH_flat H)
@[simp] theorem boxH_take (H : Nat → Bool) : (boxH H).take 66 = boxH H := List.take_of_length_le (by simp)
@[simp] theorem boxH_drop (H : Nat → Bool) : (boxH H).drop 66 = [] := List.drop_of_length_le (by simp)
/-! tokensOf -/
theorem symbolOfA (x : Int) (h0 : -100 ≤ x) (h1 : x ≤ 100) : Pure Tryz.prog 53 [.v (.int .i64 x)] (.v (.int .i64 (-1 - x))) := by
  refine Pure.mk (rs := [.tmp 2]) (nt := 5) Tryz.func53 (by kernel_rfl) rfl rfl rfl (by simp) ?_
  simp only [sl]
  have hw : wr64 (-1 - x) = -1 - x := wr64_id (by omega) (by omega)
  refine wkc (@hw) _ ?_
  refine Out.mk (xs := ?_) ?_ ?_ (by first | exact .inr rfl | exact .inl rfl)
  rotate_left
  · simp [go_sem, List.take_of_length_le] <;> with_reducible rfl
  exact .v _
end Go.Proofs.YtkolhcoeifghpaaGreat.En
end
section
namespace Go.Proofs.YtkolhcoeifghpaaGreat.En
open Go.RowKit
set_option linter.unusedSimpArgs false
set_option linter.unusedVariables false
set_option maxHeartbeats 4000000
end Go.Proofs.YtkolhcoeifghpaaGreat.En
end
section
namespace Go.Proofs.YtkolhcoeifghpaaGreat.En
open Go.RowKit
set_option linter.unusedSimpArgs false
set_option linter.unusedVariables false
set_option maxHeartbeats 4000000
end Go.Proofs.YtkolhcoeifghpaaGreat.En
end
section
namespace Go.Proofs.YtkolhcoeifghpaaGreat.En
open Go.RowKit
set_option linter.unusedSimpArgs false
set_option linter.unusedVariables false
set_option maxHeartbeats 4000000
end Go.Proofs.YtkolhcoeifghpaaGreat.En
end
section
namespace Go.Proofs.YtkolhcoeifghpaaGreat.En
open Go.RowKit
set_option linter.unusedSimpArgs false
set_option linter.unusedVariables false
set_option maxHeartbeats 4000000
end Go.Proofs.YtkolhcoeifghpaaGreat.En
end
section
namespace Go.Proofs.YtkolhcoeifghpaaGreat.En
open Go.RowKit Go.Shelf Go.Sort
set_option linter.unusedSimpArgs false
set_option linter.unusedVariables false
set_option maxHeartbeats 4000000
abbrev ChT := Int × Int × Int
def lessC (a b : ChT) : Bool := if a.1 = b.1 then (if a.2.1 = b.2.1 then decide (a.2.2 < b.2.2) else decide (a.2.1 < b.2.1)) else decide (a.1 < b.1)
def sortCh (xs : List ChT) : List ChT := xs.mergeSort fun x y => !lessC y x
@[simp] theorem sortCh_len (xs : List ChT) : (sortCh xs).length = xs.length := by simp [sortCh]
end Go.Proofs.YtkolhcoeifghpaaGreat.En
end
section
namespace Go.Proofs.YtkolhcoeifghpaaGreat.En
open Go.RowKit
set_option linter.unusedSimpArgs false
set_option linter.unusedVariables false
set_option maxHeartbeats 4000000
@[simp] theorem nfr_nodesA (l : List Node3) : nfr (nodes l) := fun row hr x hx => by
  simp only [nodes, List.mem_map] at hr
  obtain ⟨c, _, rfl⟩ := hr
  simp only [nodeC, List.mem_cons, List.not_mem_nil, or_false] at hx
  rcases hx with rfl | rfl | rfl <;> rfl
end Go.Proofs.YtkolhcoeifghpaaGreat.En
end
section
namespace Go.Proofs.YtkolhcoeifghpaaGreat.En
open Go.RowKit
set_option linter.unusedSimpArgs false
set_option linter.unusedVariables false
set_option maxHeartbeats 4000000
end Go.Proofs.YtkolhcoeifghpaaGreat.En
end
section
namespace Go.Proofs.YtkolhcoeifghpaaGreat.En
open Go.RowKit
set_option linter.unusedSimpArgs false
set_option linter.unusedVariables false
set_option maxHeartbeats 4000000
def stAt (L : LrT) (s : Nat) : List Item3 := L.1.getD s []
def leadsX (g : GrammarT) (L : LrT) (s : Nat) (x : Int) : Int := (L.2.getD s []).getD (x + g.2.1).toNat (-1)
end Go.Proofs.YtkolhcoeifghpaaGreat.En
end
section
namespace Go.Proofs.YtkolhcoeifghpaaGreat.En
open Go.RowKit
set_option linter.unusedSimpArgs false
set_option linter.unusedVariables false
set_option maxHeartbeats 4000000
structure LrG (g : GrammarT) (L : LrT) : Prop where
  p : LrP g L
  ln : L.2.length = L.1.length
  few : L.1.length ≤ 60
theorem LrG.st {g : GrammarT} {L : LrT} (h : LrG g L) {s : Nat} (hs : s < L.1.length) : L.1[s]? = some (stAt L s) := by
  rw [stAt, List.getD_eq_getElem?_getD, List.getElem?_eq_getElem hs]; rfl
theorem LrG.ok {g : GrammarT} {L : LrT} (h : LrG g L) {s : Nat} (hs : s < L.1.length) : SortI (stAt L s) ∧ stAt L s ≠ [] ∧ (∀ z ∈ stAt L s, z ∈ univX (gX g)) ∧ (stAt L s).length ≤ 85 := h.p.ok.st _ (List.mem_of_getElem? (h.st hs))
end Go.Proofs.YtkolhcoeifghpaaGreat.En
end
section
namespace Go.Proofs.YtkolhcoeifghpaaGreat.En
open Go.RowKit
set_option linter.unusedSimpArgs false
set_option linter.unusedVariables false
set_option maxHeartbeats 4000000
theorem LrG.row {g : GrammarT} (hG : OkG g) {L : LrT} (h : LrG g L) {s : Nat} (hs : s < L.1.length) : L.2[s]? = some (L.2.getD s []) ∧ ((L.2.getD s []).length : Int) = g.1 + g.2.1 := by
  have hs2 : s < L.2.length := by rw [h.ln]; exact hs
  have e : L.2[s]? = some (L.2.getD s []) := by rw [List.getD_eq_getElem?_getD, List.getElem?_eq_getElem hs2]; rfl
  refine ⟨e, ?_⟩
  rw [(h.p.row s _ _ (h.st hs) e).1]
  exact symsX_len hG
end Go.Proofs.YtkolhcoeifghpaaGreat.En
end
section
namespace Go.Proofs.YtkolhcoeifghpaaGreat.En
open Go.RowKit
set_option linter.unusedSimpArgs false
set_option linter.unusedVariables false
set_option maxHeartbeats 4000000
theorem leadsG (g : GrammarT) (hG : OkG g) (L : LrT) (hL : LrG g L) (s : Nat) (hs : s < L.1.length) (x : Int) (hx0 : -g.2.1 ≤ x) (hx1 : x < g.1) : Pure Tryz.prog 52 [.ag (grammarC g), .ag (lrC L), .v (.int .i64 s), .v (.int .i64 x)] (.v (.int .i64 (leadsX g L s x))) := by
  have hN1 := hG.n1
  have hT1 := hG.t1
  obtain ⟨hrow, hrl⟩ := hL.row hG hs
  have hld : leadsX g L s x = (L.2.getD s []).getD (x + g.2.1).toNat (-1) := rfl
  generalize leadsX g L s x = e at hld ⊢
  generalize L.2.getD s [] = row at hrow hrl hld
  have hs2 : s < L.2.length := (List.getElem?_eq_some_iff.1 hrow).1
  obtain ⟨i, hi1, hil, hi2⟩ : ∃ i : Nat, x + g.2.1 = (i : Int) ∧ i < row.length ∧ (x + g.2.1).toNat = i := ⟨(x + g.2.1).toNat, by omega, by omega, by omega⟩
  have hei : row[i]? = some row[i] := List.getElem?_eq_getElem hil
  rw [hi2, List.getD_eq_getElem?_getD, hei] at hld
  change e = row[i] at hld
  rw [← hld] at hei
  have hw : wr64 (x + g.2.1) = (i : Int) := by rw [hi1]; exact wr64_id (by omega) (by omega)
  refine Pure.mk (rs := [.tmp 8]) (nt := 20) Tryz.func52 (by kernel_rfl) rfl rfl rfl (by simp) ?_
  simp only [sl, grammarC, lrC]
  refine wkdsc0 _ ?_
  (refine Holds.any mixed ?_ ?_; (· kernel_rfl))
  refine wkdsc (And.intro @hs2 (And.intro @hrow (And.intro (@get_E _ _ _ _ hrow) (And.intro @intsC.eq_1 (And.intro @hw (And.intro @hil (And.intro @hei (@get_E _ _ _ _ hei)))))))) _ ?_
  refine Out.mk (xs := ?_) ?_ ?_ (by first | exact .inr rfl | exact .inl rfl)
  rotate_left
  · simp [go_sem, List.take_of_length_le] <;> with_reducible rfl
  exact .v _
end Go.Proofs.YtkolhcoeifghpaaGreat.En
end
section
namespace Go.Proofs.YtkolhcoeifghpaaGreat.En
open Go.RowKit
set_option linter.unusedSimpArgs false
set_option linter.unusedVariables false
set_option maxHeartbeats 4000000
end Go.Proofs.YtkolhcoeifghpaaGreat.En
end
section
namespace Go.Proofs.YtkolhcoeifghpaaGreat.En
open Go.RowKit
set_option linter.unusedSimpArgs false
set_option linter.unusedVariables false
set_option maxHeartbeats 4000000
end Go.Proofs.YtkolhcoeifghpaaGreat.En
end
section
namespace Go.Proofs.YtkolhcoeifghpaaGreat.En
open Go.RowKit
set_option linter.unusedSimpArgs false
set_option linter.unusedVariables false
set_option maxHeartbeats 4000000
end Go.Proofs.YtkolhcoeifghpaaGreat.En
end
section
namespace Go.Proofs.YtkolhcoeifghpaaGreat.En
open Go.RowKit
set_option linter.unusedSimpArgs false
set_option linter.unusedVariables false
set_option maxHeartbeats 4000000
theorem itemss_snocD (xs : Sets3) (r : List Item3) : itemss xs ++ [[.im 3 (nodes r)]] = itemss (xs ++ [r]) := by simp [itemss, itemssC]
theorem intss_snocD (xs : List (List Int)) (r : List Int) : intss xs ++ [[.im 1 (ints r)]] = intss (xs ++ [r]) := by simp [intss, intsC]
theorem l15States (g : GrammarT) (hG : OkG g) : Pure Tryz.prog 32 [.ag (grammarC g)] (.tu [.ag [.im 1 (itemss (lrV g).1.1), .im 1 (intss (lrV g).1.2)], .v (.bool (lrV g).2)]) := by
  have hlen := hG.len
  have hlX : (gX g).2.2.length ≤ 17 := by rw [gX_len]; omega
  have cm := l15More g hG
  have c0 : Pure Tryz.prog 65 [.ag (grammarC (gX g)), .im 3 (nodes [itemN g.2.2.length 0 0])] (.im 3 (nodes (start0 g))) := l15Closed (gX g) hlX (ruleX_4 hG) [itemN g.2.2.length 0 0] (List.pairwise_singleton _ _) fun z hz => by
    rw [List.mem_singleton] at hz
    subst hz
    exact univX_item hG
  have hI0 := LrI.start hG
  generalize lrV g = V at hI0 ⊢
  refine Pure.mk (rs := [.cell 2 48, .tmp 3]) (nt := 98) Tryz.func32 (by kernel_rfl) rfl rfl rfl (by simp) ?_
  simp only [sl, grammarC]
  refine wkdc (@grammarC.eq_1) _ ?_
  first | refine GS.cc (cm) rfl rfl rfl rfl (by simp [go_sem, List.take_of_length_le, grammarC] <;> with_reducible rfl) rfl (by simp [go_sem, List.take_of_length_le, grammarC]) ?_ | refine Gd.cc (cm) rfl rfl rfl rfl (by simp [go_sem, List.take_of_length_le, grammarC] <;> with_reducible rfl) rfl (by simp [go_sem, List.take_of_length_le, grammarC]) ?_
  repeat' first | (refine Holds.condT ?_ ?_; (· (simp [go_sem, List.take_of_length_le, grammarC] <;> with_reducible rfl))) | (refine Holds.condF ?_ ?_; (· (simp [go_sem, List.take_of_length_le, grammarC] <;> with_reducible rfl))) | refine Holds.seq ?_ | refine Holds.skip ?_ | refine Holds.exit ?_ | refine Holds.ret ?_ | refine thenA_normal ?_ | refine thenA_exit ?_ | refine thenA_ret ?_ | refine inB_normal ?_ | refine inB_ret ?_ | refine inB_here ?_ | (refine inB_past ?_ ?_; (· exact rfl)) | refine Holds.reg ?_ | refine Holds.block ?_ | refine GS.nil ?_ | refine Gd.nil ?_ | (refine Holds.any mixed ?_ ?_; (· kernel_rfl)) | (refine GS.stepD 21 (s' := ?_) rfl ?_ ?_ ?_; rotate_left; (· exact rfl); (· (simp [go_sem, List.take_of_length_le, grammarC] <;> with_reducible rfl))) | (refine GS.skip ?_ ?_ ?_; (· exact rfl); (· exact rfl)) | (refine Gd.go (s' := ?_) ?_ ?_ ?_; rotate_left; (· exact rfl); (· (simp [go_sem, List.take_of_length_le, grammarC] <;> with_reducible rfl))) | (refine Gd.skip ?_ ?_ ?_; (· exact rfl); (· exact rfl)) | fail
  refine GS.frz [3] [(20, .im 3 (nodes [itemN g.2.2.length 0 0]))] (.cons rfl (Fz.all rfl rfl rfl rfl (nodes_ok _)) .nil) ?_
  first | refine GS.cc (c0) rfl rfl rfl rfl (by simp [go_sem, List.take_of_length_le, grammarC, frz] <;> with_reducible rfl) rfl (by simp [go_sem, List.take_of_length_le, grammarC, frz]) ?_ | refine Gd.cc (c0) rfl rfl rfl rfl (by simp [go_sem, List.take_of_length_le, grammarC, frz] <;> with_reducible rfl) rfl (by simp [go_sem, List.take_of_length_le, grammarC, frz]) ?_
  refine wkdc (And.intro @grammarC.eq_1 (@frz.eq_1)) _ ?_
  refine Holds.nir 5 0 1 25 1 rfl rfl rfl (by simp [go_sem]; rfl) ?_
  refine Holds.loop (ι := LrT) (fun L => ⟨[(1, .pb 0 3 0 0), (2, .pb 1 2 0 0), (4, .pb 2 3 0 0), (5, .pb 4 2 0 0), (6, .v (.int .i64 L.2.length))],
    [(5, ⟨25, 1, intss L.2⟩), (4, ⟨48, 2, [[.own 3 1 0 L.1.length, .own 5 1 0 L.2.length]]⟩), (3, ⟨94, 1, itemss L.1⟩), (2, ⟨31, 3, [grammarC (gX g)]⟩), (1, ⟨48, 2, [[.v (.slice none 0 0), .v (.slice none 0 0)]]⟩), (0, ⟨31, 3, [grammarC g]⟩)], 6⟩)
    (fun L => LrI g V L) (fun L => 61 - L.2.length) ([start0 g], []) hI0 ?_ ?_
  · exact Cov.ofn (nm [0, 1, 2, 4, 5, 6]) rfl (by simp [go_sem, List.take_of_length_le, ren, ren1, ren2, okr, okr1, okr2, ChkT, ChkN, BlkN, nf, grammarC, show intss [] = [] from rfl, itemss, itemssC]) (by simp [go_sem, List.take_of_length_le, ren, ren1, ren2, okr, okr1, okr2, ChkT, ChkN, BlkN, nf, grammarC, show intss [] = [] from rfl, itemss, itemssC])
  clear hI0 c0 cm
  rintro ⟨sts, gs⟩ hI
  have hle := hI.p.le
  have hfew := hI.few
  dsimp only at hle hfew ⊢
  have stepk : wr64 ((gs.length : Int) + 1) = ((gs.length + 1 : Nat) : Int) := wr64_id (by omega) (by omega)
  refine wkdc0 _ ?_
  refine Holds.cond rfl (fun h => ?_) (fun h => ?_)
  · have hlt : gs.length < sts.length := by simp at h; omega
    have hS : sts[gs.length]? = some sts[gs.length] := List.getElem?_eq_getElem hlt
    have hok := hI.p.ok.st _ (List.getElem_mem hlt)
    generalize sts[gs.length] = S at hS hok
    have hmany := fun h => hI.many hS h
    have hnext := fun h => hI.next hG hS h
    have hstok := hI.p.ok
    dsimp only at hmany hnext hstok
    have hn0 := hG.n0
    have hn1 := hG.n1
    have ht0 := hG.t0
    have ht1 := hG.t1
    have hwneg : wr64 (-g.2.1) = -g.2.1 := wr64_id (by omega) (by omega)
    have hsl := symsX_len hG
    refine wkdc (And.intro @hwneg (@grammarC.eq_1)) _ ?_
    refine Holds.niw 7 3 1 rfl ?_
    refine Holds.loop (ι := Nat × RowS) (fun i => ⟨[(1, .pb 0 3 0 0), (2, .pb 1 2 0 0), (4, .pb 2 3 0 0), (5, .pb 4 2 0 0), (6, .v (.int .i64 gs.length)), (7, .own 6 1 0 i.2.2.length), (8, .v (.int .i64 ((i.1 : Int) - g.2.1)))],
      [(6, ⟨3, 1, ints i.2.2⟩), (5, ⟨25, 1, intss gs⟩), (4, ⟨48, 2, [[.own 3 1 0 i.2.1.length, .own 5 1 0 gs.length]]⟩), (3, ⟨94, 1, itemss i.2.1⟩), (2, ⟨31, 3, [grammarC (gX g)]⟩), (1, ⟨48, 2, [[.v (.slice none 0 0), .v (.slice none 0 0)]]⟩), (0, ⟨31, 3, [grammarC g]⟩)], 7⟩)
      (fun i => i.1 ≤ (symsX g).length ∧ StsOk g i.2.1 ∧ i.2.1[gs.length]? = some S ∧ i.2.1.length ≤ 60 + i.1 ∧ i.2.2.length = i.1 ∧ rowR g S ((symsX g).drop i.1) i.2 = rowR g S (symsX g) (sts, [])) (fun i => (symsX g).length - i.1) (0, (sts, [])) ⟨Nat.zero_le _, hstok, hS, by dsimp only; omega, rfl, rfl⟩ ?_ ?_
    · exact Cov.ofn (id) rfl (by simp [go_sem, List.take_of_length_le, ren, ren1, ren2, okr, okr1, okr2, ChkT, ChkN, BlkN, nf, niw, grammarC, show ints [] = [] from rfl]) (by simp [go_sem, List.take_of_length_le, ren, ren1, ren2, okr, okr1, okr2, ChkT, ChkN, BlkN, nf, niw, grammarC, show ints [] = [] from rfl])
    generalize hR : rowR g S (symsX g) (sts, []) = R at hmany hnext
    clear hI hS hstok hfew hle hlt h hR
    rintro ⟨i, sts, row⟩ ⟨hi, hstok, hS, hfew, hrl, hrun⟩
    dsimp only at hi hstok hS hfew hrl hrun ⊢
    have hlt := (List.getElem?_eq_some_iff.1 hS).1
    have stepx : wr64 ((i : Int) - g.2.1 + 1) = ((i + 1 : Nat) : Int) - g.2.1 := by rw [wr64_id (by omega) (by omega)]; omega
    refine wkdc (@grammarC.eq_1) _ ?_
    refine Holds.cond rfl (fun h => ?_) (fun h => ?_)
    · have hil : i < (symsX g).length := by simp at h; omega
      have hx := symsX_at hil
      have hdr : (symsX g).drop i = ((i : Int) - g.2.1) :: (symsX g).drop (i + 1) := by
        rw [List.drop_eq_getElem_cons hil]
        congr 1
        have := List.getElem?_eq_getElem hil
        rw [hx] at this
        exact (Option.some.inj this).symm
      rw [hdr] at hrun
      change rowR g S ((symsX g).drop (i + 1)) (stepR g S (sts, row) ((i : Int) - g.2.1)) = R at hrun
      have cg := l15Goto (gX g) hlX (ruleX_4 hG) S hok.1 hok.2.2.1 hok.2.2.2 ((i : Int) - g.2.1)
      have hok2 := hstok.step hG (s := (sts, row)) S ((i : Int) - g.2.1)
      have hsd : stepR g S (sts, row) ((i : Int) - g.2.1) = if gotoX (gX g) S ((i : Int) - g.2.1) = [] then (sts, row ++ [-1]) else if plX sts (gotoX (gX g) S ((i : Int) - g.2.1)) = -1 then (sts ++ [gotoX (gX g) S ((i : Int) - g.2.1)], row ++ [(sts.length : Int)]) else (sts, row ++ [plX sts (gotoX (gX g) S ((i : Int) - g.2.1))]) := rfl
      have hpl := plX_cases hstok.nd (gotoX (gX g) S ((i : Int) - g.2.1))
      generalize stepR g S (sts, row) ((i : Int) - g.2.1) = s2 at hrun hok2 hsd
      generalize gotoX (gX g) S ((i : Int) - g.2.1) = to at cg hsd hpl
      have hbr : (row.length + 1) * 8 ≤ 140737488355328 := by omega
      have hbs : (sts.length + 1) * 24 ≤ 140737488355328 := by omega
      refine wkdsc (And.intro @hlt (And.intro @hS (And.intro (@get_E _ _ _ _ hS) (And.intro @itemssC.eq_1 (@grammarC.eq_1))))) _ ?_
      (refine Holds.any mixed ?_ ?_; (· kernel_rfl))
      refine wkdsc (And.intro @hlt (And.intro @hS (And.intro (@get_E _ _ _ _ hS) (And.intro @itemssC.eq_1 (@grammarC.eq_1))))) _ ?_
      first | refine GS.cc (cg) rfl rfl rfl rfl (by simp [go_sem, List.take_of_length_le, grammarC] <;> with_reducible rfl) rfl (by simp [go_sem, List.take_of_length_le, grammarC]) ?_ | refine Gd.cc (cg) rfl rfl rfl rfl (by simp [go_sem, List.take_of_length_le, grammarC] <;> with_reducible rfl) rfl (by simp [go_sem, List.take_of_length_le, grammarC]) ?_
      refine wkdc (@grammarC.eq_1) _ ?_
      refine Holds.loop (ι := Nat) (fun j => ⟨[(1, .pb 0 3 0 0), (2, .pb 1 2 0 0), (4, .pb 2 3 0 0), (5, .pb 4 2 0 0), (6, .v (.int .i64 gs.length)), (7, .own 6 1 0 row.length), (8, .v (.int .i64 ((i : Int) - g.2.1))), (9, .im 3 (nodes to)), (10, .v (.int .i64 (if to ∈ sts.take j then plX sts to else -1))), (49, .own 3 1 0 sts.length), (50, .v (.int .i64 sts.length)), (51, .v (.int .i64 j))],
        [(6, ⟨3, 1, ints row⟩), (5, ⟨25, 1, intss gs⟩), (4, ⟨48, 2, [[.own 3 1 0 sts.length, .own 5 1 0 gs.length]]⟩), (3, ⟨94, 1, itemss sts⟩), (2, ⟨31, 3, [grammarC (gX g)]⟩), (1, ⟨48, 2, [[.v (.slice none 0 0), .v (.slice none 0 0)]]⟩), (0, ⟨31, 3, [grammarC g]⟩)], 7⟩)
        (fun j => j ≤ sts.length) (fun j => sts.length - j) 0 (Nat.zero_le _) ?_ ?_
      · exact Cov.ofn (id) rfl (by simp [go_sem, List.take_of_length_le, ren, ren1, ren2, okr, okr1, okr2, ChkT, ChkN, BlkN, nf, grammarC]) (by simp [go_sem, List.take_of_length_le, ren, ren1, ren2, okr, okr1, okr2, ChkT, ChkN, BlkN, nf, grammarC])
      · intro j hj
        have stepj : wr64 ((j : Int) + 1) = ((j + 1 : Nat) : Int) := wr64_id (by omega) (by omega)
        refine wkdc0 _ ?_
        refine Holds.cond rfl (fun h => ?_) (fun h => ?_)
        · have hjl : j < sts.length := by simp at h; omega
          have hl : sts[j]? = some sts[j] := List.getElem?_eq_getElem hjl
          have hlo := hstok.st _ (List.getElem_mem hjl)
          generalize sts[j] = l at hl hlo
          have htk : sts.take (j + 1) = sts.take j ++ [l] := by rw [List.take_add_one, hl]; rfl
          have cs := l15SameItems l to (by have := hlo.2.2.2; omega)
          by_cases he : l = to
          · have hat : (if to ∈ sts.take (j + 1) then plX sts to else -1) = (j : Int) := by
              rw [if_pos (by rw [htk, he]; simp)]
              rcases hpl with ⟨h1, _⟩ | ⟨i2, h1, h2, h3⟩
              · exact absurd (by rw [← he]; exact List.mem_of_getElem? hl) h1
              · rw [h3]
                have : i2 = j := by
                  obtain ⟨_, e1⟩ := List.getElem?_eq_some_iff.1 h2
                  obtain ⟨_, e2⟩ := List.getElem?_eq_some_iff.1 hl
                  exact (List.getElem_inj hstok.nd).1 (by rw [e1, e2, he])
                rw [this]
            have hne : to ≠ [] := by rw [← he]; exact hlo.2.1
            rw [decide_eq_true he] at cs
            have hpos : (0 : Int) < (to.length : Int) := by have := List.length_pos_iff.2 hne; omega
            have hpos2 : 0 < to.length := by omega
            refine wkdc (And.intro @hl (And.intro (@get_E _ _ _ _ hl) (And.intro @hjl (And.intro @hpos (And.intro @hpos2 (And.intro @hne (@itemssC.eq_1))))))) _ ?_
            first | refine GS.cc (cs) rfl rfl rfl rfl (by simp [go_sem, List.take_of_length_le] <;> with_reducible rfl) rfl (by simp [go_sem, List.take_of_length_le]) ?_ | refine Gd.cc (cs) rfl rfl rfl rfl (by simp [go_sem, List.take_of_length_le] <;> with_reducible rfl) rfl (by simp [go_sem, List.take_of_length_le]) ?_
            refine wkdc0 _ ?_
            refine ⟨j + 1, by omega, by omega, ?_⟩
            rw [stepj, hat]
            exact Cov.ofn (id) rfl (by simp [go_sem, List.take_of_length_le, ren, ren1, ren2, okr, okr1, okr2, ChkT, ChkN, BlkN, nf, grammarC]) (by simp [go_sem, List.take_of_length_le, ren, ren1, ren2, okr, okr1, okr2, ChkT, ChkN, BlkN, nf, grammarC])
          · have hat : (if to ∈ sts.take (j + 1) then plX sts to else -1) = (if to ∈ sts.take j then plX sts to else -1) := by
              have : to ∈ sts.take (j + 1) ↔ to ∈ sts.take j := by
                rw [htk, List.mem_append, List.mem_singleton]
                exact ⟨fun h => h.elim id fun e => absurd e.symm he, .inl⟩
              simp only [this]
            generalize (if to ∈ sts.take j then plX sts to else -1) = at_ at hat ⊢
            rw [decide_eq_false he] at cs
            by_cases hne : to = []
            · have hpos : ¬ (0 : Int) < (to.length : Int) := by rw [hne]; simp
              have hpos2 : to.length = 0 := by rw [hne]; rfl
              refine wkdc (And.intro @hl (And.intro (@get_E _ _ _ _ hl) (And.intro @hjl (And.intro @hpos (And.intro @hpos2 (@itemssC.eq_1)))))) _ ?_
              refine ⟨j + 1, by omega, by omega, ?_⟩
              rw [stepj, hat]
              exact Cov.ofn (id) rfl (by simp [go_sem, List.take_of_length_le, ren, ren1, ren2, okr, okr1, okr2, ChkT, ChkN, BlkN, nf, grammarC]) (by simp [go_sem, List.take_of_length_le, ren, ren1, ren2, okr, okr1, okr2, ChkT, ChkN, BlkN, nf, grammarC])
            · have hpos : (0 : Int) < (to.length : Int) := by have := List.length_pos_iff.2 hne; omega
              have hpos2 : 0 < to.length := by omega
              refine wkdc (And.intro @hl (And.intro (@get_E _ _ _ _ hl) (And.intro @hjl (And.intro @hpos (And.intro @hpos2 (And.intro @hne (@itemssC.eq_1))))))) _ ?_
              first | refine GS.cc (cs) rfl rfl rfl rfl (by simp [go_sem, List.take_of_length_le] <;> with_reducible rfl) rfl (by simp [go_sem, List.take_of_length_le]) ?_ | refine Gd.cc (cs) rfl rfl rfl rfl (by simp [go_sem, List.take_of_length_le] <;> with_reducible rfl) rfl (by simp [go_sem, List.take_of_length_le]) ?_
              refine wkdc0 _ ?_
              refine ⟨j + 1, by omega, by omega, ?_⟩
              rw [stepj, hat]
              exact Cov.ofn (id) rfl (by simp [go_sem, List.take_of_length_le, ren, ren1, ren2, okr, okr1, okr2, ChkT, ChkN, BlkN, nf, grammarC]) (by simp [go_sem, List.take_of_length_le, ren, ren1, ren2, okr, okr1, okr2, ChkT, ChkN, BlkN, nf, grammarC])
        · have hje : j = sts.length := by simp at h; omega
          subst hje
          have hat : (if to ∈ sts.take sts.length then plX sts to else -1) = plX sts to := by
            rw [List.take_length]
            split
            · rfl
            · rename_i hn
              rcases hpl with ⟨_, h1⟩ | ⟨i2, _, h2, _⟩
              · exact h1.symm
              · exact absurd (List.mem_of_getElem? h2) hn
          rw [hat]
          by_cases hne : to = []
          · have hpos : ¬ (0 : Int) < (to.length : Int) := by rw [hne]; simp
            have hpos2 : to.length = 0 := by rw [hne]; rfl
            have hm1 : plX sts to = -1 := by
              rcases hpl with ⟨_, h1⟩ | ⟨i2, _, h2, _⟩
              · exact h1
              · exact absurd hne (hstok.st _ (List.mem_of_getElem? h2)).2.1
            rw [if_pos hne] at hsd
            subst hsd
            rw [hm1]
            refine wkdc (And.intro @hpos (And.intro @hpos2 (@hbr))) _ ?_
            refine ⟨(i + 1, (sts, row ++ [-1])), ⟨by dsimp only; omega, hok2, hS, by dsimp only; omega, by simp [hrl], hrun⟩, by dsimp only; omega, ?_⟩
            rw [stepx]
            exact Cov.ofn (nm [0, 1, 2, 3, 4, 5, 9]) rfl (by simp [go_sem, List.take_of_length_le, ren, ren1, ren2, okr, okr1, okr2, ChkT, ChkN, BlkN, nf, grammarC, ints_snoc]) (by simp [go_sem, List.take_of_length_le, ren, ren1, ren2, okr, okr1, okr2, ChkT, ChkN, BlkN, nf, grammarC, ints_snoc])
          · have hpos : (0 : Int) < (to.length : Int) := by have := List.length_pos_iff.2 hne; omega
            have hpos2 : 0 < to.length := by omega
            rw [if_neg hne] at hsd
            rcases hpl with ⟨_, hm1⟩ | ⟨i2, h1, h2, h3⟩
            · rw [if_pos hm1] at hsd
              subst hsd
              rw [hm1]
              refine wkdc (And.intro @hpos (And.intro @hpos2 (And.intro @hne (And.intro @hbr (@hbs))))) _ ?_
              refine ⟨(i + 1, (sts ++ [to], row ++ [(sts.length : Int)])), ⟨by dsimp only; omega, hok2, by dsimp only; rw [List.getElem?_append_left hlt]; exact hS, by simp; omega, by simp [hrl], hrun⟩, by dsimp only; omega, ?_⟩
              rw [stepx]
              exact Cov.ofn (nm [0, 1, 2, 9, 4, 5, 12]) rfl (by simp [go_sem, List.take_of_length_le, ren, ren1, ren2, okr, okr1, okr2, ChkT, ChkN, BlkN, nf, grammarC, ints_snoc, itemss_snocD]) (by simp [go_sem, List.take_of_length_le, ren, ren1, ren2, okr, okr1, okr2, ChkT, ChkN, BlkN, nf, grammarC, ints_snoc, itemss_snocD])
            · have hm2 : ¬ plX sts to = -1 := by omega
              have hm3 : ¬ (i2 : Int) < 0 := by omega
              rw [if_neg hm2, h3] at hsd
              subst hsd
              rw [h3]
              refine wkdc (And.intro @hpos (And.intro @hpos2 (And.intro @hne (And.intro @hbr (@hm3))))) _ ?_
              refine ⟨(i + 1, (sts, row ++ [(i2 : Int)])), ⟨by dsimp only; omega, hok2, hS, by dsimp only; omega, by simp [hrl], hrun⟩, by dsimp only; omega, ?_⟩
              rw [stepx]
              exact Cov.ofn (nm [0, 1, 2, 3, 4, 5, 9]) rfl (by simp [go_sem, List.take_of_length_le, ren, ren1, ren2, okr, okr1, okr2, ChkT, ChkN, BlkN, nf, grammarC, ints_snoc]) (by simp [go_sem, List.take_of_length_le, ren, ren1, ren2, okr, okr1, okr2, ChkT, ChkN, BlkN, nf, grammarC, ints_snoc])
    · have hie : i = (symsX g).length := by simp at h; omega
      subst hie
      rw [List.drop_length] at hrun
      change (sts, row) = R at hrun
      subst hrun
      dsimp only at hmany hnext
      have hbg : (gs.length + 1) * 24 ≤ 140737488355328 := by omega
      refine Holds.frz [6] [(7, .im 1 (ints row))] (.cons rfl (Fz.all rfl rfl (by simp) rfl (ints_cl _)) .nil) ?_
      by_cases h60 : 60 < sts.length
      · rw [hmany h60]
        have h60i : (60 : Int) < (sts.length : Int) := by omega
        refine wkdc (And.intro @frz.eq_1 (And.intro @hbg (And.intro @h60 (@h60i)))) _ ?_
        refine Out.mk (xs := ?_) ?_ ?_ (by first | exact .inr rfl | exact .inl rfl)
        rotate_left
        · simp [go_sem, List.take_of_length_le] <;> with_reducible rfl
        exact Fz.tuL (.cons (Fz.agL (.cons (Fz.nl _) (.cons (Fz.nl _) .nil))) (.cons (.v _) .nil))
      · have h60i : ¬ (60 : Int) < (sts.length : Int) := by omega
        refine wkdc (And.intro @frz.eq_1 (And.intro @hbg (And.intro @h60 (@h60i)))) _ ?_
        refine ⟨(sts, gs ++ [row]), hnext h60, by dsimp only; rw [List.length_append, List.length_singleton]; omega, ?_⟩
        rw [stepk]
        exact Cov.ofn (nm [0, 1, 2, 3, 4, 9]) rfl (by simp [go_sem, List.take_of_length_le, ren, ren1, ren2, okr, okr1, okr2, ChkT, ChkN, BlkN, nf, grammarC, intss_snocD]) (by simp [go_sem, List.take_of_length_le, ren, ren1, ren2, okr, okr1, okr2, ChkT, ChkN, BlkN, nf, grammarC, intss_snocD])
  · rw [hI.end_ (by dsimp only; simp at h; omega)]
    refine wkdc0 _ ?_
    refine Out.mk (xs := ?_) ?_ ?_ (by first | exact .inr rfl | exact .inl rfl)
    rotate_left
    · simp [go_sem, List.take_of_length_le] <;> with_reducible rfl
    exact Fz.tuL (.cons (Fz.agL (.cons (Fz.all rfl rfl (by simp) rfl (itemss_ok _)) (.cons (Fz.all rfl rfl (by simp) rfl (intss_ok _)) .nil))) (.cons (.v _) .nil))
end Go.Proofs.YtkolhcoeifghpaaGreat.En
end
section
namespace Go.Proofs.YtkolhcoeifghpaaGreat.En
open Go.RowKit
set_option linter.unusedSimpArgs false
set_option linter.unusedVariables false
set_option maxHeartbeats 4000000
noncomputable def statesX (g : GrammarT) : LrT × Bool := if goodG g = true then lrV g else (([], []), false)
theorem lrRun_no (g : GrammarT) : ∀ (n : Nat) (L : LrT), (lrRun g n L).2 = false → lrRun g n L = (([], []), false)
  | 0, L, _ => rfl
  | n + 1, L, h => by
    cases hS : L.1[L.2.length]? with
    | none => simp only [lrRun, hS] at h; cases h
    | some S =>
      simp only [lrRun, hS] at h ⊢
      split
      · rfl
      · rename_i hn
        rw [if_neg hn] at h
        exact lrRun_no g n _ h
theorem statesX_len (g : GrammarT) : (statesX g).1.1.length ≤ 60 ∧ (∀ e ∈ (statesX g).1.1, e.length ≤ 85) ∧ (statesX g).1.2.length ≤ 60 ∧ (∀ e ∈ (statesX g).1.2, e.length ≤ 10) ∧ wLr (statesX g).1 ≤ 100000 := by
  have key : ∀ L : LrT, L.1.length ≤ 60 → (∀ e ∈ L.1, e.length ≤ 85) → L.2.length ≤ 60 → (∀ e ∈ L.2, e.length ≤ 10) → L.1.length ≤ 60 ∧ (∀ e ∈ L.1, e.length ≤ 85) ∧ L.2.length ≤ 60 ∧ (∀ e ∈ L.2, e.length ≤ 10) ∧ wLr L ≤ 100000 := fun L a b c d => by
    refine ⟨a, b, c, d, ?_⟩
    have h1 := wtL_bound (w := wItemS) (c := 255) (xs := L.1) fun x hx => by
      have := b x hx
      rw [wItemS, show wNode = fun _ => 3 from funext fun _ => rfl, wtL_const]
      omega
    have h2 := wtL_bound (w := wIntS) (c := 10) (xs := L.2) fun x hx => by
      have := d x hx
      rw [wIntS, wtL_w1]
      omega
    rw [wLr]
    omega
  by_cases hg : goodG g = true
  · have hG := goodG_ok hg
    rw [statesX, if_pos hg]
    cases h : (lrV g).2 with
    | true =>
      obtain ⟨h1, h2, h3⟩ := lrV_ok hG h
      refine key _ h3 (fun e he => (h1.ok.st e he).2.2.2) (by omega) fun e he => ?_
      obtain ⟨i, hi⟩ := List.mem_iff_getElem?.1 he
      have hlt := (List.getElem?_eq_some_iff.1 hi).1
      have hr := h1.row i _ e (List.getElem?_eq_getElem (by omega)) hi
      have := symsX_len hG
      have := hG.n1
      have := hG.t1
      have := hr.1
      omega
    | false =>
      rw [show lrV g = (([], []), false) from lrRun_no g 61 _ h]
      exact key _ (by simp) (by simp) (by simp) (by simp)
  · rw [statesX, if_neg hg]
    exact key _ (by simp) (by simp) (by simp) (by simp)
theorem specStates (g : GrammarT) (hx : g.2.2.length < 4611686018427387904) (hs : ∀ e ∈ g.2.2, e.2.length < 4611686018427387904) : Pure Tryz.prog 60 [.ag (grammarC g)] (.tu [.ag (lrC (statesX g).1), .v (.bool (statesX g).2)]) := by
  have cg := specGoodG g hx hs
  unfold statesX
  refine Pure.mk (rs := [.cell 2 48, .tmp 3]) (nt := 12) Tryz.func60 (by kernel_rfl) rfl rfl rfl (by simp) ?_
  simp only [sl, grammarC]
  refine wkc0 _ ?_
  cases hg : goodG g with
  | false =>
    rw [hg] at cg
    simp only [Bool.false_eq_true, if_false]
    refine GS.cc (cg) rfl rfl rfl rfl (by simp [go_sem, List.take_of_length_le, grammarC] <;> with_reducible rfl) rfl (by simp [go_sem, List.take_of_length_le, grammarC]) ?_
    refine wkc0 _ ?_
    refine Out.mk (xs := ?_) ?_ ?_ (by first | exact .inr rfl | exact .inl rfl)
    rotate_left
    · simp [go_sem, List.take_of_length_le] <;> with_reducible rfl
    exact Fz.tuL (.cons (Fz.agL (.cons (Fz.nl _) (.cons (Fz.nl _) .nil))) (.cons (.v _) .nil))
  | true =>
    rw [hg] at cg
    simp only [if_true]
    have cl := l15States g (goodG_ok hg)
    refine GS.cc (cg) rfl rfl rfl rfl (by simp [go_sem, List.take_of_length_le, grammarC] <;> with_reducible rfl) rfl (by simp [go_sem, List.take_of_length_le, grammarC]) ?_
    refine wkc (@grammarC.eq_1) _ ?_
    generalize lrV g = V at cl ⊢
    refine GS.cc (cl) rfl rfl rfl rfl (by simp [go_sem, List.take_of_length_le, grammarC] <;> with_reducible rfl) rfl (by simp [go_sem, List.take_of_length_le, grammarC]) ?_
    refine wkc0 _ ?_
    refine Out.mk (xs := ?_) ?_ ?_ (by first | exact .inr rfl | exact .inl rfl)
    rotate_left
    · simp [go_sem, List.take_of_length_le] <;> with_reducible rfl
    exact Fz.tuL (.cons (Fz.agL (.cons (.im _ _) (.cons (.im _ _) .nil))) (.cons (.v _) .nil))
end Go.Proofs.YtkolhcoeifghpaaGreat.En
end
section
namespace Go.Proofs.YtkolhcoeifghpaaGreat.En
open Go.RowKit
set_option linter.unusedSimpArgs false
set_option linter.unusedVariables false
set_option maxHeartbeats 4000000
end Go.Proofs.YtkolhcoeifghpaaGreat.En
end
section
namespace Go.Proofs.YtkolhcoeifghpaaGreat.En
open Go.RowKit
set_option linter.unusedSimpArgs false
set_option linter.unusedVariables false
set_option maxHeartbeats 4000000
theorem l15SameLr (a b : LrT) (h0 : a.2.length = a.1.length) (h1 : a.1.length ≤ 60) (h2 : ∀ e ∈ a.1, e.length ≤ 85) (h3 : ∀ e ∈ a.2, e.length ≤ 10) : Pure Tryz.prog 91 [.ag (lrC a), .ag (lrC b)] (.v (.bool (decide (a = b)))) := by
  refine Pure.mk (rs := [.tmp 4]) (nt := 55) Tryz.func91 (by kernel_rfl) rfl rfl rfl (by simp) ?_
  simp only [sl, lrC]
  by_cases e1 : a.1.length = b.1.length
  · have e1i : ((a.1.length : Int) != (b.1.length : Int)) = false := by simp [e1]
    by_cases e2 : a.2.length = b.2.length
    · have e2i : ((a.2.length : Int) != (b.2.length : Int)) = false := by simp [e2]
      refine wkdc (And.intro @e1i (And.intro @e2i (@lrC.eq_1))) _ ?_
      refine Holds.loop (ι := Nat) (fun i => ⟨[(2, .pb 0 2 0 0), (3, .pb 1 2 0 0), (24, .v (.int .i64 a.1.length)), (25, .v (.int .i64 i))], [(1, ⟨48, 2, [lrC b]⟩), (0, ⟨48, 2, [lrC a]⟩)], 2⟩)
        (fun i => i ≤ a.1.length ∧ ∀ j, j < i → a.1[j]? = b.1[j]? ∧ a.2[j]? = b.2[j]?) (fun i => a.1.length - i) 0 ⟨Nat.zero_le _, fun j hj => absurd hj (Nat.not_lt_zero j)⟩ ?_ ?_
      · exact Cov.ofn (id) rfl (by simp [go_sem, List.take_of_length_le, ren, ren1, ren2, okr, okr1, okr2, ChkT, ChkN, BlkN, nf, lrC]) (by simp [go_sem, List.take_of_length_le, ren, ren1, ren2, okr, okr1, okr2, ChkT, ChkN, BlkN, nf, lrC])
      rintro i ⟨hi, hc⟩
      have stepi : wr64 ((i : Int) + 1) = ((i + 1 : Nat) : Int) := wr64_id (by omega) (by omega)
      refine wkdc0 _ ?_
      refine Holds.cond rfl (fun h => ?_) (fun h => ?_)
      · have hlt : i < a.1.length := by simp at h; omega
        have hlb : i < b.1.length := by omega
        have hlt2 : i < a.2.length := by omega
        have hlb2 : i < b.2.length := by omega
        have hx : a.1[i]? = some a.1[i] := List.getElem?_eq_getElem hlt
        have hy : b.1[i]? = some b.1[i] := List.getElem?_eq_getElem hlb
        have hu : a.2[i]? = some a.2[i] := List.getElem?_eq_getElem hlt2
        have hv : b.2[i]? = some b.2[i] := List.getElem?_eq_getElem hlb2
        have hxl := h2 _ (List.getElem_mem hlt)
        have hul := h3 _ (List.getElem_mem hlt2)
        generalize a.1[i] = x at hx hxl
        generalize b.1[i] = y at hy
        generalize a.2[i] = u at hu hul
        generalize b.2[i] = v at hv
        have c1 := l15SameItems x y (by omega)
        have c2 := l1Same u v (by omega)
        refine wkdsc (@lrC.eq_1) _ ?_
        (refine Holds.any mixed ?_ ?_; (· kernel_rfl))
        refine wkdsc (And.intro @hlt (And.intro @hlb (And.intro @hlt2 (And.intro @hlb2 (And.intro @hx (And.intro @hy (And.intro (@get_E _ _ _ _ hx) (And.intro (@get_E _ _ _ _ hy) (And.intro @hu (And.intro @hv (And.intro (@get_E _ _ _ _ hu) (And.intro (@get_E _ _ _ _ hv) (And.intro @itemssC.eq_1 (And.intro @intsC.eq_1 (@lrC.eq_1))))))))))))))) _ ?_
        first | refine GS.cc (c1) rfl rfl rfl rfl (by simp [go_sem, List.take_of_length_le] <;> with_reducible rfl) rfl (by simp [go_sem, List.take_of_length_le]) ?_ | refine Gd.cc (c1) rfl rfl rfl rfl (by simp [go_sem, List.take_of_length_le] <;> with_reducible rfl) rfl (by simp [go_sem, List.take_of_length_le]) ?_
        by_cases exy : x = y
        · rw [decide_eq_true exy]
          refine wkdsc (And.intro @hlt (And.intro @hlb (And.intro @hlt2 (And.intro @hlb2 (And.intro @hx (And.intro @hy (And.intro (@get_E _ _ _ _ hx) (And.intro (@get_E _ _ _ _ hy) (And.intro @hu (And.intro @hv (And.intro (@get_E _ _ _ _ hu) (And.intro (@get_E _ _ _ _ hv) (And.intro @itemssC.eq_1 (And.intro @intsC.eq_1 (@lrC.eq_1))))))))))))))) _ ?_
          first | refine GS.cc (c2) rfl rfl rfl rfl (by simp [go_sem, List.take_of_length_le] <;> with_reducible rfl) rfl (by simp [go_sem, List.take_of_length_le]) ?_ | refine Gd.cc (c2) rfl rfl rfl rfl (by simp [go_sem, List.take_of_length_le] <;> with_reducible rfl) rfl (by simp [go_sem, List.take_of_length_le]) ?_
          by_cases euv : u = v
          · rw [decide_eq_true euv]
            refine wkdc0 _ ?_
            refine ⟨i + 1, ⟨by omega, fun j hj => ?_⟩, by omega, ?_⟩
            · by_cases e : j = i
              · subst e; rw [hx, hy, hu, hv, exy, euv]; exact ⟨rfl, rfl⟩
              · exact hc j (by omega)
            rw [stepi]
            exact Cov.ofn (id) rfl (by simp [go_sem, List.take_of_length_le, ren, ren1, ren2, okr, okr1, okr2, ChkT, ChkN, BlkN, nf, lrC]) (by simp [go_sem, List.take_of_length_le, ren, ren1, ren2, okr, okr1, okr2, ChkT, ChkN, BlkN, nf, lrC])
          · rw [decide_eq_false euv, decide_eq_false (show ¬ a = b by rintro rfl; rw [hu] at hv; cases hv; exact euv rfl)]
            refine wkdc0 _ ?_
            refine Out.mk (xs := ?_) ?_ ?_ (by first | exact .inr rfl | exact .inl rfl)
            rotate_left
            · simp [go_sem, List.take_of_length_le] <;> with_reducible rfl
            exact .v _
        · rw [decide_eq_false exy, decide_eq_false (show ¬ a = b by rintro rfl; rw [hx] at hy; cases hy; exact exy rfl)]
          refine wkdc0 _ ?_
          refine Out.mk (xs := ?_) ?_ ?_ (by first | exact .inr rfl | exact .inl rfl)
          rotate_left
          · simp [go_sem, List.take_of_length_le] <;> with_reducible rfl
          exact .v _
      · have hie : i = a.1.length := by simp at h; omega
        subst hie
        rw [decide_eq_true (show a = b from Prod.ext (List.ext_getElem? fun j => by
          by_cases hj : j < a.1.length
          · exact (hc j hj).1
          · rw [List.getElem?_eq_none (by omega), List.getElem?_eq_none (by omega)]) (List.ext_getElem? fun j => by
          by_cases hj : j < a.1.length
          · exact (hc j hj).2
          · rw [List.getElem?_eq_none (by omega), List.getElem?_eq_none (by omega)]))]
        refine wkdc0 _ ?_
        refine Out.mk (xs := ?_) ?_ ?_ (by first | exact .inr rfl | exact .inl rfl)
        rotate_left
        · simp [go_sem, List.take_of_length_le] <;> with_reducible rfl
        exact .v _
    · have e2i : ((a.2.length : Int) != (b.2.length : Int)) = true := by simp; omega
      rw [decide_eq_false (show ¬ a = b by rintro rfl; exact e2 rfl)]
      refine wkdc (And.intro @e1i (And.intro @e2i (@lrC.eq_1))) _ ?_
      refine Out.mk (xs := ?_) ?_ ?_ (by first | exact .inr rfl | exact .inl rfl)
      rotate_left
      · simp [go_sem, List.take_of_length_le] <;> with_reducible rfl
      exact .v _
  · have e1i : ((a.1.length : Int) != (b.1.length : Int)) = true := by simp; omega
    rw [decide_eq_false (show ¬ a = b by rintro rfl; exact e1 rfl)]
    refine wkdc (And.intro @e1i (@lrC.eq_1)) _ ?_
    refine Out.mk (xs := ?_) ?_ ?_ (by first | exact .inr rfl | exact .inl rfl)
    rotate_left
    · simp [go_sem, List.take_of_length_le] <;> with_reducible rfl
    exact .v _
end Go.Proofs.YtkolhcoeifghpaaGreat.En
end
section
namespace Go.Proofs.YtkolhcoeifghpaaGreat.En
open Go.RowKit
set_option linter.unusedSimpArgs false
set_option linter.unusedVariables false
set_option maxHeartbeats 4000000
noncomputable def askV (g : GrammarT) (L : LrT) (st : Int) : Bool := (statesX g).2 && (decide ((statesX g).1 = L) && inR st 0 ((L.1.length : Int) - 1))
theorem statesX_ok {g : GrammarT} (h : (statesX g).2 = true) : OkG g ∧ LrG g (statesX g).1 := by
  unfold statesX at h ⊢
  by_cases hg : goodG g = true
  · rw [if_pos hg] at h ⊢
    have hG := goodG_ok hg
    obtain ⟨h1, h2, h3⟩ := lrV_ok hG h
    exact ⟨hG, h1, h2, h3⟩
  · rw [if_neg hg] at h; cases h
theorem ask_ok {g : GrammarT} {L : LrT} {st : Int} (h : askV g L st = true) : OkG g ∧ LrG g L ∧ ∃ s : Nat, st = (s : Int) ∧ s < L.1.length := by
  unfold askV at h
  rw [Bool.and_eq_true, Bool.and_eq_true, decide_eq_true_iff] at h
  obtain ⟨h1, h2, h3⟩ := h
  obtain ⟨hG, hL⟩ := statesX_ok h1
  rw [h2] at hL
  have h4 : 0 ≤ st ∧ st ≤ (L.1.length : Int) - 1 := by simpa [inR] using h3
  exact ⟨hG, hL, st.toNat, by omega, by omega⟩
theorem l15Asked (g : GrammarT) (hx : g.2.2.length < 4611686018427387904) (hs : ∀ e ∈ g.2.2, e.2.length < 4611686018427387904) (L : LrT) (hL : L.1.length ≤ 1048576) (st : Int) : Pure Tryz.prog 46 [.ag (grammarC g), .ag (lrC L), .v (.int .i64 st)] (.v (.bool (askV g L st))) := by
  have cs := specStates g hx hs
  obtain ⟨k0, k1, k2, k3, _⟩ := statesX_len g
  have hln := fun h => (statesX_ok (g := g) h).2.ln
  unfold askV
  generalize statesX g = V at cs k0 k1 k2 k3 hln ⊢
  have hw : wr64 ((L.1.length : Int) - 1) = (L.1.length : Int) - 1 := wr64_id (by omega) (by omega)
  refine Pure.mk (rs := [.tmp 6]) (nt := 28) Tryz.func46 (by kernel_rfl) rfl rfl rfl (by simp) ?_
  simp only [sl, grammarC, lrC]
  refine wkc (And.intro @grammarC.eq_1 (@lrC.eq_1)) _ ?_
  cases hv : V.2 with
  | false =>
    rw [hv] at cs
    rw [Bool.false_and]
    refine GS.cc (cs) rfl rfl rfl rfl (by simp [go_sem, List.take_of_length_le, grammarC, lrC] <;> with_reducible rfl) rfl (by simp [go_sem, List.take_of_length_le, grammarC, lrC]) ?_
    refine wkc (And.intro @grammarC.eq_1 (@lrC.eq_1)) _ ?_
    refine Out.mk (xs := ?_) ?_ ?_ (by first | exact .inr rfl | exact .inl rfl)
    rotate_left
    · simp [go_sem, List.take_of_length_le] <;> with_reducible rfl
    exact .v _
  | true =>
    rw [hv] at cs
    rw [Bool.true_and]
    have cm := l15SameLr V.1 L (hln hv) k0 k1 k3
    refine GS.cc (cs) rfl rfl rfl rfl (by simp [go_sem, List.take_of_length_le, grammarC, lrC] <;> with_reducible rfl) rfl (by simp [go_sem, List.take_of_length_le, grammarC, lrC]) ?_
    refine wkc (And.intro @grammarC.eq_1 (@lrC.eq_1)) _ ?_
    refine GS.cc (cm) rfl rfl rfl rfl (by simp [go_sem, List.take_of_length_le, lrC] <;> with_reducible rfl) rfl (by simp [go_sem, List.take_of_length_le, lrC]) ?_
    by_cases he : V.1 = L
    · have ci := l1In st 0 ((L.1.length : Int) - 1)
      rw [decide_eq_true he, Bool.true_and]
      refine wkc (And.intro @grammarC.eq_1 (And.intro @lrC.eq_1 (@hw))) _ ?_
      refine GS.cc (ci) rfl rfl rfl rfl (by simp [go_sem, List.take_of_length_le] <;> with_reducible rfl) rfl (by simp [go_sem, List.take_of_length_le]) ?_
      refine wkc0 _ ?_
      refine Out.mk (xs := ?_) ?_ ?_ (by first | exact .inr rfl | exact .inl rfl)
      rotate_left
      · simp [go_sem, List.take_of_length_le] <;> with_reducible rfl
      exact .v _
    · rw [decide_eq_false he, Bool.false_and]
      refine wkc (And.intro @grammarC.eq_1 (@lrC.eq_1)) _ ?_
      refine Out.mk (xs := ?_) ?_ ?_ (by first | exact .inr rfl | exact .inl rfl)
      rotate_left
      · simp [go_sem, List.take_of_length_le] <;> with_reducible rfl
      exact .v _
end Go.Proofs.YtkolhcoeifghpaaGreat.En
end
section
namespace Go.Proofs.YtkolhcoeifghpaaGreat.En
open Go.RowKit
set_option linter.unusedSimpArgs false
set_option linter.unusedVariables false
set_option maxHeartbeats 4000000
theorem own1 (a b : List Item3) (ha : a.length ≤ 4000) : Pure Tryz.prog 95 [.im 3 (nodes a), .im 3 (nodes b)] (.v (.bool (decide (a = b)))) := by
  refine Pure.mk (rs := [.tmp 4]) (nt := 8) Tryz.func95 (by kernel_rfl) rfl rfl rfl (by simp) ?_
  simp only [sl]
  have c := equalItems a b ha
  refine wkc0 _ ?_
  refine GS.cc (c) rfl rfl rfl rfl (by simp [go_sem, List.take_of_length_le] <;> with_reducible rfl) rfl (by simp [go_sem, List.take_of_length_le]) ?_
  refine wkc0 _ ?_
  refine Out.mk (xs := ?_) ?_ ?_ (by first | exact .inr rfl | exact .inl rfl)
  rotate_left
  · simp [go_sem, List.take_of_length_le] <;> with_reducible rfl
  exact .v _
theorem own2 (a b : List Int) (ha : a.length ≤ 4000) : Pure Tryz.prog 97 [.im 1 (ints a), .im 1 (ints b)] (.v (.bool (decide (a = b)))) := by
  refine Pure.mk (rs := [.tmp 4]) (nt := 8) Tryz.func97 (by kernel_rfl) rfl rfl rfl (by simp) ?_
  simp only [sl]
  have c := equalInts a b (by omega)
  refine wkc0 _ ?_
  refine GS.cc (c) rfl rfl rfl rfl (by simp [go_sem, List.take_of_length_le] <;> with_reducible rfl) rfl (by simp [go_sem, List.take_of_length_le]) ?_
  refine wkc0 _ ?_
  refine Out.mk (xs := ?_) ?_ ?_ (by first | exact .inr rfl | exact .inl rfl)
  rotate_left
  · simp [go_sem, List.take_of_length_le] <;> with_reducible rfl
  exact .v _
theorem equalFuncItems (xs ys : List (List Item3)) (hx : xs.length ≤ 4000) (hs : ∀ e ∈ xs, e.length ≤ 4000) : Pure Tryz.prog 94 [.im 1 (itemss xs), .im 1 (itemss ys), .fn 95 []] (.v (.bool (decide (xs = ys)))) := by
  refine Pure.mk (rs := [.tmp 6]) (nt := 32) Tryz.func94 (by kernel_rfl) rfl rfl rfl (by simp) ?_
  simp only [sl]
  by_cases hl : xs.length = ys.length
  · have hl1 : ((xs.length : Int) != (ys.length : Int)) = false := by simp [hl]
    refine wkc (@hl1) _ ?_
    refine Holds.loop (ι := Nat) (fun i => ⟨[(1, .im 1 (itemss ys)), (2, .fn 95 []), (15, .im 1 (itemss xs)), (16, .v (.int .i64 xs.length)), (17, .v (.int .i64 i))], [], 0⟩)
      (fun i => i ≤ xs.length ∧ ∀ j, j < i → xs[j]? = ys[j]?) (fun i => xs.length - i) 0 ⟨Nat.zero_le _, fun j hj => absurd hj (Nat.not_lt_zero j)⟩ ?_ ?_
    · exact Cov.ofn (id) rfl (by simp [go_sem, List.take_of_length_le, ren, ren1, ren2, okr, okr1, okr2, ChkT, ChkN, BlkN, nf]) (by simp [go_sem, List.take_of_length_le, ren, ren1, ren2, okr, okr1, okr2, ChkT, ChkN, BlkN, nf])
    rintro i ⟨hi, hc⟩
    have stepi : wr64 ((i : Int) + 1) = ((i + 1 : Nat) : Int) := wr64_id (by omega) (by omega)
    refine wkc0 _ ?_
    refine Holds.cond rfl (fun h => ?_) (fun h => ?_)
    · have hlt : i < xs.length := by simp at h; omega
      have hlb : i < ys.length := by omega
      have hxa : xs[i]? = some xs[i] := List.getElem?_eq_getElem hlt
      have hxb : ys[i]? = some ys[i] := List.getElem?_eq_getElem hlb
      have c := own1 xs[i] ys[i] (hs _ (List.getElem_mem hlt))
      generalize xs[i] = x at hxa c
      generalize ys[i] = y at hxb c
      refine wkc (And.intro @hxa (And.intro (@get_E _ _ _ _ hxa) (And.intro @hxb (And.intro (@get_E _ _ _ _ hxb) (And.intro @hlt (And.intro @hlb (@itemssC.eq_1))))))) _ ?_
      refine GS.cc (c) rfl rfl rfl rfl (by simp [go_sem, List.take_of_length_le] <;> with_reducible rfl) rfl (by simp [go_sem, List.take_of_length_le]) ?_
      by_cases e : x = y
      · rw [decide_eq_true e]
        refine wkc0 _ ?_
        refine ⟨i + 1, ⟨by omega, fun j hj => ?_⟩, by omega, ?_⟩
        · by_cases e2 : j = i
          · subst e2; rw [hxa, hxb, e]
          · exact hc j (by omega)
        rw [stepi]
        exact Cov.ofn (id) rfl (by simp [go_sem, List.take_of_length_le, ren, ren1, ren2, okr, okr1, okr2, ChkT, ChkN, BlkN, nf]) (by simp [go_sem, List.take_of_length_le, ren, ren1, ren2, okr, okr1, okr2, ChkT, ChkN, BlkN, nf])
      · rw [decide_eq_false e, decide_eq_false (show ¬ xs = ys by rintro rfl; rw [hxa] at hxb; cases hxb; exact e rfl)]
        refine wkc0 _ ?_
        refine Out.mk (xs := ?_) ?_ ?_ (by first | exact .inr rfl | exact .inl rfl)
        rotate_left
        · simp [go_sem, List.take_of_length_le] <;> with_reducible rfl
        exact .v _
    · have hie : i = xs.length := by simp at h; omega
      subst hie
      rw [decide_eq_true (show xs = ys from List.ext_getElem? fun j => by
        by_cases hj : j < xs.length
        · exact hc j hj
        · rw [List.getElem?_eq_none (by omega), List.getElem?_eq_none (by omega)])]
      refine wkc0 _ ?_
      refine Out.mk (xs := ?_) ?_ ?_ (by first | exact .inr rfl | exact .inl rfl)
      rotate_left
      · simp [go_sem, List.take_of_length_le] <;> with_reducible rfl
      exact .v _
  · have hl1 : ((xs.length : Int) != (ys.length : Int)) = true := by simp; omega
    rw [decide_eq_false (show ¬ xs = ys by rintro rfl; exact hl rfl)]
    refine wkc (@hl1) _ ?_
    refine Out.mk (xs := ?_) ?_ ?_ (by first | exact .inr rfl | exact .inl rfl)
    rotate_left
    · simp [go_sem, List.take_of_length_le] <;> with_reducible rfl
    exact .v _
theorem equalFuncInts (xs ys : List (List Int)) (hx : xs.length ≤ 4000) (hs : ∀ e ∈ xs, e.length ≤ 4000) : Pure Tryz.prog 96 [.im 1 (intss xs), .im 1 (intss ys), .fn 97 []] (.v (.bool (decide (xs = ys)))) := by
  refine Pure.mk (rs := [.tmp 6]) (nt := 32) Tryz.func96 (by kernel_rfl) rfl rfl rfl (by simp) ?_
  simp only [sl]
  by_cases hl : xs.length = ys.length
  · have hl1 : ((xs.length : Int) != (ys.length : Int)) = false := by simp [hl]
    refine wkc (@hl1) _ ?_
    refine Holds.loop (ι := Nat) (fun i => ⟨[(1, .im 1 (intss ys)), (2, .fn 97 []), (15, .im 1 (intss xs)), (16, .v (.int .i64 xs.length)), (17, .v (.int .i64 i))], [], 0⟩)
      (fun i => i ≤ xs.length ∧ ∀ j, j < i → xs[j]? = ys[j]?) (fun i => xs.length - i) 0 ⟨Nat.zero_le _, fun j hj => absurd hj (Nat.not_lt_zero j)⟩ ?_ ?_
    · exact Cov.ofn (id) rfl (by simp [go_sem, List.take_of_length_le, ren, ren1, ren2, okr, okr1, okr2, ChkT, ChkN, BlkN, nf]) (by simp [go_sem, List.take_of_length_le, ren, ren1, ren2, okr, okr1, okr2, ChkT, ChkN, BlkN, nf])
    rintro i ⟨hi, hc⟩
    have stepi : wr64 ((i : Int) + 1) = ((i + 1 : Nat) : Int) := wr64_id (by omega) (by omega)
    refine wkc0 _ ?_
    refine Holds.cond rfl (fun h => ?_) (fun h => ?_)
    · have hlt : i < xs.length := by simp at h; omega
      have hlb : i < ys.length := by omega
      have hxa : xs[i]? = some xs[i] := List.getElem?_eq_getElem hlt
      have hxb : ys[i]? = some ys[i] := List.getElem?_eq_getElem hlb
      have c := own2 xs[i] ys[i] (hs _ (List.getElem_mem hlt))
      generalize xs[i] = x at hxa c
      generalize ys[i] = y at hxb c
      refine wkc (And.intro @hxa (And.intro (@get_E _ _ _ _ hxa) (And.intro @hxb (And.intro (@get_E _ _ _ _ hxb) (And.intro @hlt (And.intro @hlb (@intsC.eq_1))))))) _ ?_
      refine GS.cc (c) rfl rfl rfl rfl (by simp [go_sem, List.take_of_length_le] <;> with_reducible rfl) rfl (by simp [go_sem, List.take_of_length_le]) ?_
      by_cases e : x = y
      · rw [decide_eq_true e]
        refine wkc0 _ ?_
        refine ⟨i + 1, ⟨by omega, fun j hj => ?_⟩, by omega, ?_⟩
        · by_cases e2 : j = i
          · subst e2; rw [hxa, hxb, e]
          · exact hc j (by omega)
        rw [stepi]
        exact Cov.ofn (id) rfl (by simp [go_sem, List.take_of_length_le, ren, ren1, ren2, okr, okr1, okr2, ChkT, ChkN, BlkN, nf]) (by simp [go_sem, List.take_of_length_le, ren, ren1, ren2, okr, okr1, okr2, ChkT, ChkN, BlkN, nf])
      · rw [decide_eq_false e, decide_eq_false (show ¬ xs = ys by rintro rfl; rw [hxa] at hxb; cases hxb; exact e rfl)]
        refine wkc0 _ ?_
        refine Out.mk (xs := ?_) ?_ ?_ (by first | exact .inr rfl | exact .inl rfl)
        rotate_left
        · simp [go_sem, List.take_of_length_le] <;> with_reducible rfl
        exact .v _
    · have hie : i = xs.length := by simp at h; omega
      subst hie
      rw [decide_eq_true (show xs = ys from List.ext_getElem? fun j => by
        by_cases hj : j < xs.length
        · exact hc j hj
        · rw [List.getElem?_eq_none (by omega), List.getElem?_eq_none (by omega)])]
      refine wkc0 _ ?_
      refine Out.mk (xs := ?_) ?_ ?_ (by first | exact .inr rfl | exact .inl rfl)
      rotate_left
      · simp [go_sem, List.take_of_length_le] <;> with_reducible rfl
      exact .v _
  · have hl1 : ((xs.length : Int) != (ys.length : Int)) = true := by simp; omega
    rw [decide_eq_false (show ¬ xs = ys by rintro rfl; exact hl rfl)]
    refine wkc (@hl1) _ ?_
    refine Out.mk (xs := ?_) ?_ ?_ (by first | exact .inr rfl | exact .inl rfl)
    rotate_left
    · simp [go_sem, List.take_of_length_le] <;> with_reducible rfl
    exact .v _
theorem ownStatesG (g : GrammarT) (hx : g.2.2.length < 4611686018427387904) (hs : ∀ e ∈ g.2.2, e.2.length < 4611686018427387904) (L : LrT) : Pure Tryz.prog 50 [.ag (grammarC g), .ag (lrC L)] (.tu [.ag (lrC (statesX g).1), .v (.bool ((statesX g).2 && decide ((statesX g).1 = L)))]) := by
  have cg := implGoodG g hx hs
  obtain ⟨k0, k1, k2, k3, _⟩ := statesX_len g
  refine Pure.mk (rs := [.cell 4 48, .tmp 5]) (nt := 35) Tryz.func50 (by kernel_rfl) rfl rfl rfl (by simp) ?_
  simp only [sl, grammarC, lrC]
  refine wkc (And.intro @grammarC.eq_1 (@lrC.eq_1)) _ ?_
  cases hg : goodG g with
  | false =>
    rw [hg] at cg
    rw [show statesX g = (([], []), false) by rw [statesX, if_neg (by rw [hg]; simp)], Bool.false_and]
    refine GS.cc (cg) rfl rfl rfl rfl (by simp [go_sem, List.take_of_length_le, grammarC] <;> with_reducible rfl) rfl (by simp [go_sem, List.take_of_length_le, grammarC]) ?_
    refine wkc0 _ ?_
    refine Out.mk (xs := ?_) ?_ ?_ (by first | exact .inr rfl | exact .inl rfl)
    rotate_left
    · simp [go_sem, List.take_of_length_le] <;> with_reducible rfl
    exact Fz.tuL (.cons (Fz.agL (.cons (Fz.nl _) (.cons (Fz.nl _) .nil))) (.cons (.v _) .nil))
  | true =>
    rw [hg] at cg
    have cs := statesG g (goodG_ok hg)
    rw [show statesX g = lrV g by rw [statesX, if_pos hg]] at k0 k1 k2 k3 ⊢
    generalize lrV g = V at cs k0 k1 k2 k3 ⊢
    have c1 := equalFuncItems V.1.1 L.1 (by omega) (fun e he => by have := k1 e he; omega)
    have c2 := equalFuncInts V.1.2 L.2 (by omega) (fun e he => by have := k3 e he; omega)
    refine GS.cc (cg) rfl rfl rfl rfl (by simp [go_sem, List.take_of_length_le, grammarC] <;> with_reducible rfl) rfl (by simp [go_sem, List.take_of_length_le, grammarC]) ?_
    refine wkc (@grammarC.eq_1) _ ?_
    refine GS.fnn [] (cs) rfl rfl rfl rfl (by simp [go_sem, List.take_of_length_le, ren, ren1, ren2, okr, okr1, okr2, ChkN, BlkN, List.range_succ, nf, grammarC] <;> with_reducible rfl) (by simp [go_sem, List.take_of_length_le, ren, ren1, ren2, okr, okr1, okr2, ChkN, BlkN, List.range_succ, nf, grammarC]) (by simp [go_sem, List.take_of_length_le, ren, ren1, ren2, okr, okr1, okr2, ChkN, BlkN, List.range_succ, nf, grammarC]) (by simp [List.range_succ, lb]) (ChkN.toB (by simp [go_sem, List.take_of_length_le, ren, ren1, ren2, okr, okr1, okr2, ChkN, BlkN, List.range_succ, nf, grammarC])) (by decide) (by simp) rfl (.nfr (by simp) (.nfr (by simp) .nil)) (by simp [go_sem, List.take_of_length_le, ren, ren1, ren2, okr, okr1, okr2, ChkN, BlkN, List.range_succ, nf, grammarC] <;> with_reducible rfl) ?_
    repeat' first | (refine Holds.condT ?_ ?_; (· (simp [go_sem, List.take_of_length_le, grammarC] <;> with_reducible rfl))) | (refine Holds.condF ?_ ?_; (· (simp [go_sem, List.take_of_length_le, grammarC] <;> with_reducible rfl))) | refine Holds.seq ?_ | refine Holds.skip ?_ | refine Holds.exit ?_ | refine Holds.ret ?_ | refine thenA_normal ?_ | refine thenA_exit ?_ | refine thenA_ret ?_ | refine inB_normal ?_ | refine inB_ret ?_ | refine inB_here ?_ | (refine inB_past ?_ ?_; (· exact rfl)) | refine Holds.reg ?_ | refine Holds.block ?_ | refine GS.nil ?_ | (refine GS.stepD 18 (s' := ?_) rfl ?_ ?_ ?_; rotate_left; (· exact rfl); (· (simp [go_sem, List.take_of_length_le, grammarC] <;> with_reducible rfl))) | (refine GS.skip ?_ ?_ ?_; (· exact rfl); (· exact rfl)) | fail
    refine GS.frz [3, 4, 5] [(6, .pi (lrC V.1))] (.cons rfl (Fz.pbM rfl rfl rfl (.cons (fz_itemssD _ rfl rfl) (.cons (fz_intssO _ rfl rfl) .nil))) .nil) ?_
    refine wkc (And.intro @frz.eq_1 (@lrC.eq_1)) _ ?_
    refine GS.cc (c1) rfl rfl rfl rfl (by simp [go_sem, List.take_of_length_le] <;> with_reducible rfl) rfl (by simp [go_sem, List.take_of_length_le]) ?_
    obtain ⟨⟨A, B⟩, ok⟩ := V
    obtain ⟨A2, B2⟩ := L
    dsimp only
    by_cases e1 : A = A2
    · rw [decide_eq_true e1]
      refine wkc (@lrC.eq_1) _ ?_
      refine GS.cc (c2) rfl rfl rfl rfl (by simp [go_sem, List.take_of_length_le] <;> with_reducible rfl) rfl (by simp [go_sem, List.take_of_length_le]) ?_
      by_cases e2 : B = B2
      · rw [decide_eq_true e2, decide_eq_true (show (A, B) = (A2, B2) by rw [e1, e2])]
        cases ok with
        | true =>
          refine wkc (@lrC.eq_1) _ ?_
          refine Out.mk (xs := ?_) ?_ ?_ (by first | exact .inr rfl | exact .inl rfl)
          rotate_left
          · simp [go_sem, List.take_of_length_le] <;> with_reducible rfl
          exact Fz.tuL (.cons (Fz.agL (.cons (.im _ _) (.cons (.im _ _) .nil))) (.cons (.v _) .nil))
        | false =>
          refine wkc (@lrC.eq_1) _ ?_
          refine Out.mk (xs := ?_) ?_ ?_ (by first | exact .inr rfl | exact .inl rfl)
          rotate_left
          · simp [go_sem, List.take_of_length_le] <;> with_reducible rfl
          exact Fz.tuL (.cons (Fz.agL (.cons (.im _ _) (.cons (.im _ _) .nil))) (.cons (.v _) .nil))
      · rw [decide_eq_false e2, decide_eq_false (show ¬ (A, B) = (A2, B2) by intro e; cases e; exact e2 rfl)]
        cases ok with
        | true =>
          refine wkc (@lrC.eq_1) _ ?_
          refine Out.mk (xs := ?_) ?_ ?_ (by first | exact .inr rfl | exact .inl rfl)
          rotate_left
          · simp [go_sem, List.take_of_length_le] <;> with_reducible rfl
          exact Fz.tuL (.cons (Fz.agL (.cons (.im _ _) (.cons (.im _ _) .nil))) (.cons (.v _) .nil))
        | false =>
          refine wkc (@lrC.eq_1) _ ?_
          refine Out.mk (xs := ?_) ?_ ?_ (by first | exact .inr rfl | exact .inl rfl)
          rotate_left
          · simp [go_sem, List.take_of_length_le] <;> with_reducible rfl
          exact Fz.tuL (.cons (Fz.agL (.cons (.im _ _) (.cons (.im _ _) .nil))) (.cons (.v _) .nil))
    · rw [decide_eq_false e1, decide_eq_false (show ¬ (A, B) = (A2, B2) by intro e; cases e; exact e1 rfl)]
      cases ok with
      | true =>
        refine wkc (@lrC.eq_1) _ ?_
        refine Out.mk (xs := ?_) ?_ ?_ (by first | exact .inr rfl | exact .inl rfl)
        rotate_left
        · simp [go_sem, List.take_of_length_le] <;> with_reducible rfl
        exact Fz.tuL (.cons (Fz.agL (.cons (.im _ _) (.cons (.im _ _) .nil))) (.cons (.v _) .nil))
      | false =>
        refine wkc (@lrC.eq_1) _ ?_
        refine Out.mk (xs := ?_) ?_ ?_ (by first | exact .inr rfl | exact .inl rfl)
        rotate_left
        · simp [go_sem, List.take_of_length_le] <;> with_reducible rfl
        exact Fz.tuL (.cons (Fz.agL (.cons (.im _ _) (.cons (.im _ _) .nil))) (.cons (.v _) .nil))
end Go.Proofs.YtkolhcoeifghpaaGreat.En
end
section
namespace Go.Proofs.YtkolhcoeifghpaaGreat.En
open Go.RowKit
set_option linter.unusedSimpArgs false
set_option linter.unusedVariables false
set_option maxHeartbeats 4000000
theorem toItem (n : Node3) : Pure Tryz.prog 122 [.ag (nodeC n)] (.ag (nodeC n)) := by
  refine Pure.mk (rs := [.cell 2 97]) (nt := 14) Tryz.func122 rfl rfl rfl rfl (by simp) ?_
  simp only [sl, nodeC]
  refine wk0 _ ?_
  refine Out.mk (xs := ?_) ?_ ?_ (by first | exact .inr rfl | exact .inl rfl)
  rotate_left
  · simp [go_sem, List.take_of_length_le] <;> with_reducible rfl
  exact Fz.cl rfl
theorem toItemS (ns : List Node3) (hx : ns.length < 5864062014806) : Pure Tryz.prog 93 [.im 3 (nodes ns)] (.im 3 (nodes ns)) := by
  refine Pure.mk (rs := [.tmp 2]) (nt := 23) Tryz.func93 rfl rfl rfl rfl (by simp) ?_
  simp only [sl]
  refine wk (And.intro ((show (0:Int) ≤ (ns.length : Int) by omega)) (And.intro ((show (24:Int) * ns.length ≤ 281474976710656 by omega)) ((show (ns.length : Int) ≤ 281474976710656 by omega)))) _ ?_
  refine Holds.loop (ι := Nat) (fun i => ⟨[(0, .im 3 (nodes ns)), (3, .own 0 3 0 ns.length), (4, .v (.int .i64 i))], [(0, ⟨97, 3, half (nodes ns) [.v (.int .i64 0), .v (.int .i64 0), .v (.int .i64 0)] i⟩)], 1⟩) (fun i => i ≤ ns.length) (fun i => ns.length - i) 0 (Nat.zero_le _) ?_ ?_
  · exact Cov.of id (by simp [ChkT, okr, okr1, lk, ren, ren1]) (by simp [ChkB, lb, BlkC, half, nf])
  intro i hi
  refine wk0 _ ?_
  refine Holds.cond rfl (fun hl => ?_) (fun hl => ?_)
  · have hlt : i < ns.length := by simpa using hl
    have hxi : ns[i]? = some ns[i] := List.getElem?_eq_getElem hlt
    have hhi := half_get (nodes ns) [.v (.int .i64 0), .v (.int .i64 0), .v (.int .i64 0)] i (by simpa using hlt)
    have hhs := half_set (nodes ns) [.v (.int .i64 0), .v (.int .i64 0), .v (.int .i64 0)] i (by simpa using hlt) (nodeC ns[i]) (by simp [hxi])
    simp only [nodeC] at hhs
    refine wk (And.intro @hxi (And.intro @hlt (@nodeC.eq_1))) _ ?_
    refine GS.cc (toItem ns[i]) rfl rfl rfl rfl (by simp [go_sem, List.take_of_length_le, nodeC] <;> with_reducible rfl) rfl (by simp [go_sem, List.take_of_length_le, nodeC]) ?_
    refine wk (And.intro @hxi (And.intro @hlt (And.intro @hhi (And.intro @hhs (@nodeC.eq_1))))) _ ?_
    refine ⟨i + 1, by omega, by omega, ?_⟩
    rw [wr64_id (by omega) (by omega)]
    exact Cov.of id (by simp [ChkT, okr, okr1, lk, ren, ren1]) (by simp [ChkB, lb, BlkC]; exact .inl (half_ok (nodes_ok ns) (by simp [cl1])).nf)
  · have hle : i = ns.length := by
      have : ¬ i < ns.length := by simpa using hl
      omega
    subst hle
    rw [show half (nodes ns) [.v (.int .i64 0), .v (.int .i64 0), .v (.int .i64 0)] ns.length = nodes ns by have := half_all (nodes ns) [AV.v (.int .i64 0), .v (.int .i64 0), .v (.int .i64 0)]; rwa [nodes_len] at this]
    refine wk0 _ ?_
    refine Out.mk (xs := ?_) ?_ ?_ (by first | exact .inr rfl | exact .inl rfl)
    rotate_left
    · simp [go_sem, List.take_of_length_le] <;> with_reducible rfl
    exact Fz.all rfl rfl (by simp) rfl (nodes_ok ns)
theorem szItemS (xs : List Node3) (n : Int) (h0 : -1 ≤ n) (h1 : n ≤ 1048576) (hx : xs.length < 4611686018427387904) : Pure Tryz.prog 89 [.im 3 (nodes xs), .v (.int .i64 n)] (.v (.int .i64 (less n xs.length))) := by
  refine Pure.mk (rs := [.tmp 4]) (nt := 12) Tryz.func89 rfl rfl rfl rfl (by simp) ?_
  simp only [sl]
  have hw : wr64 (n - xs.length) = n - xs.length := wr64_id (by omega) (by omega)
  refine wk (@hw) _ ?_
  refine Holds.cond rfl (fun hl => ?_) (fun hl => ?_)
  · have : n - xs.length < 0 := by simpa using hl
    simp only [less, if_pos this]
    refine wk0 _ ?_
    refine Out.mk (xs := ?_) ?_ ?_ (by first | exact .inr rfl | exact .inl rfl)
    rotate_left
    · simp [go_sem, List.take_of_length_le] <;> with_reducible rfl
    exact .v _
  · have : ¬ n - xs.length < 0 := by simpa using hl
    simp only [less, if_neg this]
    refine wk0 _ ?_
    refine Out.mk (xs := ?_) ?_ ?_ (by first | exact .inr rfl | exact .inl rfl)
    rotate_left
    · simp [go_sem, List.take_of_length_le] <;> with_reducible rfl
    exact .v _
theorem toItemSO (l : List (Node3)) (h0 : l.length < 5864062014806) : Fn Tryz.prog 93 0 [.im 3 (nodes l)] [] (.own 0 3 0 l.length) 1 [(0, ⟨97, 3, nodes l⟩)] := by
  refine Fn.mk (rs := [.tmp 2]) (nt := 23) Tryz.func93 (by kernel_rfl) rfl rfl rfl (by simp) ?_
  simp only [sl]
  refine wk (And.intro ((show (0:Int) ≤ (l.length : Int) by omega)) (And.intro ((show (24:Int) * l.length ≤ 281474976710656 by omega)) ((show (l.length : Int) ≤ 281474976710656 by omega)))) _ ?_
  refine Holds.loop (ι := Nat) (fun i => ⟨[(0, .im 3 (nodes l)), (3, .own 0 3 0 l.length), (4, .v (.int .i64 i))], [(0, ⟨97, 3, half (nodes l) [.v (.int .i64 0), .v (.int .i64 0), .v (.int .i64 0)] i⟩)], 1⟩) (fun i => i ≤ l.length) (fun i => l.length - i) 0 (Nat.zero_le _) ?_ ?_
  · have hnf0 : nfr (List.replicate l.length ([.v (.int .i64 0), .v (.int .i64 0), .v (.int .i64 0)] : List AV)) := .rep (by simp [nf])
    exact Cov.ofn (id) rfl (by simp [go_sem, List.take_of_length_le, ren, ren1, ren2, okr, okr1, okr2, ChkT, ChkN, BlkN, nf, half, hnf0]) (by simp [go_sem, List.take_of_length_le, ren, ren1, ren2, okr, okr1, okr2, ChkT, ChkN, BlkN, nf, half, hnf0])
  intro i hi
  refine wk0 _ ?_
  refine Holds.cond rfl (fun hl => ?_) (fun hl => ?_)
  · have hlt : i < l.length := by simpa using hl
    have hxi : l[i]? = some l[i] := List.getElem?_eq_getElem hlt
    have hhi := half_get (nodes l) [.v (.int .i64 0), .v (.int .i64 0), .v (.int .i64 0)] i (by simpa using hlt)
    have hhs := half_set (nodes l) [.v (.int .i64 0), .v (.int .i64 0), .v (.int .i64 0)] i (by simpa using hlt) (nodeC l[i]) (by simp [hxi])
    have hnf : nfr (half (nodes l) [.v (.int .i64 0), .v (.int .i64 0), .v (.int .i64 0)] i) := nfr_half (by simp) (by simp [nf])
    have hnf1 : nfr (half (nodes l) [.v (.int .i64 0), .v (.int .i64 0), .v (.int .i64 0)] (i + 1)) := nfr_half (by simp) (by simp [nf])
    simp only [nodeC] at hhs
    refine wk (And.intro @hxi (And.intro @hlt (@nodeC.eq_1))) _ ?_
    refine GS.cc (toItem l[i]) rfl rfl rfl rfl (by simp [go_sem, List.take_of_length_le, nodeC] <;> with_reducible rfl) rfl (by simp [go_sem, List.take_of_length_le, nodeC]) ?_
    refine wk (And.intro @hxi (And.intro @hlt (And.intro @hhi (And.intro @hhs (@nodeC.eq_1))))) _ ?_
    refine ⟨i + 1, by omega, by omega, ?_⟩
    rw [wr64_id (by omega) (by omega)]
    exact Cov.ofn (id) rfl (by simp [go_sem, List.take_of_length_le, ren, ren1, ren2, okr, okr1, okr2, ChkT, ChkN, BlkN, nf, hnf, hnf1]) (by simp [go_sem, List.take_of_length_le, ren, ren1, ren2, okr, okr1, okr2, ChkT, ChkN, BlkN, nf, hnf, hnf1])
  · have hle : i = l.length := by
      have : ¬ i < l.length := by simpa using hl
      omega
    subst hle
    rw [show half (nodes l) [.v (.int .i64 0), .v (.int .i64 0), .v (.int .i64 0)] l.length = nodes l by have := half_all (nodes l) ([.v (.int .i64 0), .v (.int .i64 0), .v (.int .i64 0)] : List AV); rwa [show (nodes l).length = l.length by simp] at this]
    refine wk0 _ ?_
    refine OutF.mkn (xs := ?_) (nm [0]) ?_ ?_ ?_ ?_ ?_ (by first | exact .inr rfl | exact .inl rfl)
    rotate_left
    · simp [go_sem, List.take_of_length_le] <;> with_reducible rfl
    · simp [go_sem, List.take_of_length_le, ren, ren1, ren2, okr, okr1, okr2, ChkN, BlkN, List.range_succ, nf]
    · simp [go_sem, List.take_of_length_le, ren, ren1, ren2, okr, okr1, okr2, ChkN, BlkN, List.range_succ, nf]
    · simp [go_sem, List.take_of_length_le, ren, ren1, ren2, okr, okr1, okr2, ChkN, BlkN, List.range_succ, nf]
    · rfl
theorem toItemSS (ns : List (List Node3)) (hx : ns.length < 5864062014806) (hs : ∀ e ∈ ns, e.length < 5864062014806) : Pure Tryz.prog 48 [.im 1 (itemss ns)] (.im 1 (itemss ns)) := by
  refine Pure.mk (rs := [.tmp 2]) (nt := 23) Tryz.func48 (by kernel_rfl) rfl rfl rfl (by simp) ?_
  simp only [sl]
  refine wk (And.intro ((show (0:Int) ≤ (ns.length : Int) by omega)) (And.intro ((show (24:Int) * ns.length ≤ 281474976710656 by omega)) ((show (ns.length : Int) ≤ 281474976710656 by omega)))) _ ?_
  refine Holds.loop (ι := Nat) (fun i => ⟨[(0, .im 1 (itemss ns)), (3, .own 0 1 0 ns.length), (4, .v (.int .i64 i))], [(0, ⟨94, 1, half (itemss ns) [.v (.slice none 0 0)] i⟩)], 1⟩) (fun i => i ≤ ns.length) (fun i => ns.length - i) 0 (Nat.zero_le _) ?_ ?_
  · exact Cov.of id (by simp [ChkT, okr, okr1, lk, ren, ren1]) (by simp [ChkB, lb, BlkC, half, nf])
  intro i hi
  refine wk0 _ ?_
  refine Holds.cond rfl (fun hl => ?_) (fun hl => ?_)
  · have hlt : i < ns.length := by simpa using hl
    have hxi : ns[i]? = some ns[i] := List.getElem?_eq_getElem hlt
    have hhi := half_get (itemss ns) [.v (.slice none 0 0)] i (by simpa using hlt)
    have hhs := half_set (itemss ns) [.v (.slice none 0 0)] i (by simpa using hlt) (itemssC ns[i]) (by simp [hxi])
    simp only [itemssC] at hhs
    refine wk (And.intro @hxi (And.intro @hlt (@itemssC.eq_1))) _ ?_
    refine GS.cc (toItemS ns[i] (hs _ (List.getElem_mem hlt))) rfl rfl rfl rfl (by simp [go_sem, List.take_of_length_le, itemssC] <;> with_reducible rfl) rfl (by simp [go_sem, List.take_of_length_le, itemssC]) ?_
    refine wk (And.intro @hxi (And.intro @hlt (And.intro @hhi (And.intro @hhs (@itemssC.eq_1))))) _ ?_
    refine ⟨i + 1, by omega, by omega, ?_⟩
    rw [wr64_id (by omega) (by omega)]
    exact Cov.of id (by simp [ChkT, okr, okr1, lk, ren, ren1]) (by simp [ChkB, lb, BlkC]; exact .inl (half_ok (itemss_ok ns) (by simp [cl1])).nf)
  · have hle : i = ns.length := by
      have : ¬ i < ns.length := by simpa using hl
      omega
    subst hle
    rw [show half (itemss ns) [.v (.slice none 0 0)] ns.length = itemss ns by have := half_all (itemss ns) [AV.v (.slice none 0 0)]; rwa [itemss_len] at this]
    refine wk0 _ ?_
    refine Out.mk (xs := ?_) ?_ ?_ (by first | exact .inr rfl | exact .inl rfl)
    rotate_left
    · simp [go_sem, List.take_of_length_le] <;> with_reducible rfl
    exact Fz.all rfl rfl (by simp) rfl (itemss_ok ns)
def szIs (n : Int) : List (List Node3) → Int
  | [] => n
  | e :: es => if less n e.length < 0 then -1 else szIs (less n e.length) es
def szIsAll (n : Int) (es : List (List Node3)) : Int := if n - es.length < 0 then -1 else szIs (n - es.length) es
theorem szIs_in (es : List (List Node3)) : ∀ n : Int, -1 ≤ n → n ≤ 1048576 → -1 ≤ szIs n es ∧ szIs n es ≤ 1048576 := by
  induction es with
  | nil => intro n h0 h1; exact ⟨h0, h1⟩
  | cons e es ih =>
    intro n h0 h1
    unfold szIs
    split
    · omega
    · exact ih _ (less_in h1).1 (less_in h1).2
theorem szIsAll_in (es : List (List Node3)) {n : Int} (h0 : -1 ≤ n) (h1 : n ≤ 1048576) : -1 ≤ szIsAll n es ∧ szIsAll n es ≤ 1048576 := by
  unfold szIsAll
  split
  · omega
  · exact szIs_in es _ (by omega) (by omega)
theorem szItemSS (xs : List (List Node3)) (n : Int) (h0 : -1 ≤ n) (h1 : n ≤ 1048576) (hx : xs.length < 4611686018427387904) (hs : ∀ e ∈ xs, e.length < 4611686018427387904) : Pure Tryz.prog 44 [.im 1 (itemss xs), .v (.int .i64 n)] (.v (.int .i64 (szIsAll n xs))) := by
  refine Pure.mk (rs := [.tmp 4]) (nt := 27) Tryz.func44 (by kernel_rfl) rfl rfl rfl (by simp) ?_
  simp only [sl]
  have hw : wr64 (n - xs.length) = n - xs.length := wr64_id (by omega) (by omega)
  refine wk (@hw) _ ?_
  refine Holds.cond rfl (fun hl => ?_) (fun hl => ?_)
  · have : n - xs.length < 0 := by simpa using hl
    simp only [szIsAll, if_pos this]
    refine wk0 _ ?_
    refine Out.mk (xs := ?_) ?_ ?_ (by first | exact .inr rfl | exact .inl rfl)
    rotate_left
    · simp [go_sem, List.take_of_length_le] <;> with_reducible rfl
    exact .v _
  have hnn : ¬ n - xs.length < 0 := by simpa using hl
  simp only [szIsAll, if_neg hnn]
  refine wk0 _ ?_
  refine Holds.loop (ι := Nat × Int) (fun i => ⟨[(0, .im 1 (itemss xs)), (1, .v (.int .i64 i.2)), (5, .v (.int .i64 i.1))], [], 0⟩) (fun i => i.1 ≤ xs.length ∧ 0 ≤ i.2 ∧ i.2 ≤ 1048576 ∧ szIs i.2 (xs.drop i.1) = szIs (n - xs.length) xs) (fun i => xs.length - i.1) (0, n - xs.length) ⟨Nat.zero_le _, by simpa using hnn, by show n - (xs.length : Int) ≤ 1048576; omega, rfl⟩ ?_ ?_
  · exact Cov.of id (by simp [ChkT, okr, okr1, lk, ren, ren1]) (by simp [ChkB])
  rintro ⟨i, m⟩ ⟨hi, hm0, hm1, hsz⟩
  dsimp only at hi hm0 hm1 hsz ⊢
  refine wk0 _ ?_
  refine Holds.cond rfl (fun hl => ?_) (fun hl => ?_)
  · have hlt : i < xs.length := by simpa using hl
    have hxi : xs[i]? = some xs[i] := List.getElem?_eq_getElem hlt
    rw [List.drop_eq_getElem_cons hlt, szIs] at hsz
    refine wk (And.intro @hxi (@itemssC.eq_1)) _ ?_
    refine GS.cc (szItemS xs[i] m (by omega) hm1 (hs _ (List.getElem_mem hlt))) rfl rfl rfl rfl (by simp [go_sem, List.take_of_length_le, itemssC] <;> with_reducible rfl) rfl (by simp [go_sem, List.take_of_length_le, itemssC]) ?_
    refine wk0 _ ?_
    refine Holds.cond rfl (fun hl => ?_) (fun hl => ?_)
    · have h : less m xs[i].length < 0 := by simpa using hl
      rw [if_pos h] at hsz
      rw [← hsz]
      refine wk0 _ ?_
      refine Out.mk (xs := ?_) ?_ ?_ (by first | exact .inr rfl | exact .inl rfl)
      rotate_left
      · simp [go_sem, List.take_of_length_le] <;> with_reducible rfl
      exact .v _
    · have h : ¬ less m xs[i].length < 0 := by simpa using hl
      rw [if_neg h] at hsz
      refine wk0 _ ?_
      refine ⟨(i + 1, less m xs[i].length), ⟨hlt, by show (0:Int) ≤ _; omega, (less_in hm1).2, hsz⟩, by show xs.length - (i + 1) < xs.length - i; omega, ?_⟩
      rw [wr64_id (by omega) (by omega)]
      exact Cov.of id (by simp [ChkT, okr, okr1, lk, ren, ren1]) (by simp [ChkB])
  · have hle : i = xs.length := by
      have : ¬ i < xs.length := by simpa using hl
      omega
    subst hle
    rw [List.drop_length, szIs] at hsz
    rw [← hsz]
    refine wk0 _ ?_
    refine Out.mk (xs := ?_) ?_ ?_ (by first | exact .inr rfl | exact .inl rfl)
    rotate_left
    · simp [go_sem, List.take_of_length_le] <;> with_reducible rfl
    exact .v _
theorem toItemSSO (l : List (List Node3)) (h0 : l.length < 5864062014806) (h1 : ∀ q ∈ l, q.length < 5864062014806) : Fn Tryz.prog 48 0 [.im 1 (itemss l)] [] (.own 0 1 0 l.length) 1 [(0, ⟨94, 1, itemssO l⟩)] := by
  refine Fn.mk (rs := [.tmp 2]) (nt := 23) Tryz.func48 (by kernel_rfl) rfl rfl rfl (by simp) ?_
  simp only [sl]
  refine wk (And.intro ((show (0:Int) ≤ (l.length : Int) by omega)) (And.intro ((show (24:Int) * l.length ≤ 281474976710656 by omega)) ((show (l.length : Int) ≤ 281474976710656 by omega)))) _ ?_
  refine Holds.loop (ι := Nat) (fun i => ⟨[(0, .im 1 (itemss l)), (3, .own 0 1 0 l.length), (4, .v (.int .i64 i))], [(0, ⟨94, 1, half (itemssO l) [.v (.slice none 0 0)] i⟩)], 1⟩) (fun i => i ≤ l.length) (fun i => l.length - i) 0 (Nat.zero_le _) ?_ ?_
  · have hnf0 : nfr (List.replicate l.length ([.v (.slice none 0 0)] : List AV)) := .rep (by simp [nf])
    exact Cov.ofn (id) rfl (by simp [go_sem, List.take_of_length_le, ren, ren1, ren2, okr, okr1, okr2, ChkT, ChkN, BlkN, nf, half, hnf0]) (by simp [go_sem, List.take_of_length_le, ren, ren1, ren2, okr, okr1, okr2, ChkT, ChkN, BlkN, nf, half, hnf0])
  intro i hi
  refine wk0 _ ?_
  refine Holds.cond rfl (fun hl => ?_) (fun hl => ?_)
  · have hlt : i < l.length := by simpa using hl
    have hxi : l[i]? = some l[i] := List.getElem?_eq_getElem hlt
    have hhi := half_get (itemssO l) [.v (.slice none 0 0)] i (by simpa using hlt)
    have hhs := half_set (itemssO l) [.v (.slice none 0 0)] i (by simpa using hlt) (itemO l[i]) (by simp [hxi])
    have hnf : nfr (half (itemssO l) [.v (.slice none 0 0)] i) := nfr_half (by simp) (by simp [nf])
    have hnf1 : nfr (half (itemssO l) [.v (.slice none 0 0)] (i + 1)) := nfr_half (by simp) (by simp [nf])
    simp only [itemO] at hhs
    refine wk (And.intro @hxi (And.intro @hlt (@itemssC.eq_1))) _ ?_
    refine GS.fnn [] (toItemSO l[i] (h1 _ (List.getElem_mem hlt))) rfl rfl rfl rfl (by simp [go_sem, List.take_of_length_le, ren, ren1, ren2, okr, okr1, okr2, ChkN, BlkN, List.range_succ, nf, itemssC] <;> with_reducible rfl) (by simp [go_sem, List.take_of_length_le, ren, ren1, ren2, okr, okr1, okr2, ChkN, BlkN, List.range_succ, nf, itemssC]) (by simp [go_sem, List.take_of_length_le, ren, ren1, ren2, okr, okr1, okr2, ChkN, BlkN, List.range_succ, nf, itemssC]) (by simp [List.range_succ, lb]) (ChkN.toB (by simp [go_sem, List.take_of_length_le, ren, ren1, ren2, okr, okr1, okr2, ChkN, BlkN, List.range_succ, nf, itemssC])) (by decide) (by simp) rfl (.nfr (by simp) .nil) (by simp [go_sem, List.take_of_length_le, ren, ren1, ren2, okr, okr1, okr2, ChkN, BlkN, List.range_succ, nf, itemssC] <;> with_reducible rfl) ?_
    refine wk (And.intro @hxi (And.intro @hlt (And.intro @hhi (And.intro @hhs (@itemssC.eq_1))))) _ ?_
    refine ⟨i + 1, by omega, by omega, ?_⟩
    rw [wr64_id (by omega) (by omega)]
    refine Cov.trans ?_ (Cov.close 0 i 0 rfl (set_get hhi) rfl rfl rfl rfl (by first | rfl | simp) (by simp))
    simp only [rm, st, List.set_set, List.set_cons_zero, List.set_cons_succ, hhs]
    exact Cov.ofn (id) rfl (by simp [go_sem, List.take_of_length_le, ren, ren1, ren2, okr, okr1, okr2, ChkT, ChkN, BlkN, nf, hnf, hnf1]) (by simp [go_sem, List.take_of_length_le, ren, ren1, ren2, okr, okr1, okr2, ChkT, ChkN, BlkN, nf, hnf, hnf1])
  · have hle : i = l.length := by
      have : ¬ i < l.length := by simpa using hl
      omega
    subst hle
    rw [show half (itemssO l) [.v (.slice none 0 0)] l.length = itemssO l by have := half_all (itemssO l) ([.v (.slice none 0 0)] : List AV); rwa [show (itemssO l).length = l.length by simp] at this]
    refine wk0 _ ?_
    refine OutF.mkn (xs := ?_) (nm [0]) ?_ ?_ ?_ ?_ ?_ (by first | exact .inr rfl | exact .inl rfl)
    rotate_left
    · simp [go_sem, List.take_of_length_le] <;> with_reducible rfl
    · simp [go_sem, List.take_of_length_le, ren, ren1, ren2, okr, okr1, okr2, ChkN, BlkN, List.range_succ, nf]
    · simp [go_sem, List.take_of_length_le, ren, ren1, ren2, okr, okr1, okr2, ChkN, BlkN, List.range_succ, nf]
    · simp [go_sem, List.take_of_length_le, ren, ren1, ren2, okr, okr1, okr2, ChkN, BlkN, List.range_succ, nf]
    · rfl
theorem toLrO (x : LrT) (h0 : (x.1).length < 5864062014806) (h1 : ∀ q ∈ (x.1), q.length < 5864062014806) (h2 : (x.2).length < 5864062014806) (h3 : ∀ q ∈ (x.2), q.length < 35184372088832) : Fn Tryz.prog 20 0 [.ag (lrC x)] [] (.ag [.own 0 1 0 (x.1).length, .own 1 1 0 (x.2).length]) 2 [(0, ⟨94, 1, itemssO x.1⟩), (1, ⟨25, 1, intssO x.2⟩)] := by
  refine Fn.mk (rs := [.cell 2 48]) (nt := 13) Tryz.func20 (by kernel_rfl) rfl rfl rfl (by simp) ?_
  simp only [sl, lrC]
  refine wk0 _ ?_
  refine GS.fnn [] (toItemSSO x.1 h0 h1) rfl rfl rfl rfl (by simp [go_sem, List.take_of_length_le, ren, ren1, ren2, okr, okr1, okr2, ChkN, BlkN, List.range_succ, nf, lrC] <;> with_reducible rfl) (by simp [go_sem, List.take_of_length_le, ren, ren1, ren2, okr, okr1, okr2, ChkN, BlkN, List.range_succ, nf, lrC]) (by simp [go_sem, List.take_of_length_le, ren, ren1, ren2, okr, okr1, okr2, ChkN, BlkN, List.range_succ, nf, lrC]) (by simp [List.range_succ, lb]) (ChkN.toB (by simp [go_sem, List.take_of_length_le, ren, ren1, ren2, okr, okr1, okr2, ChkN, BlkN, List.range_succ, nf, lrC])) (by decide) (by simp) rfl (.nfr (by simp) .nil) (by simp [go_sem, List.take_of_length_le, ren, ren1, ren2, okr, okr1, okr2, ChkN, BlkN, List.range_succ, nf, lrC] <;> with_reducible rfl) ?_
  refine wk0 _ ?_
  refine GS.fnn [] (toIntSSO x.2 h2 h3) rfl rfl rfl rfl (by simp [go_sem, List.take_of_length_le, ren, ren1, ren2, okr, okr1, okr2, ChkN, BlkN, List.range_succ, nf, lrC] <;> with_reducible rfl) (by simp [go_sem, List.take_of_length_le, ren, ren1, ren2, okr, okr1, okr2, ChkN, BlkN, List.range_succ, nf, lrC]) (by simp [go_sem, List.take_of_length_le, ren, ren1, ren2, okr, okr1, okr2, ChkN, BlkN, List.range_succ, nf, lrC]) (by simp [List.range_succ, lb]) (ChkN.toB (by simp [go_sem, List.take_of_length_le, ren, ren1, ren2, okr, okr1, okr2, ChkN, BlkN, List.range_succ, nf, lrC])) (by decide) (by simp) rfl (.nfr (by simp) .nil) (by simp [go_sem, List.take_of_length_le, ren, ren1, ren2, okr, okr1, okr2, ChkN, BlkN, List.range_succ, nf, lrC] <;> with_reducible rfl) ?_
  refine wk0 _ ?_
  refine OutF.mkn (xs := ?_) (nm [3, 4]) ?_ ?_ ?_ ?_ ?_ (by first | exact .inr rfl | exact .inl rfl)
  rotate_left
  · simp [go_sem, List.take_of_length_le, lrC] <;> with_reducible rfl
  · simp [go_sem, List.take_of_length_le, ren, ren1, ren2, okr, okr1, okr2, ChkN, BlkN, List.range_succ, nf, lrC]
  · simp [go_sem, List.take_of_length_le, ren, ren1, ren2, okr, okr1, okr2, ChkN, BlkN, List.range_succ, nf, lrC]
  · simp [go_sem, List.take_of_length_le, ren, ren1, ren2, okr, okr1, okr2, ChkN, BlkN, List.range_succ, nf, lrC]
  · rfl
theorem toLr (x : LrT) (h0 : x.1.length < 5864062014806) (h1 : ∀ q ∈ x.1, q.length < 5864062014806) (h2 : x.2.length < 5864062014806) (h3 : ∀ q ∈ x.2, q.length < 35184372088832) : Pure Tryz.prog 20 [.ag (lrC x)] (.ag (lrC x)) := by
  have c1 := toItemSS x.1 h0 h1
  have c2 := toIntSS x.2 h2 h3
  refine Pure.mk (rs := [.cell 2 48]) (nt := 13) Tryz.func20 (by kernel_rfl) rfl rfl rfl (by simp) ?_
  simp only [sl, lrC]
  refine wk0 _ ?_
  refine GS.cc (c1) rfl rfl rfl rfl (by simp [go_sem, List.take_of_length_le] <;> with_reducible rfl) rfl (by simp [go_sem, List.take_of_length_le]) ?_
  refine wk0 _ ?_
  refine GS.cc (c2) rfl rfl rfl rfl (by simp [go_sem, List.take_of_length_le] <;> with_reducible rfl) rfl (by simp [go_sem, List.take_of_length_le]) ?_
  refine wk0 _ ?_
  refine Out.mk (xs := ?_) ?_ ?_ (by first | exact .inr rfl | exact .inl rfl)
  rotate_left
  · simp [go_sem, List.take_of_length_le] <;> with_reducible rfl
  exact Fz.cl rfl
def szLrF (n : Int) (x : LrT) : Int := if szIsAll n x.1 < 0 then -1 else szSsAll (szIsAll n x.1) x.2
theorem szLr (x : LrT) (n : Int) (g0 : -1 ≤ n) (g1 : n ≤ 1048576) (h0 : x.1.length < 5864062014806) (h1 : ∀ q ∈ x.1, q.length < 5864062014806) (h2 : x.2.length < 5864062014806) (h3 : ∀ q ∈ x.2, q.length < 35184372088832) : Pure Tryz.prog 18 [.ag (lrC x), .v (.int .i64 n)] (.v (.int .i64 (szLrF n x))) := by
  have c1 := szItemSS x.1 n g0 g1 (by omega) (fun e he => by have := h1 e he; omega)
  have hi := szIsAll_in x.1 g0 g1
  have c2 := szIntSS x.2 (szIsAll n x.1) hi.1 hi.2 (by omega) (fun e he => by have := h3 e he; omega)
  have hi2 := szSsAll_in x.2 hi.1 hi.2
  unfold szLrF
  generalize szIsAll n x.1 = a at c1 c2 hi hi2 ⊢
  generalize szSsAll a x.2 = b at c2 hi2 ⊢
  refine Pure.mk (rs := [.tmp 4]) (nt := 18) Tryz.func18 (by kernel_rfl) rfl rfl rfl (by simp) ?_
  simp only [sl, lrC]
  refine wk0 _ ?_
  refine GS.cc (c1) rfl rfl rfl rfl (by simp [go_sem, List.take_of_length_le] <;> with_reducible rfl) rfl (by simp [go_sem, List.take_of_length_le]) ?_
  refine wk0 _ ?_
  refine Holds.cond rfl (fun hl => ?_) (fun hl => ?_)
  · have h : a < 0 := by simpa using hl
    rw [if_pos h]
    refine wk0 _ ?_
    refine Out.mk (xs := ?_) ?_ ?_ (by first | exact .inr rfl | exact .inl rfl)
    rotate_left
    · simp [go_sem, List.take_of_length_le] <;> with_reducible rfl
    exact .v _
  have h : ¬ a < 0 := by simpa using hl
  rw [if_neg h]
  refine wk0 _ ?_
  refine GS.cc (c2) rfl rfl rfl rfl (by simp [go_sem, List.take_of_length_le] <;> with_reducible rfl) rfl (by simp [go_sem, List.take_of_length_le]) ?_
  refine wk0 _ ?_
  refine Holds.cond rfl (fun hl => ?_) (fun hl => ?_)
  · have h : b < 0 := by simpa using hl
    rw [show b = -1 by omega]
    refine wk0 _ ?_
    refine Out.mk (xs := ?_) ?_ ?_ (by first | exact .inr rfl | exact .inl rfl)
    rotate_left
    · simp [go_sem, List.take_of_length_le] <;> with_reducible rfl
    exact .v _
  refine wk0 _ ?_
  refine Out.mk (xs := ?_) ?_ ?_ (by first | exact .inr rfl | exact .inl rfl)
  rotate_left
  · simp [go_sem, List.take_of_length_le] <;> with_reducible rfl
  exact .v _
end Go.Proofs.YtkolhcoeifghpaaGreat.En
end
section
namespace Go.Proofs.YtkolhcoeifghpaaGreat.En
open Go.RowKit
set_option linter.unusedSimpArgs false
set_option linter.unusedVariables false
def lenS {α : Type} : List (List α) → Nat
  | [] => 0
  | e :: es => e.length + lenS es
theorem szIs_wt : ∀ (es : List (List Node3)) (n : Int), 0 ≤ szIs n es → (lenS es : Int) ≤ n
  | [], n, h => h
  | e :: es, n, h => by
    unfold szIs at h
    split at h
    · omega
    · rename_i hn
      have := szIs_wt es _ h
      unfold less at this hn
      simp only [lenS]
      split at this
      · rename_i g; rw [if_pos g] at hn; omega
      · omega
theorem szIs_le : ∀ (es : List (List Node3)) (n : Int), 0 ≤ szIs n es → szIs n es ≤ n
  | [], n, h => Int.le_refl _
  | e :: es, n, h => by
    unfold szIs at h ⊢
    split at h
    · omega
    · rename_i hn
      rw [if_neg hn]
      have := szIs_le es _ h
      unfold less at this hn ⊢
      split at this
      · rename_i g; rw [if_pos g] at hn; omega
      · rename_i g; rw [if_neg g]; omega
theorem szSs_wtD : ∀ (es : List (List Int)) (n : Int), 0 ≤ szSs n es → (lenS es : Int) ≤ n
  | [], n, h => h
  | e :: es, n, h => by
    unfold szSs at h
    split at h
    · omega
    · rename_i hn
      have := szSs_wtD es _ h
      unfold less at this hn
      simp only [lenS]
      split at this
      · rename_i g; rw [if_pos g] at hn; omega
      · omega
theorem wItemS_lenS : ∀ es : List (List Node3), wtL wItemS es = 3 * lenS es
  | [] => rfl
  | e :: es => by
    simp only [wtL, lenS, wItemS_lenS es, wItemS]
    rw [show wNode = fun _ => 3 from funext fun _ => rfl, wtL_const]
    omega
theorem wIntS_lenS : ∀ es : List (List Int), wtL wIntS es = lenS es
  | [] => rfl
  | e :: es => by
    simp only [wtL, lenS, wIntS_lenS es, wIntS, wtL_w1]
theorem szLrF_in {n : Int} {x : LrT} (h0 : -1 ≤ n) (h1 : n ≤ 1048576) : -1 ≤ szLrF n x ∧ szLrF n x ≤ 1048576 := by
  unfold szLrF
  have := szIsAll_in x.1 h0 h1
  split
  · omega
  · exact szSsAll_in _ this.1 this.2
theorem szLr_wt {n : Int} {x : LrT} (h : 0 ≤ szLrF n x) : (x.1.length : Int) ≤ n ∧ (x.2.length : Int) ≤ n ∧ (wLr x : Int) ≤ 4 * n := by
  unfold szLrF at h
  split at h
  · omega
  · rename_i g
    have g2 : 0 ≤ szIsAll n x.1 := by omega
    have key : szIsAll n x.1 ≤ n := by
      unfold szIsAll at g2 ⊢
      split at g2
      · omega
      · rename_i h1
        rw [if_neg h1]
        have := szIs_le x.1 (n - x.1.length) g2
        omega
    unfold szSsAll at h
    split at h
    · omega
    · have b2 := szSs_wtD x.2 _ h
      unfold szIsAll at g2
      split at g2
      · omega
      · have b1 := szIs_wt x.1 _ g2
        refine ⟨by omega, by omega, ?_⟩
        rw [wLr, wItemS_lenS, wIntS_lenS]
        omega
end Go.Proofs.YtkolhcoeifghpaaGreat.En
end
section
namespace Go.Proofs.YtkolhcoeifghpaaGreat.En
open Go.RowKit
set_option linter.unusedSimpArgs false
set_option linter.unusedVariables false
set_option maxHeartbeats 4000000
end Go.Proofs.YtkolhcoeifghpaaGreat.En
end
