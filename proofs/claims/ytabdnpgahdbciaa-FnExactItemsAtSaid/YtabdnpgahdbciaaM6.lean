/- Own words and walks of this claim, part 6: what the program's functions compute, for all the arguments that are named; no further conditions. -/
import Derived.Test.YtabdnpgahdbciaaM5
import Derived.Test.YtabdnpgahdbciaaM3
section
namespace Go.Proofs.Ytabdnpgahdbciaa.En
open Go.RowKit
set_option linter.unusedSimpArgs false
set_option linter.unusedVariables false
set_option maxHeartbeats 16000000
theorem symbolOfE (x : Int) (h0 : -100 ≤ x) (h1 : x ≤ 100) : Pure Try.prog 51 [.v (.int .i64 x)] (.v (.int .i64 (-1 - x))) := by
  refine Pure.mk (rs := [.tmp 2]) (nt := 5) Try.func51 (by kernel_rfl) rfl rfl rfl (by simp) ?_
  simp only [sl]
  have hw : wr64 (-1 - x) = -1 - x := wr64_id (by omega) (by omega)
  repeat' first
    | refine Holds.seq ?_
    | refine Holds.skip ?_
    | refine Holds.exit ?_
    | refine Holds.ret ?_
    | refine thenA_normal ?_
    | refine thenA_exit ?_
    | refine thenA_ret ?_
    | refine inB_normal ?_
    | refine inB_ret ?_
    | refine inB_here ?_
    | (refine inB_past ?_ ?_; (· exact rfl))
    | refine Holds.reg ?_
    | refine Holds.block ?_
    | refine GS.nil ?_
    | (refine GS.step (s' := ?_) ?_ ?_ ?_; rotate_left; (· exact rfl); (· (simp [go_sem, List.take_of_length_le, hw] <;> with_reducible rfl)))
    | (refine GS.skip ?_ ?_ ?_; (· exact rfl); (· exact rfl))
    | fail
  refine Out.mk (xs := ?_) ?_ ?_ (by first | exact .inr rfl | exact .inl rfl)
  rotate_left
  · simp [go_sem, List.take_of_length_le] <;> with_reducible rfl
  exact .v _
theorem implItems (g : GrammarT) (hg : goodG g = true) (w : List Int) (hw : w.length ≤ 10) (hwt : ∀ t ∈ w, 0 ≤ t ∧ t ≤ 3) : FnX (α := Sets3) Try.prog 36 [.ag (grammarC g), .im 1 (ints w)] (fun _ => .own 0 1 0 (w.length + 1)) 1 (fun sets => [(0, ⟨39, 1, itemssO sets⟩)]) (fun sets => Snd g w sets ∧ DoneI g w sets (w.length + 1)) := by
  have hG : g.2.2.length ≤ 16 := by simp only [goodG, Bool.and_eq_true, decide_eq_true_eq] at hg; exact hg.1.2
  have hg4 : ∀ r, r < g.2.2.length → (ruleN g r).2.length ≤ 4 := fun r hr => (good_r3 hg hr).2
  have hb0 := begin_ok g w
  have hbl := begF_len g 0 0 (List.replicate (w.length + 1) []) g.2.2.length
  refine FnX.mk (rs := [.tmp 4]) (nt := 164) Try.func36 (by kernel_rfl) rfl rfl rfl (by simp) ?_
  simp only [sl, grammarC]
  have hn1 : wr64 ((w.length : Int) + 1) = ((w.length + 1 : Nat) : Int) := wr64_id (by omega) (by omega)
  generalize hN : w.length + 1 = N at hn1 hb0 hbl ⊢
  have cb0 := beg1 g hG (List.replicate N []) 0 0 (by simp; omega) (by rw [at3, List.getD_eq_getElem?_getD, List.getElem?_replicate]; split <;> simp)
  rw [List.length_replicate] at cb0 hbl
  have hn0 : (0 : Int) ≤ (N : Int) := by omega
  have hn24 : (24 : Int) * N ≤ 281474976710656 := by omega
  have hnn : (N : Int) ≤ 281474976710656 := by omega
  have hO0 : List.replicate N ([.ow 56 3 []] : List AV) = itemssO (List.replicate N []) := by simp [itemssO, itemO, nodes]
  repeat' first
    | (refine Holds.condT ?_ ?_; (· (simp [go_sem, List.take_of_length_le, hn1, hn0, hn24, hnn, grammarC] <;> with_reducible rfl)))
    | (refine Holds.condF ?_ ?_; (· (simp [go_sem, List.take_of_length_le, hn1, hn0, hn24, hnn, grammarC] <;> with_reducible rfl)))
    | refine Holds.seq ?_
    | refine Holds.skip ?_
    | refine Holds.exit ?_
    | refine Holds.ret ?_
    | refine thenA_normal ?_
    | refine thenA_exit ?_
    | refine thenA_ret ?_
    | refine inB_normal ?_
    | refine inB_ret ?_
    | refine inB_here ?_
    | (refine inB_past ?_ ?_; (· exact rfl))
    | refine Holds.reg ?_
    | refine Holds.block ?_
    | refine GS.nil ?_
    | refine Gd.nil ?_
    | (refine Holds.any mixed ?_ ?_; (· kernel_rfl))
    | (refine GS.stepD 21 (s' := ?_) rfl ?_ ?_ ?_; rotate_left; (· exact rfl); (· (simp [go_sem, List.take_of_length_le, hn1, hn0, hn24, hnn, grammarC] <;> with_reducible rfl)))
    | (refine GS.skip ?_ ?_ ?_; (· exact rfl); (· exact rfl))
    | (refine Gd.go (s' := ?_) ?_ ?_ ?_; rotate_left; (· exact rfl); (· (simp [go_sem, List.take_of_length_le, hn1, hn0, hn24, hnn, grammarC] <;> with_reducible rfl)))
    | (refine Gd.skip ?_ ?_ ?_; (· exact rfl); (· exact rfl))
    | fail
  refine GS.cov (Cov.nilO (n := 1) (m := N) (e1 := 56) (z := 3) rfl) ?_
  simp only [st]
  rw [hO0]
  repeat' first
    | (refine Holds.condT ?_ ?_; (· (simp [go_sem, List.take_of_length_le, grammarC] <;> with_reducible rfl)))
    | (refine Holds.condF ?_ ?_; (· (simp [go_sem, List.take_of_length_le, grammarC] <;> with_reducible rfl)))
    | refine Holds.seq ?_
    | refine Holds.skip ?_
    | refine Holds.exit ?_
    | refine Holds.ret ?_
    | refine thenA_normal ?_
    | refine thenA_exit ?_
    | refine thenA_ret ?_
    | refine inB_normal ?_
    | refine inB_ret ?_
    | refine inB_here ?_
    | (refine inB_past ?_ ?_; (· exact rfl))
    | refine Holds.reg ?_
    | refine Holds.block ?_
    | refine GS.nil ?_
    | refine Gd.nil ?_
    | (refine Holds.any mixed ?_ ?_; (· kernel_rfl))
    | (refine GS.step (s' := ?_) ?_ ?_ ?_; rotate_left; (· exact rfl); (· (simp [go_sem, List.take_of_length_le, grammarC] <;> with_reducible rfl)))
    | (refine GS.skip ?_ ?_ ?_; (· exact rfl); (· exact rfl))
    | (refine Gd.go (s' := ?_) ?_ ?_ ?_; rotate_left; (· exact rfl); (· (simp [go_sem, List.take_of_length_le, grammarC] <;> with_reducible rfl)))
    | (refine Gd.skip ?_ ?_ ?_; (· exact rfl); (· exact rfl))
    | fail
  simp only [grammarC] at cb0
  refine GS.fnn [0, 3, 2, 1] (cb0) rfl rfl rfl rfl (by simp [go_sem, List.take_of_length_le, ren, ren1, ren2, okr, okr1, okr2, ChkN, BlkN, List.range_succ, nf] <;> with_reducible rfl) (by simp [go_sem, List.take_of_length_le, ren, ren1, ren2, okr, okr1, okr2, ChkN, BlkN, List.range_succ, nf]) (by simp [go_sem, List.take_of_length_le, ren, ren1, ren2, okr, okr1, okr2, ChkN, BlkN, List.range_succ, nf]) (by simp [List.range_succ, lb]) (ChkN.toB (by simp [go_sem, List.take_of_length_le, ren, ren1, ren2, okr, okr1, okr2, ChkN, BlkN, List.range_succ, nf])) (by decide) (by simp) rfl (.nfr (by simp [nf]) (.okw (by simp [okr, okr1]) (.okw (by simp [okr, okr1]) (.nfr (by simp) .nil)))) (by simp [go_sem, List.take_of_length_le, ren, ren1, ren2, okr, okr1, okr2, ChkN, BlkN, List.range_succ, nf] <;> with_reducible rfl) ?_
  generalize hB : begF g 0 0 (List.replicate N []) g.2.2.length = B at hb0 hbl ⊢
  obtain ⟨sets1, b1⟩ := B
  dsimp only at hb0 hbl ⊢
  repeat' first
    | (refine Holds.condT ?_ ?_; (· (simp [go_sem, List.take_of_length_le] <;> with_reducible rfl)))
    | (refine Holds.condF ?_ ?_; (· (simp [go_sem, List.take_of_length_le] <;> with_reducible rfl)))
    | refine Holds.seq ?_
    | refine Holds.skip ?_
    | refine Holds.exit ?_
    | refine Holds.ret ?_
    | refine thenA_normal ?_
    | refine thenA_exit ?_
    | refine thenA_ret ?_
    | refine inB_normal ?_
    | refine inB_ret ?_
    | refine inB_here ?_
    | (refine inB_past ?_ ?_; (· exact rfl))
    | refine Holds.reg ?_
    | refine Holds.block ?_
    | refine GS.nil ?_
    | refine Gd.nil ?_
    | (refine Holds.any mixed ?_ ?_; (· kernel_rfl))
    | (refine GS.step (s' := ?_) ?_ ?_ ?_; rotate_left; (· exact rfl); (· (simp [go_sem, List.take_of_length_le] <;> with_reducible rfl)))
    | (refine GS.skip ?_ ?_ ?_; (· exact rfl); (· exact rfl))
    | (refine Gd.go (s' := ?_) ?_ ?_ ?_; rotate_left; (· exact rfl); (· (simp [go_sem, List.take_of_length_le] <;> with_reducible rfl)))
    | (refine Gd.skip ?_ ?_ ?_; (· exact rfl); (· exact rfl))
    | fail
  refine Holds.loop (ι := Nat × Sets3) (fun i => ⟨[(1, .im 1 (ints w)), (2, .pb 0 3 0 0), (5, .pb 2 1 0 0), (6, .pb 3 1 0 0), (7, .fn 67 [.pb 0 3 0 0, .pb 3 1 0 0]), (26, .v (.int .i64 N)), (27, .v (.int .i64 i.1))], [(0, ⟨31, 3, [grammarC g]⟩), (1, ⟨39, 1, itemssO i.2⟩), (2, ⟨57, 1, [[.own 1 1 0 N]]⟩), (3, ⟨87, 1, [[.fn 65 [.pb 2 1 0 0]]]⟩)], 4⟩)
    (fun i => i.1 ≤ N ∧ Snd g w i.2 ∧ DoneI g w i.2 i.1) (fun i => N - i.1) (0, sets1) ⟨Nat.zero_le _, hb0.1, hb0.2⟩ ?_ ?_
  · exact Cov.ofn (nm [0, 1, 2, 3]) rfl (by simp [go_sem, List.take_of_length_le, ren, ren1, ren2, okr, okr1, okr2, ChkT, ChkN, BlkN, nf, grammarC]) (by simp [go_sem, List.take_of_length_le, ren, ren1, ren2, okr, okr1, okr2, ChkT, ChkN, BlkN, nf, grammarC])
  clear hb0 hbl hB cb0 b1 sets1
  rintro ⟨p, setsP⟩ ⟨hp, hS, hD⟩
  dsimp only at hp hS hD ⊢
  have hlP : setsP.length = N := by rw [hS.ln, hN]
  have stepp : wr64 ((p : Int) + 1) = ((p + 1 : Nat) : Int) := wr64_id (by omega) (by omega)
  repeat' first
    | (refine Holds.condT ?_ ?_; (· (simp [go_sem, List.take_of_length_le] <;> with_reducible rfl)))
    | (refine Holds.condF ?_ ?_; (· (simp [go_sem, List.take_of_length_le] <;> with_reducible rfl)))
    | refine Holds.seq ?_
    | refine Holds.skip ?_
    | refine Holds.exit ?_
    | refine Holds.ret ?_
    | refine thenA_normal ?_
    | refine thenA_exit ?_
    | refine thenA_ret ?_
    | refine inB_normal ?_
    | refine inB_ret ?_
    | refine inB_here ?_
    | (refine inB_past ?_ ?_; (· exact rfl))
    | refine Holds.reg ?_
    | refine Holds.block ?_
    | refine GS.nil ?_
    | refine Gd.nil ?_
    | (refine Holds.any mixed ?_ ?_; (· kernel_rfl))
    | (refine GS.step (s' := ?_) ?_ ?_ ?_; rotate_left; (· exact rfl); (· (simp [go_sem, List.take_of_length_le] <;> with_reducible rfl)))
    | (refine GS.skip ?_ ?_ ?_; (· exact rfl); (· exact rfl))
    | (refine Gd.go (s' := ?_) ?_ ?_ ?_; rotate_left; (· exact rfl); (· (simp [go_sem, List.take_of_length_le] <;> with_reducible rfl)))
    | (refine Gd.skip ?_ ?_ ?_; (· exact rfl); (· exact rfl))
    | fail
  refine Holds.cond rfl (fun h => ?_) (fun h => ?_)
  · have hltp : p < N := by simp at h; omega
    have hpw : p ≤ w.length := by omega
    repeat' first
      | (refine Holds.condT ?_ ?_; (· (simp [go_sem, List.take_of_length_le] <;> with_reducible rfl)))
      | (refine Holds.condF ?_ ?_; (· (simp [go_sem, List.take_of_length_le] <;> with_reducible rfl)))
      | refine Holds.seq ?_
      | refine Holds.skip ?_
      | refine Holds.exit ?_
      | refine Holds.ret ?_
      | refine thenA_normal ?_
      | refine thenA_exit ?_
      | refine thenA_ret ?_
      | refine inB_normal ?_
      | refine inB_ret ?_
      | refine inB_here ?_
      | (refine inB_past ?_ ?_; (· exact rfl))
      | refine Holds.reg ?_
      | refine Holds.block ?_
      | refine GS.nil ?_
      | refine Gd.nil ?_
      | (refine Holds.any mixed ?_ ?_; (· kernel_rfl))
      | (refine GS.step (s' := ?_) ?_ ?_ ?_; rotate_left; (· exact rfl); (· (simp [go_sem, List.take_of_length_le] <;> with_reducible rfl)))
      | (refine GS.skip ?_ ?_ ?_; (· exact rfl); (· exact rfl))
      | (refine Gd.go (s' := ?_) ?_ ?_ ?_; rotate_left; (· exact rfl); (· (simp [go_sem, List.take_of_length_le] <;> with_reducible rfl)))
      | (refine Gd.skip ?_ ?_ ?_; (· exact rfl); (· exact rfl))
      | fail
    refine Holds.loop (ι := Sets3 × Bool) (fun i => ⟨[(1, .im 1 (ints w)), (2, .pb 0 3 0 0), (5, .pb 2 1 0 0), (6, .pb 3 1 0 0), (7, .fn 67 [.pb 0 3 0 0, .pb 3 1 0 0]), (26, .v (.int .i64 N)), (27, .v (.int .i64 p)), (8, .v (.int .i64 p)), (9, .v (.bool i.2))], [(0, ⟨31, 3, [grammarC g]⟩), (1, ⟨39, 1, itemssO i.1⟩), (2, ⟨57, 1, [[.own 1 1 0 N]]⟩), (3, ⟨87, 1, [[.fn 65 [.pb 2 1 0 0]]]⟩)], 4⟩)
      (fun i => Snd g w i.1 ∧ DoneI g w i.1 p ∧ (i.2 = false → DoneI g w i.1 (p + 1))) (fun i => 2 * (880 - (at3 i.1 p).length) + (if i.2 then 1 else 0)) (setsP, true) ⟨hS, hD, fun e => by cases e⟩ ?_ ?_
    · exact Cov.ofn (nm [0, 1, 2, 3]) rfl (by simp [go_sem, List.take_of_length_le, ren, ren1, ren2, okr, okr1, okr2, ChkT, ChkN, BlkN, nf, grammarC]) (by simp [go_sem, List.take_of_length_le, ren, ren1, ren2, okr, okr1, okr2, ChkT, ChkN, BlkN, nf, grammarC])
    clear hlP hS hD setsP
    rintro ⟨setsC, again0⟩ ⟨hS, hD, hst⟩
    dsimp only at hS hD hst ⊢
    repeat' first
      | (refine Holds.condT ?_ ?_; (· (simp [go_sem, List.take_of_length_le] <;> with_reducible rfl)))
      | (refine Holds.condF ?_ ?_; (· (simp [go_sem, List.take_of_length_le] <;> with_reducible rfl)))
      | refine Holds.seq ?_
      | refine Holds.skip ?_
      | refine Holds.exit ?_
      | refine Holds.ret ?_
      | refine thenA_normal ?_
      | refine thenA_exit ?_
      | refine thenA_ret ?_
      | refine inB_normal ?_
      | refine inB_ret ?_
      | refine inB_here ?_
      | (refine inB_past ?_ ?_; (· exact rfl))
      | refine Holds.reg ?_
      | refine Holds.block ?_
      | refine GS.nil ?_
      | refine Gd.nil ?_
      | (refine Holds.any mixed ?_ ?_; (· kernel_rfl))
      | (refine GS.step (s' := ?_) ?_ ?_ ?_; rotate_left; (· exact rfl); (· (simp [go_sem, List.take_of_length_le] <;> with_reducible rfl)))
      | (refine GS.skip ?_ ?_ ?_; (· exact rfl); (· exact rfl))
      | (refine Gd.go (s' := ?_) ?_ ?_ ?_; rotate_left; (· exact rfl); (· (simp [go_sem, List.take_of_length_le] <;> with_reducible rfl)))
      | (refine Gd.skip ?_ ?_ ?_; (· exact rfl); (· exact rfl))
      | fail
    cases again0 with
    | true =>
      refine Holds.cond rfl (fun h => ?_) (fun h => by cases h)
      have hlC : setsC.length = N := by rw [hS.ln, hN]
      have hA0 := PassA.start hS hD
      have hfC := hS.few hg hw p
      generalize at3 setsC p = S0 at hA0 hfC ⊢
      repeat' first
        | (refine Holds.condT ?_ ?_; (· (simp [go_sem, List.take_of_length_le] <;> with_reducible rfl)))
        | (refine Holds.condF ?_ ?_; (· (simp [go_sem, List.take_of_length_le] <;> with_reducible rfl)))
        | refine Holds.seq ?_
        | refine Holds.skip ?_
        | refine Holds.exit ?_
        | refine Holds.ret ?_
        | refine thenA_normal ?_
        | refine thenA_exit ?_
        | refine thenA_ret ?_
        | refine inB_normal ?_
        | refine inB_ret ?_
        | refine inB_here ?_
        | (refine inB_past ?_ ?_; (· exact rfl))
        | refine Holds.reg ?_
        | refine Holds.block ?_
        | refine GS.nil ?_
        | refine Gd.nil ?_
        | (refine Holds.any mixed ?_ ?_; (· kernel_rfl))
        | (refine GS.step (s' := ?_) ?_ ?_ ?_; rotate_left; (· exact rfl); (· (simp [go_sem, List.take_of_length_le] <;> with_reducible rfl)))
        | (refine GS.skip ?_ ?_ ?_; (· exact rfl); (· exact rfl))
        | (refine Gd.go (s' := ?_) ?_ ?_ ?_; rotate_left; (· exact rfl); (· (simp [go_sem, List.take_of_length_le] <;> with_reducible rfl)))
        | (refine Gd.skip ?_ ?_ ?_; (· exact rfl); (· exact rfl))
        | fail
      refine Holds.loop (ι := Nat × Sets3 × Bool) (fun i => ⟨[(1, .im 1 (ints w)), (2, .pb 0 3 0 0), (5, .pb 2 1 0 0), (6, .pb 3 1 0 0), (7, .fn 67 [.pb 0 3 0 0, .pb 3 1 0 0]), (26, .v (.int .i64 N)), (27, .v (.int .i64 p)), (8, .v (.int .i64 p)), (9, .v (.bool i.2.2)), (10, .v (.int .i64 i.1))], [(0, ⟨31, 3, [grammarC g]⟩), (1, ⟨39, 1, itemssO i.2.1⟩), (2, ⟨57, 1, [[.own 1 1 0 N]]⟩), (3, ⟨87, 1, [[.fn 65 [.pb 2 1 0 0]]]⟩)], 4⟩)
        (fun i => PassA g w p S0 i.2.1 i.2.2 i.1) (fun i => 880 - i.1) (0, setsC, false) hA0 ?_ ?_
      · exact Cov.ofn (nm [0, 1, 2, 3]) rfl (by simp [go_sem, List.take_of_length_le, ren, ren1, ren2, okr, okr1, okr2, ChkT, ChkN, BlkN, nf, grammarC]) (by simp [go_sem, List.take_of_length_le, ren, ren1, ren2, okr, okr1, okr2, ChkT, ChkN, BlkN, nf, grammarC])
      rintro ⟨k, sets, again⟩ hA
      dsimp only at hA ⊢
      have stepk : wr64 ((k : Int) + 1) = ((k + 1 : Nat) : Int) := wr64_id (by have := hA.kl; omega) (by have := hA.kl; have := hA.ps.snd.few hg hw p; omega)
      have hl : sets.length = N := by rw [hA.ps.snd.ln, hN]
      have hpl : p < sets.length := by omega
      have hs := at3_get hpl
      have hfew := hA.ps.snd.few hg hw p
      have hkl := hA.kl
      have hokS : ∀ x ∈ at3 sets p, okI g w p x := fun x hx => hA.ps.snd.ok p x hx
      repeat' first
        | (refine Holds.condT ?_ ?_; (· (simp [go_sem, List.take_of_length_le, hltp, hpl, get_E hs, hs, itemO] <;> with_reducible rfl)))
        | (refine Holds.condF ?_ ?_; (· (simp [go_sem, List.take_of_length_le, hltp, hpl, get_E hs, hs, itemO] <;> with_reducible rfl)))
        | refine Holds.seq ?_
        | refine Holds.skip ?_
        | refine Holds.exit ?_
        | refine Holds.ret ?_
        | refine thenA_normal ?_
        | refine thenA_exit ?_
        | refine thenA_ret ?_
        | refine inB_normal ?_
        | refine inB_ret ?_
        | refine inB_here ?_
        | (refine inB_past ?_ ?_; (· exact rfl))
        | refine Holds.reg ?_
        | refine Holds.block ?_
        | refine GS.nil ?_
        | refine Gd.nil ?_
        | (refine Holds.any mixed ?_ ?_; (· kernel_rfl))
        | (refine GS.step (s' := ?_) ?_ ?_ ?_; rotate_left; (· exact rfl); (· (simp [go_sem, List.take_of_length_le, hltp, hpl, get_E hs, hs, itemO] <;> with_reducible rfl)))
        | (refine GS.skip ?_ ?_ ?_; (· exact rfl); (· exact rfl))
        | (refine Gd.go (s' := ?_) ?_ ?_ ?_; rotate_left; (· exact rfl); (· (simp [go_sem, List.take_of_length_le, hltp, hpl, get_E hs, hs, itemO] <;> with_reducible rfl)))
        | (refine Gd.skip ?_ ?_ ?_; (· exact rfl); (· exact rfl))
        | fail
      refine Holds.cond rfl (fun h => ?_) (fun h => ?_)
      · have hltk : k < (at3 sets p).length := by simp at h; omega
        first | (refine Holds.close 1 p 0 (s' := ?_) rfl (set_get (iGet hs)) rfl rfl rfl rfl (by simp) (by simp [nf]) ?_ ?_; rotate_left; (· (simp [go_sem, List.take_of_length_le, List.set_set, iSet hs] <;> with_reducible rfl))) | (refine GS.close 1 p 0 (s' := ?_) rfl (set_get (iGet hs)) rfl rfl (by exact rfl) (by exact rfl) (by simp) (by simp [nf]) ?_ ?_; rotate_left; (· (simp [go_sem, List.take_of_length_le, List.set_set, iSet hs] <;> with_reducible rfl)))
        have hxk : (at3 sets p)[k]? = some (at3 sets p)[k] := List.getElem?_eq_getElem hltk
        have hox := hokS _ (List.getElem_mem hltk)
        generalize (at3 sets p)[k] = x at hxk hox
        obtain ⟨r, d, f, rfl, hEar⟩ := id hox
        have hb := hEar.bnd
        have hfl : f < sets.length := by omega
        have hxf : (itemN r d f).2.2.toNat = f := by simp [itemN]
        have hR4 := hg4 r hb.1
        have hrr := ruleN_at hb.1
        have hwd : wr64 ((d : Int) + 1) = (d : Int) + 1 := wr64_id (by omega) (by omega)
        have hxs : ∀ T : List Item3, T[k]? = some (itemN r d f) → T[k]? = some ((r : Int), (d : Int), (f : Int)) := fun T h => h
        have hxk2 := hxs _ hxk
        have hsym := symAt_N g r d f
        have hrg : (itemN r d f).1.toNat = r := by simp [itemN]
        generalize hSS : at3 sets p = S at hs hxk hxk2 hltk hfew hokS ⊢
        repeat' first
          | (refine Holds.condT ?_ ?_; (· (simp [go_sem, List.take_of_length_le, hltp, hpl, get_E hs, hs, itemO, get_E hxk2, hxk2, hltk, nodeC] <;> with_reducible rfl)))
          | (refine Holds.condF ?_ ?_; (· (simp [go_sem, List.take_of_length_le, hltp, hpl, get_E hs, hs, itemO, get_E hxk2, hxk2, hltk, nodeC] <;> with_reducible rfl)))
          | refine Holds.seq ?_
          | refine Holds.skip ?_
          | refine Holds.exit ?_
          | refine Holds.ret ?_
          | refine thenA_normal ?_
          | refine thenA_exit ?_
          | refine thenA_ret ?_
          | refine inB_normal ?_
          | refine inB_ret ?_
          | refine inB_here ?_
          | (refine inB_past ?_ ?_; (· exact rfl))
          | refine Holds.reg ?_
          | refine Holds.block ?_
          | refine GS.nil ?_
          | refine Gd.nil ?_
          | (refine Holds.any mixed ?_ ?_; (· kernel_rfl))
          | (refine GS.stepD 47 (s' := ?_) rfl ?_ ?_ ?_; rotate_left; (· exact rfl); (· (simp [go_sem, List.take_of_length_le, hltp, hpl, get_E hs, hs, itemO, get_E hxk2, hxk2, hltk, nodeC] <;> with_reducible rfl)))
          | (refine GS.skip ?_ ?_ ?_; (· exact rfl); (· exact rfl))
          | (refine Gd.go (s' := ?_) ?_ ?_ ?_; rotate_left; (· exact rfl); (· (simp [go_sem, List.take_of_length_le, hltp, hpl, get_E hs, hs, itemO, get_E hxk2, hxk2, hltk, nodeC] <;> with_reducible rfl)))
          | (refine Gd.skip ?_ ?_ ?_; (· exact rfl); (· exact rfl))
          | fail
        first | (refine Holds.close 1 p 0 (s' := ?_) rfl (set_get (iGet hs)) rfl rfl rfl rfl (by simp) (by simp [nf]) ?_ ?_; rotate_left; (· (simp [go_sem, List.take_of_length_le, List.set_set, iSet hs] <;> with_reducible rfl))) | (refine GS.close 1 p 0 (s' := ?_) rfl (set_get (iGet hs)) rfl rfl (by exact rfl) (by exact rfl) (by simp) (by simp [nf]) ?_ ?_; rotate_left; (· (simp [go_sem, List.take_of_length_le, List.set_set, iSet hs] <;> with_reducible rfl)))
        repeat' first
          | (refine Holds.condT ?_ ?_; (· (simp [go_sem, List.take_of_length_le, get_E hrr, hrr, hb.1, ruleC, hwd, nodeC, grammarC] <;> with_reducible rfl)))
          | (refine Holds.condF ?_ ?_; (· (simp [go_sem, List.take_of_length_le, get_E hrr, hrr, hb.1, ruleC, hwd, nodeC, grammarC] <;> with_reducible rfl)))
          | refine Holds.seq ?_
          | refine Holds.skip ?_
          | refine Holds.exit ?_
          | refine Holds.ret ?_
          | refine thenA_normal ?_
          | refine thenA_exit ?_
          | refine thenA_ret ?_
          | refine inB_normal ?_
          | refine inB_ret ?_
          | refine inB_here ?_
          | (refine inB_past ?_ ?_; (· exact rfl))
          | refine Holds.reg ?_
          | refine Holds.block ?_
          | refine GS.nil ?_
          | refine Gd.nil ?_
          | (refine Holds.any mixed ?_ ?_; (· kernel_rfl))
          | (refine GS.step (s' := ?_) ?_ ?_ ?_; rotate_left; (· exact rfl); (· (simp [go_sem, List.take_of_length_le, get_E hrr, hrr, hb.1, ruleC, hwd, nodeC, grammarC] <;> with_reducible rfl)))
          | (refine GS.skip ?_ ?_ ?_; (· exact rfl); (· exact rfl))
          | (refine Gd.go (s' := ?_) ?_ ?_ ?_; rotate_left; (· exact rfl); (· (simp [go_sem, List.take_of_length_le, get_E hrr, hrr, hb.1, ruleC, hwd, nodeC, grammarC] <;> with_reducible rfl)))
          | (refine Gd.skip ?_ ?_ ?_; (· exact rfl); (· exact rfl))
          | fail
        by_cases hdl : d = (ruleN g r).2.length
        · have hdl' : ((d : Int) == ((ruleN g r).2.length : Int)) = true := by simp; omega
          have hdl2 : (d : Int) = ((ruleN g r).2.length : Int) := by omega
          have hnone : symAt g (itemN r d f) = none := by rw [hsym]; exact List.getElem?_eq_none (by omega)
          subst hSS
          repeat' first
            | (refine Holds.condT ?_ ?_; (· (simp [go_sem, List.take_of_length_le, hdl, hdl', hdl2] <;> with_reducible rfl)))
            | (refine Holds.condF ?_ ?_; (· (simp [go_sem, List.take_of_length_le, hdl, hdl', hdl2] <;> with_reducible rfl)))
            | refine Holds.seq ?_
            | refine Holds.skip ?_
            | refine Holds.exit ?_
            | refine Holds.ret ?_
            | refine thenA_normal ?_
            | refine thenA_exit ?_
            | refine thenA_ret ?_
            | refine inB_normal ?_
            | refine inB_ret ?_
            | refine inB_here ?_
            | (refine inB_past ?_ ?_; (· exact rfl))
            | refine Holds.reg ?_
            | refine Holds.block ?_
            | refine GS.nil ?_
            | refine Gd.nil ?_
            | (refine Holds.any mixed ?_ ?_; (· kernel_rfl))
            | (refine GS.step (s' := ?_) ?_ ?_ ?_; rotate_left; (· exact rfl); (· (simp [go_sem, List.take_of_length_le, hdl, hdl', hdl2] <;> with_reducible rfl)))
            | (refine GS.skip ?_ ?_ ?_; (· exact rfl); (· exact rfl))
            | (refine Gd.go (s' := ?_) ?_ ?_ ?_; rotate_left; (· exact rfl); (· (simp [go_sem, List.take_of_length_le, hdl, hdl', hdl2] <;> with_reducible rfl)))
            | (refine Gd.skip ?_ ?_ ?_; (· exact rfl); (· exact rfl))
            | fail
          refine Holds.loop (ι := Nat × Sets3 × Bool) (fun i => ⟨[(1, .im 1 (ints w)), (2, .pb 0 3 0 0), (5, .pb 2 1 0 0), (6, .pb 3 1 0 0), (7, .fn 67 [.pb 0 3 0 0, .pb 3 1 0 0]), (26, .v (.int .i64 N)), (27, .v (.int .i64 p)), (8, .v (.int .i64 p)), (9, .v (.bool i.2.2)), (10, .v (.int .i64 k)), (11, .pb 4 3 0 0), (12, .pb 5 2 0 0), (14, .v (.int .i64 i.1))], [(0, ⟨31, 3, [grammarC g]⟩), (1, ⟨39, 1, itemssO i.2.1⟩), (2, ⟨57, 1, [[.own 1 1 0 N]]⟩), (3, ⟨87, 1, [[.fn 65 [.pb 2 1 0 0]]]⟩), (4, ⟨56, 3, [nodeC (itemN r d f)]⟩), (5, ⟨60, 2, [ruleC (ruleN g r)]⟩)], 6⟩)
            (fun i => PassA g w p S0 i.2.1 i.2.2 k ∧ (at3 i.2.1 p)[k]? = some (itemN r d f) ∧ i.1 ≤ (at3 i.2.1 f).length ∧ ∀ (j : Nat) (z : Item3), j < i.1 → (at3 i.2.1 f)[j]? = some z → symAt g z = some (ruleN g r).1 → advI z ∈ at3 i.2.1 p) (fun i => 880 - i.1) (0, sets, again) ⟨hA, hxk, Nat.zero_le _, fun j z hj => absurd hj (Nat.not_lt_zero j)⟩ ?_ ?_
          · exact Cov.ofn (nm [0, 1, 2, 3, 6, 7]) rfl (by simp [go_sem, List.take_of_length_le, ren, ren1, ren2, okr, okr1, okr2, ChkT, ChkN, BlkN, nf, grammarC, nodeC, itemN, ruleC, hdl2]) (by simp [go_sem, List.take_of_length_le, ren, ren1, ren2, okr, okr1, okr2, ChkT, ChkN, BlkN, nf, grammarC, nodeC, itemN, ruleC, hdl2])
          rintro ⟨m, setsM, againM⟩ ⟨hM, hxM, hmM, hzM⟩
          dsimp only at hM hxM hmM hzM ⊢
          have hlM : setsM.length = N := by rw [hM.ps.snd.ln, hN]
          have hfM : f < setsM.length := by omega
          have hfN : f < N := by omega
          have hpM : p < setsM.length := by omega
          have hsM := at3_get hfM
          have hfewM := hM.ps.snd.few hg hw f
          have hfewP := hM.ps.snd.few hg hw p
          have stepm : wr64 ((m : Int) + 1) = ((m + 1 : Nat) : Int) := wr64_id (by omega) (by omega)
          have hokM : ∀ z ∈ at3 setsM f, okI g w f z := fun z hz => hM.ps.snd.ok f z hz
          have hoxM : okI g w p (itemN r d f) := ⟨r, d, f, rfl, hEar⟩
          repeat' first
            | (refine Holds.condT ?_ ?_; (· (simp [go_sem, List.take_of_length_le, hfN, hfM, get_E hsM, hsM, itemO, nodeC, itemN] <;> with_reducible rfl)))
            | (refine Holds.condF ?_ ?_; (· (simp [go_sem, List.take_of_length_le, hfN, hfM, get_E hsM, hsM, itemO, nodeC, itemN] <;> with_reducible rfl)))
            | refine Holds.seq ?_
            | refine Holds.skip ?_
            | refine Holds.exit ?_
            | refine Holds.ret ?_
            | refine thenA_normal ?_
            | refine thenA_exit ?_
            | refine thenA_ret ?_
            | refine inB_normal ?_
            | refine inB_ret ?_
            | refine inB_here ?_
            | (refine inB_past ?_ ?_; (· exact rfl))
            | refine Holds.reg ?_
            | refine Holds.block ?_
            | refine GS.nil ?_
            | refine Gd.nil ?_
            | (refine Holds.any mixed ?_ ?_; (· kernel_rfl))
            | (refine GS.step (s' := ?_) ?_ ?_ ?_; rotate_left; (· exact rfl); (· (simp [go_sem, List.take_of_length_le, hfN, hfM, get_E hsM, hsM, itemO, nodeC, itemN] <;> with_reducible rfl)))
            | (refine GS.skip ?_ ?_ ?_; (· exact rfl); (· exact rfl))
            | (refine Gd.go (s' := ?_) ?_ ?_ ?_; rotate_left; (· exact rfl); (· (simp [go_sem, List.take_of_length_le, hfN, hfM, get_E hsM, hsM, itemO, nodeC, itemN] <;> with_reducible rfl)))
            | (refine Gd.skip ?_ ?_ ?_; (· exact rfl); (· exact rfl))
            | fail
          refine Holds.cond rfl (fun h => ?_) (fun h => ?_)
          · have hltm : m < (at3 setsM f).length := by simp at h; omega
            first | (refine Holds.close 1 f 0 (s' := ?_) rfl (set_get (iGet hsM)) rfl rfl rfl rfl (by simp) (by simp [nf]) ?_ ?_; rotate_left; (· (simp [go_sem, List.take_of_length_le, List.set_set, iSet hsM] <;> with_reducible rfl))) | (refine GS.close 1 f 0 (s' := ?_) rfl (set_get (iGet hsM)) rfl rfl (by exact rfl) (by exact rfl) (by simp) (by simp [nf]) ?_ ?_; rotate_left; (· (simp [go_sem, List.take_of_length_le, List.set_set, iSet hsM] <;> with_reducible rfl)))
            have hym : (at3 setsM f)[m]? = some (at3 setsM f)[m] := List.getElem?_eq_getElem hltm
            have hoy := hokM _ (List.getElem_mem hltm)
            generalize (at3 setsM f)[m] = y at hym hoy
            obtain ⟨r2, d2, f2, rfl, hEar2⟩ := id hoy
            have hb2 := hEar2.bnd
            have hrr2 := ruleN_at hb2.1
            have hR24 := hg4 r2 hb2.1
            have hwd2 : wr64 ((d2 : Int) + 1) = (d2 : Int) + 1 := wr64_id (by omega) (by omega)
            have hym2 : (at3 setsM f)[m]? = some ((r2 : Int), (d2 : Int), (f2 : Int)) := hym
            have hsym2 := symAt_N g r2 d2 f2
            have snoc : ∀ {T : List Item3}, (∀ (j : Nat) (z : Item3), j < m → (at3 setsM f)[j]? = some z → symAt g z = some (ruleN g r).1 → advI z ∈ T) → (symAt g (itemN r2 d2 f2) = some (ruleN g r).1 → advI (itemN r2 d2 f2) ∈ T) → ∀ (j : Nat) (z : Item3), j < m + 1 → (at3 setsM f)[j]? = some z → symAt g z = some (ruleN g r).1 → advI z ∈ T := fun hc h1 j z hj hz hsz => by
              by_cases e : j = m
              · subst e; rw [hym] at hz; injection hz with hz; subst hz; exact h1 hsz
              · exact hc j z (by omega) hz hsz
            have hm880 : m < 880 := by omega
            have hlm1 : m + 1 ≤ (at3 setsM f).length := hltm
            generalize hFF : at3 setsM f = F at hsM hym hym2 hltm
            repeat' first
              | (refine Holds.condT ?_ ?_; (· (simp [go_sem, List.take_of_length_le, hfN, hfM, get_E hsM, hsM, itemO, get_E hym2, hym2, hltm, nodeC, itemN] <;> with_reducible rfl)))
              | (refine Holds.condF ?_ ?_; (· (simp [go_sem, List.take_of_length_le, hfN, hfM, get_E hsM, hsM, itemO, get_E hym2, hym2, hltm, nodeC, itemN] <;> with_reducible rfl)))
              | refine Holds.seq ?_
              | refine Holds.skip ?_
              | refine Holds.exit ?_
              | refine Holds.ret ?_
              | refine thenA_normal ?_
              | refine thenA_exit ?_
              | refine thenA_ret ?_
              | refine inB_normal ?_
              | refine inB_ret ?_
              | refine inB_here ?_
              | (refine inB_past ?_ ?_; (· exact rfl))
              | refine Holds.reg ?_
              | refine Holds.block ?_
              | refine GS.nil ?_
              | refine Gd.nil ?_
              | (refine Holds.any mixed ?_ ?_; (· kernel_rfl))
              | (refine GS.stepD 86 (s' := ?_) rfl ?_ ?_ ?_; rotate_left; (· exact rfl); (· (simp [go_sem, List.take_of_length_le, hfN, hfM, get_E hsM, hsM, itemO, get_E hym2, hym2, hltm, nodeC, itemN] <;> with_reducible rfl)))
              | (refine GS.skip ?_ ?_ ?_; (· exact rfl); (· exact rfl))
              | (refine Gd.go (s' := ?_) ?_ ?_ ?_; rotate_left; (· exact rfl); (· (simp [go_sem, List.take_of_length_le, hfN, hfM, get_E hsM, hsM, itemO, get_E hym2, hym2, hltm, nodeC, itemN] <;> with_reducible rfl)))
              | (refine Gd.skip ?_ ?_ ?_; (· exact rfl); (· exact rfl))
              | fail
            first | (refine Holds.close 1 f 0 (s' := ?_) rfl (set_get (iGet hsM)) rfl rfl rfl rfl (by simp) (by simp [nf]) ?_ ?_; rotate_left; (· (simp [go_sem, List.take_of_length_le, List.set_set, iSet hsM] <;> with_reducible rfl))) | (refine GS.close 1 f 0 (s' := ?_) rfl (set_get (iGet hsM)) rfl rfl (by exact rfl) (by exact rfl) (by simp) (by simp [nf]) ?_ ?_; rotate_left; (· (simp [go_sem, List.take_of_length_le, List.set_set, iSet hsM] <;> with_reducible rfl)))
            by_cases hd2 : d2 < (ruleN g r2).2.length
            · have hd2' : (d2 : Int) < ((ruleN g r2).2.length : Int) := by omega
              have hsx : (ruleN g r2).2[d2]? = some (ruleN g r2).2[d2] := List.getElem?_eq_getElem hd2
              generalize (ruleN g r2).2[d2] = sy at hsx
              rw [hsx] at hsym2
              by_cases hsl : sy = (ruleN g r).1
              · have hsl' : (sy == (ruleN g r).1) = true := by simp [hsl]
                have hoa : okI g w p (itemN r2 (d2 + 1) f2) := ⟨r2, d2 + 1, f2, rfl, .comp p r d f r2 d2 f2 hEar hdl.symm hEar2 (by rw [hsx, hsl])⟩
                have cp := put1 setsM p (itemN r2 (d2 + 1) f2) hpM (by omega)
                rw [hlM] at cp
                have hM2 := hM.put hpM hoa
                have hgr := Grow.put hpM (itemN r2 (d2 + 1) f2)
                have hin : itemN r2 (d2 + 1) f2 ∈ at3 (putAt setsM p (itemN r2 (d2 + 1) f2)) p := by rw [putAt, at3_set hpM]; exact ((putA_R _ _).mem _).2 (.inl rfl)
                have hx2 := hgr.2 p k _ hxM
                have hz2 : ∀ (j : Nat) (z : Item3), j < m + 1 → (at3 (putAt setsM p (itemN r2 (d2 + 1) f2)) f)[j]? = some z → symAt g z = some (ruleN g r).1 → advI z ∈ at3 (putAt setsM p (itemN r2 (d2 + 1) f2)) p := fun j z hj hz hsz => by
                  have hlt2 : j < (at3 setsM f).length := by omega
                  have e := hgr.2 f j _ (List.getElem?_eq_getElem hlt2)
                  rw [hz] at e
                  injection e with e
                  refine snoc (T := at3 (putAt setsM p (itemN r2 (d2 + 1) f2)) p) (fun j z hj hz hsz => hgr.mem (hzM j z hj hz hsz)) (fun _ => by rw [advI_N]; exact hin) j z hj ?_ hsz
                  rw [List.getElem?_eq_getElem hlt2, e]
                have hlen2 : m + 1 ≤ (at3 (putAt setsM p (itemN r2 (d2 + 1) f2)) f).length := by have := hgr.len f; omega
                generalize hfr : decide (itemN r2 (d2 + 1) f2 ∉ at3 setsM p) = fr at cp hM2
                generalize putAt setsM p (itemN r2 (d2 + 1) f2) = sets2 at cp hM2 hx2 hz2 hlen2
                have hd1 : ((d2 + 1 : Nat) : Int) = (d2 : Int) + 1 := by omega
                simp only [itemN, nodeC, hd1] at cp
                repeat' first
                  | (refine Holds.condT ?_ ?_; (· (simp [go_sem, List.take_of_length_le, get_E hrr2, hrr2, hb2.1, ruleC, nodeC, itemN, grammarC] <;> with_reducible rfl)))
                  | (refine Holds.condF ?_ ?_; (· (simp [go_sem, List.take_of_length_le, get_E hrr2, hrr2, hb2.1, ruleC, nodeC, itemN, grammarC] <;> with_reducible rfl)))
                  | refine Holds.seq ?_
                  | refine Holds.skip ?_
                  | refine Holds.exit ?_
                  | refine Holds.ret ?_
                  | refine thenA_normal ?_
                  | refine thenA_exit ?_
                  | refine thenA_ret ?_
                  | refine inB_normal ?_
                  | refine inB_ret ?_
                  | refine inB_here ?_
                  | (refine inB_past ?_ ?_; (· exact rfl))
                  | refine Holds.reg ?_
                  | refine Holds.block ?_
                  | refine GS.nil ?_
                  | refine Gd.nil ?_
                  | (refine GS.step (s' := ?_) ?_ ?_ ?_; rotate_left; (· exact rfl); (· (simp [go_sem, List.take_of_length_le, get_E hrr2, hrr2, hb2.1, ruleC, nodeC, itemN, grammarC] <;> with_reducible rfl)))
                  | (refine GS.skip ?_ ?_ ?_; (· exact rfl); (· exact rfl))
                  | (refine Gd.go (s' := ?_) ?_ ?_ ?_; rotate_left; (· exact rfl); (· (simp [go_sem, List.take_of_length_le, get_E hrr2, hrr2, hb2.1, ruleC, nodeC, itemN, grammarC] <;> with_reducible rfl)))
                  | (refine Gd.skip ?_ ?_ ?_; (· exact rfl); (· exact rfl))
                  | fail
                refine Holds.anx [25, 1026] [16, 17] (fun n => decide (7 ≤ n)) mixed ?_ ?_ ?_; (· kernel_rfl); (· kernel_rfl)
                repeat' first
                  | (refine Holds.condT ?_ ?_; (· (simp [go_sem, List.take_of_length_le, hd2, hd2', get_E hsx, hsx, hsl', hwd2, ruleC, nodeC, itemN] <;> with_reducible rfl)))
                  | (refine Holds.condF ?_ ?_; (· (simp [go_sem, List.take_of_length_le, hd2, hd2', get_E hsx, hsx, hsl', hwd2, ruleC, nodeC, itemN] <;> with_reducible rfl)))
                  | refine Holds.seq ?_
                  | refine Holds.skip ?_
                  | refine Holds.exit ?_
                  | refine Holds.ret ?_
                  | refine thenA_normal ?_
                  | refine thenA_exit ?_
                  | refine thenA_ret ?_
                  | refine inB_normal ?_
                  | refine inB_ret ?_
                  | refine inB_here ?_
                  | (refine inB_past ?_ ?_; (· exact rfl))
                  | refine Holds.reg ?_
                  | refine Holds.block ?_
                  | refine GS.nil ?_
                  | refine Gd.nil ?_
                  | (refine GS.step (s' := ?_) ?_ ?_ ?_; rotate_left; (· exact rfl); (· (simp [go_sem, List.take_of_length_le, hd2, hd2', get_E hsx, hsx, hsl', hwd2, ruleC, nodeC, itemN] <;> with_reducible rfl)))
                  | (refine GS.skip ?_ ?_ ?_; (· exact rfl); (· exact rfl))
                  | (refine Gd.go (s' := ?_) ?_ ?_ ?_; rotate_left; (· exact rfl); (· (simp [go_sem, List.take_of_length_le, hd2, hd2', get_E hsx, hsx, hsl', hwd2, ruleC, nodeC, itemN] <;> with_reducible rfl)))
                  | (refine Gd.skip ?_ ?_ ?_; (· exact rfl); (· exact rfl))
                  | refine Gx.nil ?_
                  | (refine Gx.go (s' := ?_) rfl ?_ ?_ ?_; rotate_left; (· exact rfl); (· (simp [go_sem, List.take_of_length_le, hd2, hd2', get_E hsx, hsx, hsl', hwd2, ruleC, nodeC, itemN] <;> with_reducible rfl)))
                  | (refine Gx.skip rfl ?_ ?_ ?_; (· exact rfl); (· exact rfl))
                  | (refine Gx.skipO rfl ?_ ?_ ?_; (· exact rfl); (· exact rfl))
                  | (refine Gx.wo (s' := ?_) rfl ?_ ?_ ?_; rotate_left; (· exact rfl); (· (simp [go_sem, List.take_of_length_le, hd2, hd2', get_E hsx, hsx, hsl', hwd2, ruleC, nodeC, itemN] <;> with_reducible rfl)))
                  | (refine Gx.skipW rfl ?_ ?_ ?_; (· exact rfl); (· exact rfl))
                  | (refine Gx.skipH rfl ?_ ?_ ?_; (· exact rfl); (· exact rfl))
                  | (refine Gx.hid (r := ?_) rfl ?_ ?_ ?_ ?_; rotate_left; (· exact rfl); (· exact rfl); (· (simp [go_sem, List.take_of_length_le, hd2, hd2', get_E hsx, hsx, hsl', hwd2, ruleC, nodeC, itemN] <;> with_reducible rfl)))
                  | (refine Gx.wr (s' := ?_) rfl ?_ ?_ ?_ ?_; rotate_left; (· exact rfl); (· (simp [go_sem, List.take_of_length_le, hd2, hd2', get_E hsx, hsx, hsl', hwd2, ruleC, nodeC, itemN] <;> with_reducible rfl)); (· (simp [go_sem, List.take_of_length_le, hd2, hd2', get_E hsx, hsx, hsl', hwd2, ruleC, nodeC, itemN])))
                  | fail
                first | refine GS.fnn [2, 1] (cp) rfl rfl rfl rfl (by simp [go_sem, List.take_of_length_le, ren, ren1, ren2, okr, okr1, okr2, ChkN, BlkN, List.range_succ, nf] <;> with_reducible rfl) (by simp [go_sem, List.take_of_length_le, ren, ren1, ren2, okr, okr1, okr2, ChkN, BlkN, List.range_succ, nf]) (by simp [go_sem, List.take_of_length_le, ren, ren1, ren2, okr, okr1, okr2, ChkN, BlkN, List.range_succ, nf]) (by simp [List.range_succ, lb]) (ChkN.toB (by simp [go_sem, List.take_of_length_le, ren, ren1, ren2, okr, okr1, okr2, ChkN, BlkN, List.range_succ, nf])) (by decide) (by simp) rfl (.okw (by simp [okr, okr1]) (.nfr (by simp) .nil)) (by simp [go_sem, List.take_of_length_le, ren, ren1, ren2, okr, okr1, okr2, ChkN, BlkN, List.range_succ, nf] <;> with_reducible rfl) ?_ | refine Gx.fnn [2, 1] (cp) rfl rfl rfl rfl rfl (by simp [go_sem, List.take_of_length_le, ren, ren1, ren2, okr, okr1, okr2, ChkN, BlkN, List.range_succ, nf] <;> with_reducible rfl) (by simp [go_sem, List.take_of_length_le, ren, ren1, ren2, okr, okr1, okr2, ChkN, BlkN, List.range_succ, nf]) (by simp [go_sem, List.take_of_length_le, ren, ren1, ren2, okr, okr1, okr2, ChkN, BlkN, List.range_succ, nf]) (by simp [List.range_succ, lb]) (ChkN.toB (by simp [go_sem, List.take_of_length_le, ren, ren1, ren2, okr, okr1, okr2, ChkN, BlkN, List.range_succ, nf])) (by decide) (by simp) rfl (.okw (by simp [okr, okr1]) (.nfr (by simp) .nil)) (by simp [go_sem, List.take_of_length_le, ren, ren1, ren2, okr, okr1, okr2, ChkN, BlkN, List.range_succ, nf]) (by simp [go_sem, List.take_of_length_le, ren, ren1, ren2, okr, okr1, okr2, ChkN, BlkN, List.range_succ, nf] <;> with_reducible rfl) ?_ | refine Gx.fnno [2, 1] (cp) rfl rfl rfl rfl rfl (by simp [go_sem, List.take_of_length_le, ren, ren1, ren2, okr, okr1, okr2, ChkN, BlkN, List.range_succ, nf] <;> with_reducible rfl) (by simp [go_sem, List.take_of_length_le, ren, ren1, ren2, okr, okr1, okr2, ChkN, BlkN, List.range_succ, nf]) (by simp [go_sem, List.take_of_length_le, ren, ren1, ren2, okr, okr1, okr2, ChkN, BlkN, List.range_succ, nf]) (by simp [List.range_succ, lb]) (ChkN.toB (by simp [go_sem, List.take_of_length_le, ren, ren1, ren2, okr, okr1, okr2, ChkN, BlkN, List.range_succ, nf])) (by decide) (by simp) rfl (.okw (by simp [okr, okr1]) (.nfr (by simp) .nil)) (by simp [go_sem, List.take_of_length_le, ren, ren1, ren2, okr, okr1, okr2, ChkN, BlkN, List.range_succ, nf] <;> with_reducible rfl) ?_
                cases fr with
                | true =>
                  rw [Bool.or_true] at hM2
                  repeat' first
                    | (refine Holds.condT ?_ ?_; (· (simp [go_sem, List.take_of_length_le] <;> with_reducible rfl)))
                    | (refine Holds.condF ?_ ?_; (· (simp [go_sem, List.take_of_length_le] <;> with_reducible rfl)))
                    | refine Holds.seq ?_
                    | refine Holds.skip ?_
                    | refine Holds.exit ?_
                    | refine Holds.ret ?_
                    | refine thenA_normal ?_
                    | refine thenA_exit ?_
                    | refine thenA_ret ?_
                    | refine inB_normal ?_
                    | refine inB_ret ?_
                    | refine inB_here ?_
                    | (refine inB_past ?_ ?_; (· exact rfl))
                    | refine Holds.reg ?_
                    | refine Holds.block ?_
                    | refine GS.nil ?_
                    | refine Gd.nil ?_
                    | (refine GS.step (s' := ?_) ?_ ?_ ?_; rotate_left; (· exact rfl); (· (simp [go_sem, List.take_of_length_le] <;> with_reducible rfl)))
                    | (refine GS.skip ?_ ?_ ?_; (· exact rfl); (· exact rfl))
                    | (refine Gd.go (s' := ?_) ?_ ?_ ?_; rotate_left; (· exact rfl); (· (simp [go_sem, List.take_of_length_le] <;> with_reducible rfl)))
                    | (refine Gd.skip ?_ ?_ ?_; (· exact rfl); (· exact rfl))
                    | refine Gx.nil ?_
                    | (refine Gx.go (s' := ?_) rfl ?_ ?_ ?_; rotate_left; (· exact rfl); (· (simp [go_sem, List.take_of_length_le] <;> with_reducible rfl)))
                    | (refine Gx.skip rfl ?_ ?_ ?_; (· exact rfl); (· exact rfl))
                    | (refine Gx.skipO rfl ?_ ?_ ?_; (· exact rfl); (· exact rfl))
                    | (refine Gx.wo (s' := ?_) rfl ?_ ?_ ?_; rotate_left; (· exact rfl); (· (simp [go_sem, List.take_of_length_le] <;> with_reducible rfl)))
                    | (refine Gx.skipW rfl ?_ ?_ ?_; (· exact rfl); (· exact rfl))
                    | (refine Gx.skipH rfl ?_ ?_ ?_; (· exact rfl); (· exact rfl))
                    | (refine Gx.hid (r := ?_) rfl ?_ ?_ ?_ ?_; rotate_left; (· exact rfl); (· exact rfl); (· (simp [go_sem, List.take_of_length_le] <;> with_reducible rfl)))
                    | (refine Gx.wr (s' := ?_) rfl ?_ ?_ ?_ ?_; rotate_left; (· exact rfl); (· (simp [go_sem, List.take_of_length_le] <;> with_reducible rfl)); (· (simp [go_sem, List.take_of_length_le])))
                    | fail
                  refine ⟨(m + 1, sets2, true), ⟨hM2, hx2, hlen2, hz2⟩, by dsimp only; omega, ?_⟩
                  rw [stepm]
                  exact Cov.ofn (nm [0, 1, 2, 3, 4, 5]) rfl (by simp [go_sem, List.take_of_length_le, ren, ren1, ren2, okr, okr1, okr2, ChkT, ChkN, BlkN, nf, grammarC, nodeC, itemN, ruleC]) (by simp [go_sem, List.take_of_length_le, ren, ren1, ren2, okr, okr1, okr2, ChkT, ChkN, BlkN, nf, grammarC, nodeC, itemN, ruleC])
                | false =>
                  rw [Bool.or_false] at hM2
                  repeat' first
                    | (refine Holds.condT ?_ ?_; (· (simp [go_sem, List.take_of_length_le] <;> with_reducible rfl)))
                    | (refine Holds.condF ?_ ?_; (· (simp [go_sem, List.take_of_length_le] <;> with_reducible rfl)))
                    | refine Holds.seq ?_
                    | refine Holds.skip ?_
                    | refine Holds.exit ?_
                    | refine Holds.ret ?_
                    | refine thenA_normal ?_
                    | refine thenA_exit ?_
                    | refine thenA_ret ?_
                    | refine inB_normal ?_
                    | refine inB_ret ?_
                    | refine inB_here ?_
                    | (refine inB_past ?_ ?_; (· exact rfl))
                    | refine Holds.reg ?_
                    | refine Holds.block ?_
                    | refine GS.nil ?_
                    | refine Gd.nil ?_
                    | (refine GS.step (s' := ?_) ?_ ?_ ?_; rotate_left; (· exact rfl); (· (simp [go_sem, List.take_of_length_le] <;> with_reducible rfl)))
                    | (refine GS.skip ?_ ?_ ?_; (· exact rfl); (· exact rfl))
                    | (refine Gd.go (s' := ?_) ?_ ?_ ?_; rotate_left; (· exact rfl); (· (simp [go_sem, List.take_of_length_le] <;> with_reducible rfl)))
                    | (refine Gd.skip ?_ ?_ ?_; (· exact rfl); (· exact rfl))
                    | refine Gx.nil ?_
                    | (refine Gx.go (s' := ?_) rfl ?_ ?_ ?_; rotate_left; (· exact rfl); (· (simp [go_sem, List.take_of_length_le] <;> with_reducible rfl)))
                    | (refine Gx.skip rfl ?_ ?_ ?_; (· exact rfl); (· exact rfl))
                    | (refine Gx.skipO rfl ?_ ?_ ?_; (· exact rfl); (· exact rfl))
                    | (refine Gx.wo (s' := ?_) rfl ?_ ?_ ?_; rotate_left; (· exact rfl); (· (simp [go_sem, List.take_of_length_le] <;> with_reducible rfl)))
                    | (refine Gx.skipW rfl ?_ ?_ ?_; (· exact rfl); (· exact rfl))
                    | (refine Gx.skipH rfl ?_ ?_ ?_; (· exact rfl); (· exact rfl))
                    | (refine Gx.hid (r := ?_) rfl ?_ ?_ ?_ ?_; rotate_left; (· exact rfl); (· exact rfl); (· (simp [go_sem, List.take_of_length_le] <;> with_reducible rfl)))
                    | (refine Gx.wr (s' := ?_) rfl ?_ ?_ ?_ ?_; rotate_left; (· exact rfl); (· (simp [go_sem, List.take_of_length_le] <;> with_reducible rfl)); (· (simp [go_sem, List.take_of_length_le])))
                    | fail
                  refine ⟨(m + 1, sets2, againM), ⟨hM2, hx2, hlen2, hz2⟩, by dsimp only; omega, ?_⟩
                  rw [stepm]
                  exact Cov.ofn (nm [0, 1, 2, 3, 4, 5]) rfl (by simp [go_sem, List.take_of_length_le, ren, ren1, ren2, okr, okr1, okr2, ChkT, ChkN, BlkN, nf, grammarC, nodeC, itemN, ruleC]) (by simp [go_sem, List.take_of_length_le, ren, ren1, ren2, okr, okr1, okr2, ChkT, ChkN, BlkN, nf, grammarC, nodeC, itemN, ruleC])
              · have hsl' : (sy == (ruleN g r).1) = false := by simp [hsl]
                have hz2 := snoc hzM (fun e => by rw [hsym2] at e; injection e with e; exact absurd e hsl)
                repeat' first
                  | (refine Holds.condT ?_ ?_; (· (simp [go_sem, List.take_of_length_le, get_E hrr2, hrr2, hb2.1, ruleC, nodeC, itemN, grammarC] <;> with_reducible rfl)))
                  | (refine Holds.condF ?_ ?_; (· (simp [go_sem, List.take_of_length_le, get_E hrr2, hrr2, hb2.1, ruleC, nodeC, itemN, grammarC] <;> with_reducible rfl)))
                  | refine Holds.seq ?_
                  | refine Holds.skip ?_
                  | refine Holds.exit ?_
                  | refine Holds.ret ?_
                  | refine thenA_normal ?_
                  | refine thenA_exit ?_
                  | refine thenA_ret ?_
                  | refine inB_normal ?_
                  | refine inB_ret ?_
                  | refine inB_here ?_
                  | (refine inB_past ?_ ?_; (· exact rfl))
                  | refine Holds.reg ?_
                  | refine Holds.block ?_
                  | refine GS.nil ?_
                  | refine Gd.nil ?_
                  | (refine GS.step (s' := ?_) ?_ ?_ ?_; rotate_left; (· exact rfl); (· (simp [go_sem, List.take_of_length_le, get_E hrr2, hrr2, hb2.1, ruleC, nodeC, itemN, grammarC] <;> with_reducible rfl)))
                  | (refine GS.skip ?_ ?_ ?_; (· exact rfl); (· exact rfl))
                  | (refine Gd.go (s' := ?_) ?_ ?_ ?_; rotate_left; (· exact rfl); (· (simp [go_sem, List.take_of_length_le, get_E hrr2, hrr2, hb2.1, ruleC, nodeC, itemN, grammarC] <;> with_reducible rfl)))
                  | (refine Gd.skip ?_ ?_ ?_; (· exact rfl); (· exact rfl))
                  | refine Gx.nil ?_
                  | (refine Gx.go (s' := ?_) rfl ?_ ?_ ?_; rotate_left; (· exact rfl); (· (simp [go_sem, List.take_of_length_le, get_E hrr2, hrr2, hb2.1, ruleC, nodeC, itemN, grammarC] <;> with_reducible rfl)))
                  | (refine Gx.skip rfl ?_ ?_ ?_; (· exact rfl); (· exact rfl))
                  | (refine Gx.skipO rfl ?_ ?_ ?_; (· exact rfl); (· exact rfl))
                  | (refine Gx.wo (s' := ?_) rfl ?_ ?_ ?_; rotate_left; (· exact rfl); (· (simp [go_sem, List.take_of_length_le, get_E hrr2, hrr2, hb2.1, ruleC, nodeC, itemN, grammarC] <;> with_reducible rfl)))
                  | (refine Gx.skipW rfl ?_ ?_ ?_; (· exact rfl); (· exact rfl))
                  | (refine Gx.skipH rfl ?_ ?_ ?_; (· exact rfl); (· exact rfl))
                  | (refine Gx.hid (r := ?_) rfl ?_ ?_ ?_ ?_; rotate_left; (· exact rfl); (· exact rfl); (· (simp [go_sem, List.take_of_length_le, get_E hrr2, hrr2, hb2.1, ruleC, nodeC, itemN, grammarC] <;> with_reducible rfl)))
                  | (refine Gx.wr (s' := ?_) rfl ?_ ?_ ?_ ?_; rotate_left; (· exact rfl); (· (simp [go_sem, List.take_of_length_le, get_E hrr2, hrr2, hb2.1, ruleC, nodeC, itemN, grammarC] <;> with_reducible rfl)); (· (simp [go_sem, List.take_of_length_le, get_E hrr2, hrr2, hb2.1, ruleC, nodeC, itemN, grammarC])))
                  | fail
                (refine Holds.any mixed ?_ ?_; (· kernel_rfl))
                repeat' first
                  | (refine Holds.condT ?_ ?_; (· (simp [go_sem, List.take_of_length_le, hd2, hd2', get_E hsx, hsx, hsl', hwd2, ruleC, nodeC, itemN] <;> with_reducible rfl)))
                  | (refine Holds.condF ?_ ?_; (· (simp [go_sem, List.take_of_length_le, hd2, hd2', get_E hsx, hsx, hsl', hwd2, ruleC, nodeC, itemN] <;> with_reducible rfl)))
                  | refine Holds.seq ?_
                  | refine Holds.skip ?_
                  | refine Holds.exit ?_
                  | refine Holds.ret ?_
                  | refine thenA_normal ?_
                  | refine thenA_exit ?_
                  | refine thenA_ret ?_
                  | refine inB_normal ?_
                  | refine inB_ret ?_
                  | refine inB_here ?_
                  | (refine inB_past ?_ ?_; (· exact rfl))
                  | refine Holds.reg ?_
                  | refine Holds.block ?_
                  | refine GS.nil ?_
                  | refine Gd.nil ?_
                  | (refine GS.step (s' := ?_) ?_ ?_ ?_; rotate_left; (· exact rfl); (· (simp [go_sem, List.take_of_length_le, hd2, hd2', get_E hsx, hsx, hsl', hwd2, ruleC, nodeC, itemN] <;> with_reducible rfl)))
                  | (refine GS.skip ?_ ?_ ?_; (· exact rfl); (· exact rfl))
                  | (refine Gd.go (s' := ?_) ?_ ?_ ?_; rotate_left; (· exact rfl); (· (simp [go_sem, List.take_of_length_le, hd2, hd2', get_E hsx, hsx, hsl', hwd2, ruleC, nodeC, itemN] <;> with_reducible rfl)))
                  | (refine Gd.skip ?_ ?_ ?_; (· exact rfl); (· exact rfl))
                  | refine Gx.nil ?_
                  | (refine Gx.go (s' := ?_) rfl ?_ ?_ ?_; rotate_left; (· exact rfl); (· (simp [go_sem, List.take_of_length_le, hd2, hd2', get_E hsx, hsx, hsl', hwd2, ruleC, nodeC, itemN] <;> with_reducible rfl)))
                  | (refine Gx.skip rfl ?_ ?_ ?_; (· exact rfl); (· exact rfl))
                  | (refine Gx.skipO rfl ?_ ?_ ?_; (· exact rfl); (· exact rfl))
                  | (refine Gx.wo (s' := ?_) rfl ?_ ?_ ?_; rotate_left; (· exact rfl); (· (simp [go_sem, List.take_of_length_le, hd2, hd2', get_E hsx, hsx, hsl', hwd2, ruleC, nodeC, itemN] <;> with_reducible rfl)))
                  | (refine Gx.skipW rfl ?_ ?_ ?_; (· exact rfl); (· exact rfl))
                  | (refine Gx.skipH rfl ?_ ?_ ?_; (· exact rfl); (· exact rfl))
                  | (refine Gx.hid (r := ?_) rfl ?_ ?_ ?_ ?_; rotate_left; (· exact rfl); (· exact rfl); (· (simp [go_sem, List.take_of_length_le, hd2, hd2', get_E hsx, hsx, hsl', hwd2, ruleC, nodeC, itemN] <;> with_reducible rfl)))
                  | (refine Gx.wr (s' := ?_) rfl ?_ ?_ ?_ ?_; rotate_left; (· exact rfl); (· (simp [go_sem, List.take_of_length_le, hd2, hd2', get_E hsx, hsx, hsl', hwd2, ruleC, nodeC, itemN] <;> with_reducible rfl)); (· (simp [go_sem, List.take_of_length_le, hd2, hd2', get_E hsx, hsx, hsl', hwd2, ruleC, nodeC, itemN])))
                  | fail
                refine ⟨(m + 1, setsM, againM), ⟨hM, hxM, hlm1, hz2⟩, by dsimp only; omega, ?_⟩
                rw [stepm]
                exact Cov.ofn (nm [0, 1, 2, 3, 4, 5]) rfl (by simp [go_sem, List.take_of_length_le, ren, ren1, ren2, okr, okr1, okr2, ChkT, ChkN, BlkN, nf, grammarC, nodeC, itemN, ruleC]) (by simp [go_sem, List.take_of_length_le, ren, ren1, ren2, okr, okr1, okr2, ChkT, ChkN, BlkN, nf, grammarC, nodeC, itemN, ruleC])
            · have hd2' : ¬ (d2 : Int) < ((ruleN g r2).2.length : Int) := by omega
              rw [List.getElem?_eq_none (by omega)] at hsym2
              have hz2 := snoc hzM (fun e => by rw [hsym2] at e; cases e)
              repeat' first
                | (refine Holds.condT ?_ ?_; (· (simp [go_sem, List.take_of_length_le, get_E hrr2, hrr2, hb2.1, ruleC, nodeC, itemN, grammarC] <;> with_reducible rfl)))
                | (refine Holds.condF ?_ ?_; (· (simp [go_sem, List.take_of_length_le, get_E hrr2, hrr2, hb2.1, ruleC, nodeC, itemN, grammarC] <;> with_reducible rfl)))
                | refine Holds.seq ?_
                | refine Holds.skip ?_
                | refine Holds.exit ?_
                | refine Holds.ret ?_
                | refine thenA_normal ?_
                | refine thenA_exit ?_
                | refine thenA_ret ?_
                | refine inB_normal ?_
                | refine inB_ret ?_
                | refine inB_here ?_
                | (refine inB_past ?_ ?_; (· exact rfl))
                | refine Holds.reg ?_
                | refine Holds.block ?_
                | refine GS.nil ?_
                | refine Gd.nil ?_
                | (refine GS.step (s' := ?_) ?_ ?_ ?_; rotate_left; (· exact rfl); (· (simp [go_sem, List.take_of_length_le, get_E hrr2, hrr2, hb2.1, ruleC, nodeC, itemN, grammarC] <;> with_reducible rfl)))
                | (refine GS.skip ?_ ?_ ?_; (· exact rfl); (· exact rfl))
                | (refine Gd.go (s' := ?_) ?_ ?_ ?_; rotate_left; (· exact rfl); (· (simp [go_sem, List.take_of_length_le, get_E hrr2, hrr2, hb2.1, ruleC, nodeC, itemN, grammarC] <;> with_reducible rfl)))
                | (refine Gd.skip ?_ ?_ ?_; (· exact rfl); (· exact rfl))
                | refine Gx.nil ?_
                | (refine Gx.go (s' := ?_) rfl ?_ ?_ ?_; rotate_left; (· exact rfl); (· (simp [go_sem, List.take_of_length_le, get_E hrr2, hrr2, hb2.1, ruleC, nodeC, itemN, grammarC] <;> with_reducible rfl)))
                | (refine Gx.skip rfl ?_ ?_ ?_; (· exact rfl); (· exact rfl))
                | (refine Gx.skipO rfl ?_ ?_ ?_; (· exact rfl); (· exact rfl))
                | (refine Gx.wo (s' := ?_) rfl ?_ ?_ ?_; rotate_left; (· exact rfl); (· (simp [go_sem, List.take_of_length_le, get_E hrr2, hrr2, hb2.1, ruleC, nodeC, itemN, grammarC] <;> with_reducible rfl)))
                | (refine Gx.skipW rfl ?_ ?_ ?_; (· exact rfl); (· exact rfl))
                | (refine Gx.skipH rfl ?_ ?_ ?_; (· exact rfl); (· exact rfl))
                | (refine Gx.hid (r := ?_) rfl ?_ ?_ ?_ ?_; rotate_left; (· exact rfl); (· exact rfl); (· (simp [go_sem, List.take_of_length_le, get_E hrr2, hrr2, hb2.1, ruleC, nodeC, itemN, grammarC] <;> with_reducible rfl)))
                | (refine Gx.wr (s' := ?_) rfl ?_ ?_ ?_ ?_; rotate_left; (· exact rfl); (· (simp [go_sem, List.take_of_length_le, get_E hrr2, hrr2, hb2.1, ruleC, nodeC, itemN, grammarC] <;> with_reducible rfl)); (· (simp [go_sem, List.take_of_length_le, get_E hrr2, hrr2, hb2.1, ruleC, nodeC, itemN, grammarC])))
                | fail
              (refine Holds.any mixed ?_ ?_; (· kernel_rfl))
              repeat' first
                | (refine Holds.condT ?_ ?_; (· (simp [go_sem, List.take_of_length_le, hd2, hd2', ruleC, nodeC, itemN] <;> with_reducible rfl)))
                | (refine Holds.condF ?_ ?_; (· (simp [go_sem, List.take_of_length_le, hd2, hd2', ruleC, nodeC, itemN] <;> with_reducible rfl)))
                | refine Holds.seq ?_
                | refine Holds.skip ?_
                | refine Holds.exit ?_
                | refine Holds.ret ?_
                | refine thenA_normal ?_
                | refine thenA_exit ?_
                | refine thenA_ret ?_
                | refine inB_normal ?_
                | refine inB_ret ?_
                | refine inB_here ?_
                | (refine inB_past ?_ ?_; (· exact rfl))
                | refine Holds.reg ?_
                | refine Holds.block ?_
                | refine GS.nil ?_
                | refine Gd.nil ?_
                | (refine GS.step (s' := ?_) ?_ ?_ ?_; rotate_left; (· exact rfl); (· (simp [go_sem, List.take_of_length_le, hd2, hd2', ruleC, nodeC, itemN] <;> with_reducible rfl)))
                | (refine GS.skip ?_ ?_ ?_; (· exact rfl); (· exact rfl))
                | (refine Gd.go (s' := ?_) ?_ ?_ ?_; rotate_left; (· exact rfl); (· (simp [go_sem, List.take_of_length_le, hd2, hd2', ruleC, nodeC, itemN] <;> with_reducible rfl)))
                | (refine Gd.skip ?_ ?_ ?_; (· exact rfl); (· exact rfl))
                | refine Gx.nil ?_
                | (refine Gx.go (s' := ?_) rfl ?_ ?_ ?_; rotate_left; (· exact rfl); (· (simp [go_sem, List.take_of_length_le, hd2, hd2', ruleC, nodeC, itemN] <;> with_reducible rfl)))
                | (refine Gx.skip rfl ?_ ?_ ?_; (· exact rfl); (· exact rfl))
                | (refine Gx.skipO rfl ?_ ?_ ?_; (· exact rfl); (· exact rfl))
                | (refine Gx.wo (s' := ?_) rfl ?_ ?_ ?_; rotate_left; (· exact rfl); (· (simp [go_sem, List.take_of_length_le, hd2, hd2', ruleC, nodeC, itemN] <;> with_reducible rfl)))
                | (refine Gx.skipW rfl ?_ ?_ ?_; (· exact rfl); (· exact rfl))
                | (refine Gx.skipH rfl ?_ ?_ ?_; (· exact rfl); (· exact rfl))
                | (refine Gx.hid (r := ?_) rfl ?_ ?_ ?_ ?_; rotate_left; (· exact rfl); (· exact rfl); (· (simp [go_sem, List.take_of_length_le, hd2, hd2', ruleC, nodeC, itemN] <;> with_reducible rfl)))
                | (refine Gx.wr (s' := ?_) rfl ?_ ?_ ?_ ?_; rotate_left; (· exact rfl); (· (simp [go_sem, List.take_of_length_le, hd2, hd2', ruleC, nodeC, itemN] <;> with_reducible rfl)); (· (simp [go_sem, List.take_of_length_le, hd2, hd2', ruleC, nodeC, itemN])))
                | fail
              refine ⟨(m + 1, setsM, againM), ⟨hM, hxM, hlm1, hz2⟩, by dsimp only; omega, ?_⟩
              rw [stepm]
              exact Cov.ofn (nm [0, 1, 2, 3, 4, 5]) rfl (by simp [go_sem, List.take_of_length_le, ren, ren1, ren2, okr, okr1, okr2, ChkT, ChkN, BlkN, nf, grammarC, nodeC, itemN, ruleC]) (by simp [go_sem, List.take_of_length_le, ren, ren1, ren2, okr, okr1, okr2, ChkT, ChkN, BlkN, nf, grammarC, nodeC, itemN, ruleC])
          · have hgem : (at3 setsM f).length ≤ m := by simp at h; omega
            have hnext := hM.next hxM ⟨fun y hy => (by rw [hnone] at hy; cases hy), fun _ z hz hsz => by
              rw [hxf] at hz
              rw [hrg] at hsz
              obtain ⟨j, hj, e⟩ := List.mem_iff_getElem.1 hz
              exact hzM j z (by omega) (by rw [List.getElem?_eq_getElem hj, e]) hsz⟩ (fun y hy => by rw [hnone] at hy; cases hy)
            first | (refine Holds.close 1 f 0 (s' := ?_) rfl (set_get (iGet hsM)) rfl rfl rfl rfl (by simp) (by simp [nf]) ?_ ?_; rotate_left; (· (simp [go_sem, List.take_of_length_le, List.set_set, iSet hsM] <;> with_reducible rfl))) | (refine GS.close 1 f 0 (s' := ?_) rfl (set_get (iGet hsM)) rfl rfl (by exact rfl) (by exact rfl) (by simp) (by simp [nf]) ?_ ?_; rotate_left; (· (simp [go_sem, List.take_of_length_le, List.set_set, iSet hsM] <;> with_reducible rfl)))
            repeat' first
              | (refine Holds.condT ?_ ?_; (· (simp [go_sem, List.take_of_length_le] <;> with_reducible rfl)))
              | (refine Holds.condF ?_ ?_; (· (simp [go_sem, List.take_of_length_le] <;> with_reducible rfl)))
              | refine Holds.seq ?_
              | refine Holds.skip ?_
              | refine Holds.exit ?_
              | refine Holds.ret ?_
              | refine thenA_normal ?_
              | refine thenA_exit ?_
              | refine thenA_ret ?_
              | refine inB_normal ?_
              | refine inB_ret ?_
              | refine inB_here ?_
              | (refine inB_past ?_ ?_; (· exact rfl))
              | refine Holds.reg ?_
              | refine Holds.block ?_
              | refine GS.nil ?_
              | refine Gd.nil ?_
              | (refine Holds.any mixed ?_ ?_; (· kernel_rfl))
              | (refine GS.step (s' := ?_) ?_ ?_ ?_; rotate_left; (· exact rfl); (· (simp [go_sem, List.take_of_length_le] <;> with_reducible rfl)))
              | (refine GS.skip ?_ ?_ ?_; (· exact rfl); (· exact rfl))
              | (refine Gd.go (s' := ?_) ?_ ?_ ?_; rotate_left; (· exact rfl); (· (simp [go_sem, List.take_of_length_le] <;> with_reducible rfl)))
              | (refine Gd.skip ?_ ?_ ?_; (· exact rfl); (· exact rfl))
              | refine Gx.nil ?_
              | (refine Gx.go (s' := ?_) rfl ?_ ?_ ?_; rotate_left; (· exact rfl); (· (simp [go_sem, List.take_of_length_le] <;> with_reducible rfl)))
              | (refine Gx.skip rfl ?_ ?_ ?_; (· exact rfl); (· exact rfl))
              | (refine Gx.skipO rfl ?_ ?_ ?_; (· exact rfl); (· exact rfl))
              | (refine Gx.wo (s' := ?_) rfl ?_ ?_ ?_; rotate_left; (· exact rfl); (· (simp [go_sem, List.take_of_length_le] <;> with_reducible rfl)))
              | (refine Gx.skipW rfl ?_ ?_ ?_; (· exact rfl); (· exact rfl))
              | (refine Gx.skipH rfl ?_ ?_ ?_; (· exact rfl); (· exact rfl))
              | (refine Gx.hid (r := ?_) rfl ?_ ?_ ?_ ?_; rotate_left; (· exact rfl); (· exact rfl); (· (simp [go_sem, List.take_of_length_le] <;> with_reducible rfl)))
              | (refine Gx.wr (s' := ?_) rfl ?_ ?_ ?_ ?_; rotate_left; (· exact rfl); (· (simp [go_sem, List.take_of_length_le] <;> with_reducible rfl)); (· (simp [go_sem, List.take_of_length_le])))
              | fail
            refine ⟨(k + 1, setsM, againM), hnext, by dsimp only; omega, ?_⟩
            rw [stepk]
            exact Cov.ofn (nm [0, 1, 2, 3]) rfl (by simp [go_sem, List.take_of_length_le, ren, ren1, ren2, okr, okr1, okr2, ChkT, ChkN, BlkN, nf, grammarC]) (by simp [go_sem, List.take_of_length_le, ren, ren1, ren2, okr, okr1, okr2, ChkT, ChkN, BlkN, nf, grammarC])
        · have hdlt : d < (ruleN g r).2.length := by omega
          have hdl' : ((d : Int) == ((ruleN g r).2.length : Int)) = false := by simp; omega
          have hdl2 : ¬ (d : Int) = ((ruleN g r).2.length : Int) := by omega
          have hsx : (ruleN g r).2[d]? = some (ruleN g r).2[d] := List.getElem?_eq_getElem hdlt
          have hsb := good_sym hg hb.1 (List.getElem_mem hdlt)
          generalize (ruleN g r).2[d] = sy at hsx hsb
          rw [hsx] at hsym
          subst hSS
          have hCC : CloC g (at3 sets (itemN r d f).2.2.toNat) (at3 sets p) (itemN r d f) := fun e => by rw [hsym] at e; cases e
          by_cases hsy : 0 ≤ sy
          · have cb := beg1 g hG sets p sy hpl hfew
            rw [hl] at cb
            obtain ⟨g1, g2, g3⟩ := begF_ok (w := w) (g := g) (non := sy) hpl g.2.2.length
            have hA2 := g3 hA (fun r2 hr2 hl2 => ⟨r2, 0, p, rfl, .pred p r d f sy r2 hEar hsx hsy hr2 hl2⟩)
            generalize begF g p sy sets g.2.2.length = B at cb g1 g2 hA2
            obtain ⟨sets2, b2⟩ := B
            dsimp only at cb g1 g2 hA2
            have hnext := hA2.next (g1.2 p k _ hxk) ⟨fun y hy h0 r2 hr2 hl2 => by rw [hsym] at hy; injection hy with hy; subst hy; exact g2 r2 hr2 hl2, fun e => by rw [hsym] at e; cases e⟩ (fun y hy h0 => by rw [hsym] at hy; injection hy with hy; subst hy; omega)
            simp only [grammarC] at cb
            repeat' first
              | (refine Holds.condT ?_ ?_; (· (simp [go_sem, List.take_of_length_le, hdl, hdl', hdl2, hdlt, get_E hsx, hsx, hsy, ruleC] <;> with_reducible rfl)))
              | (refine Holds.condF ?_ ?_; (· (simp [go_sem, List.take_of_length_le, hdl, hdl', hdl2, hdlt, get_E hsx, hsx, hsy, ruleC] <;> with_reducible rfl)))
              | refine Holds.seq ?_
              | refine Holds.skip ?_
              | refine Holds.exit ?_
              | refine Holds.ret ?_
              | refine thenA_normal ?_
              | refine thenA_exit ?_
              | refine thenA_ret ?_
              | refine inB_normal ?_
              | refine inB_ret ?_
              | refine inB_here ?_
              | (refine inB_past ?_ ?_; (· exact rfl))
              | refine Holds.reg ?_
              | refine Holds.block ?_
              | refine GS.nil ?_
              | refine Gd.nil ?_
              | (refine Holds.any mixed ?_ ?_; (· kernel_rfl))
              | (refine GS.step (s' := ?_) ?_ ?_ ?_; rotate_left; (· exact rfl); (· (simp [go_sem, List.take_of_length_le, hdl, hdl', hdl2, hdlt, get_E hsx, hsx, hsy, ruleC] <;> with_reducible rfl)))
              | (refine GS.skip ?_ ?_ ?_; (· exact rfl); (· exact rfl))
              | (refine Gd.go (s' := ?_) ?_ ?_ ?_; rotate_left; (· exact rfl); (· (simp [go_sem, List.take_of_length_le, hdl, hdl', hdl2, hdlt, get_E hsx, hsx, hsy, ruleC] <;> with_reducible rfl)))
              | (refine Gd.skip ?_ ?_ ?_; (· exact rfl); (· exact rfl))
              | refine Gx.nil ?_
              | (refine Gx.go (s' := ?_) rfl ?_ ?_ ?_; rotate_left; (· exact rfl); (· (simp [go_sem, List.take_of_length_le, hdl, hdl', hdl2, hdlt, get_E hsx, hsx, hsy, ruleC] <;> with_reducible rfl)))
              | (refine Gx.skip rfl ?_ ?_ ?_; (· exact rfl); (· exact rfl))
              | (refine Gx.skipO rfl ?_ ?_ ?_; (· exact rfl); (· exact rfl))
              | (refine Gx.wo (s' := ?_) rfl ?_ ?_ ?_; rotate_left; (· exact rfl); (· (simp [go_sem, List.take_of_length_le, hdl, hdl', hdl2, hdlt, get_E hsx, hsx, hsy, ruleC] <;> with_reducible rfl)))
              | (refine Gx.skipW rfl ?_ ?_ ?_; (· exact rfl); (· exact rfl))
              | (refine Gx.skipH rfl ?_ ?_ ?_; (· exact rfl); (· exact rfl))
              | (refine Gx.hid (r := ?_) rfl ?_ ?_ ?_ ?_; rotate_left; (· exact rfl); (· exact rfl); (· (simp [go_sem, List.take_of_length_le, hdl, hdl', hdl2, hdlt, get_E hsx, hsx, hsy, ruleC] <;> with_reducible rfl)))
              | (refine Gx.wr (s' := ?_) rfl ?_ ?_ ?_ ?_; rotate_left; (· exact rfl); (· (simp [go_sem, List.take_of_length_le, hdl, hdl', hdl2, hdlt, get_E hsx, hsx, hsy, ruleC] <;> with_reducible rfl)); (· (simp [go_sem, List.take_of_length_le, hdl, hdl', hdl2, hdlt, get_E hsx, hsx, hsy, ruleC])))
              | fail
            first | refine GS.fnn [0, 3, 2, 1] (cb) rfl rfl rfl rfl (by simp [go_sem, List.take_of_length_le, ren, ren1, ren2, okr, okr1, okr2, ChkN, BlkN, List.range_succ, nf] <;> with_reducible rfl) (by simp [go_sem, List.take_of_length_le, ren, ren1, ren2, okr, okr1, okr2, ChkN, BlkN, List.range_succ, nf]) (by simp [go_sem, List.take_of_length_le, ren, ren1, ren2, okr, okr1, okr2, ChkN, BlkN, List.range_succ, nf]) (by simp [List.range_succ, lb]) (ChkN.toB (by simp [go_sem, List.take_of_length_le, ren, ren1, ren2, okr, okr1, okr2, ChkN, BlkN, List.range_succ, nf])) (by decide) (by simp) rfl (.nfr (by simp [nf]) (.okw (by simp [okr, okr1]) (.okw (by simp [okr, okr1]) (.nfr (by simp) .nil)))) (by simp [go_sem, List.take_of_length_le, ren, ren1, ren2, okr, okr1, okr2, ChkN, BlkN, List.range_succ, nf] <;> with_reducible rfl) ?_ | refine Gx.fnn [0, 3, 2, 1] (cb) rfl rfl rfl rfl rfl (by simp [go_sem, List.take_of_length_le, ren, ren1, ren2, okr, okr1, okr2, ChkN, BlkN, List.range_succ, nf] <;> with_reducible rfl) (by simp [go_sem, List.take_of_length_le, ren, ren1, ren2, okr, okr1, okr2, ChkN, BlkN, List.range_succ, nf]) (by simp [go_sem, List.take_of_length_le, ren, ren1, ren2, okr, okr1, okr2, ChkN, BlkN, List.range_succ, nf]) (by simp [List.range_succ, lb]) (ChkN.toB (by simp [go_sem, List.take_of_length_le, ren, ren1, ren2, okr, okr1, okr2, ChkN, BlkN, List.range_succ, nf])) (by decide) (by simp) rfl (.nfr (by simp [nf]) (.okw (by simp [okr, okr1]) (.okw (by simp [okr, okr1]) (.nfr (by simp) .nil)))) (by simp [go_sem, List.take_of_length_le, ren, ren1, ren2, okr, okr1, okr2, ChkN, BlkN, List.range_succ, nf]) (by simp [go_sem, List.take_of_length_le, ren, ren1, ren2, okr, okr1, okr2, ChkN, BlkN, List.range_succ, nf] <;> with_reducible rfl) ?_ | refine Gx.fnno [0, 3, 2, 1] (cb) rfl rfl rfl rfl rfl (by simp [go_sem, List.take_of_length_le, ren, ren1, ren2, okr, okr1, okr2, ChkN, BlkN, List.range_succ, nf] <;> with_reducible rfl) (by simp [go_sem, List.take_of_length_le, ren, ren1, ren2, okr, okr1, okr2, ChkN, BlkN, List.range_succ, nf]) (by simp [go_sem, List.take_of_length_le, ren, ren1, ren2, okr, okr1, okr2, ChkN, BlkN, List.range_succ, nf]) (by simp [List.range_succ, lb]) (ChkN.toB (by simp [go_sem, List.take_of_length_le, ren, ren1, ren2, okr, okr1, okr2, ChkN, BlkN, List.range_succ, nf])) (by decide) (by simp) rfl (.nfr (by simp [nf]) (.okw (by simp [okr, okr1]) (.okw (by simp [okr, okr1]) (.nfr (by simp) .nil)))) (by simp [go_sem, List.take_of_length_le, ren, ren1, ren2, okr, okr1, okr2, ChkN, BlkN, List.range_succ, nf] <;> with_reducible rfl) ?_
            cases b2 with
            | true =>
              rw [Bool.or_true] at hnext
              repeat' first
                | (refine Holds.condT ?_ ?_; (· (simp [go_sem, List.take_of_length_le] <;> with_reducible rfl)))
                | (refine Holds.condF ?_ ?_; (· (simp [go_sem, List.take_of_length_le] <;> with_reducible rfl)))
                | refine Holds.seq ?_
                | refine Holds.skip ?_
                | refine Holds.exit ?_
                | refine Holds.ret ?_
                | refine thenA_normal ?_
                | refine thenA_exit ?_
                | refine thenA_ret ?_
                | refine inB_normal ?_
                | refine inB_ret ?_
                | refine inB_here ?_
                | (refine inB_past ?_ ?_; (· exact rfl))
                | refine Holds.reg ?_
                | refine Holds.block ?_
                | refine GS.nil ?_
                | refine Gd.nil ?_
                | (refine Holds.any mixed ?_ ?_; (· kernel_rfl))
                | (refine GS.step (s' := ?_) ?_ ?_ ?_; rotate_left; (· exact rfl); (· (simp [go_sem, List.take_of_length_le] <;> with_reducible rfl)))
                | (refine GS.skip ?_ ?_ ?_; (· exact rfl); (· exact rfl))
                | (refine Gd.go (s' := ?_) ?_ ?_ ?_; rotate_left; (· exact rfl); (· (simp [go_sem, List.take_of_length_le] <;> with_reducible rfl)))
                | (refine Gd.skip ?_ ?_ ?_; (· exact rfl); (· exact rfl))
                | refine Gx.nil ?_
                | (refine Gx.go (s' := ?_) rfl ?_ ?_ ?_; rotate_left; (· exact rfl); (· (simp [go_sem, List.take_of_length_le] <;> with_reducible rfl)))
                | (refine Gx.skip rfl ?_ ?_ ?_; (· exact rfl); (· exact rfl))
                | (refine Gx.skipO rfl ?_ ?_ ?_; (· exact rfl); (· exact rfl))
                | (refine Gx.wo (s' := ?_) rfl ?_ ?_ ?_; rotate_left; (· exact rfl); (· (simp [go_sem, List.take_of_length_le] <;> with_reducible rfl)))
                | (refine Gx.skipW rfl ?_ ?_ ?_; (· exact rfl); (· exact rfl))
                | (refine Gx.skipH rfl ?_ ?_ ?_; (· exact rfl); (· exact rfl))
                | (refine Gx.hid (r := ?_) rfl ?_ ?_ ?_ ?_; rotate_left; (· exact rfl); (· exact rfl); (· (simp [go_sem, List.take_of_length_le] <;> with_reducible rfl)))
                | (refine Gx.wr (s' := ?_) rfl ?_ ?_ ?_ ?_; rotate_left; (· exact rfl); (· (simp [go_sem, List.take_of_length_le] <;> with_reducible rfl)); (· (simp [go_sem, List.take_of_length_le])))
                | fail
              refine ⟨(k + 1, sets2, true), hnext, by dsimp only; omega, ?_⟩
              rw [stepk]
              exact Cov.ofn (nm [0, 1, 2, 3]) rfl (by simp [go_sem, List.take_of_length_le, ren, ren1, ren2, okr, okr1, okr2, ChkT, ChkN, BlkN, nf, grammarC]) (by simp [go_sem, List.take_of_length_le, ren, ren1, ren2, okr, okr1, okr2, ChkT, ChkN, BlkN, nf, grammarC])
            | false =>
              rw [Bool.or_false] at hnext
              repeat' first
                | (refine Holds.condT ?_ ?_; (· (simp [go_sem, List.take_of_length_le] <;> with_reducible rfl)))
                | (refine Holds.condF ?_ ?_; (· (simp [go_sem, List.take_of_length_le] <;> with_reducible rfl)))
                | refine Holds.seq ?_
                | refine Holds.skip ?_
                | refine Holds.exit ?_
                | refine Holds.ret ?_
                | refine thenA_normal ?_
                | refine thenA_exit ?_
                | refine thenA_ret ?_
                | refine inB_normal ?_
                | refine inB_ret ?_
                | refine inB_here ?_
                | (refine inB_past ?_ ?_; (· exact rfl))
                | refine Holds.reg ?_
                | refine Holds.block ?_
                | refine GS.nil ?_
                | refine Gd.nil ?_
                | (refine Holds.any mixed ?_ ?_; (· kernel_rfl))
                | (refine GS.step (s' := ?_) ?_ ?_ ?_; rotate_left; (· exact rfl); (· (simp [go_sem, List.take_of_length_le] <;> with_reducible rfl)))
                | (refine GS.skip ?_ ?_ ?_; (· exact rfl); (· exact rfl))
                | (refine Gd.go (s' := ?_) ?_ ?_ ?_; rotate_left; (· exact rfl); (· (simp [go_sem, List.take_of_length_le] <;> with_reducible rfl)))
                | (refine Gd.skip ?_ ?_ ?_; (· exact rfl); (· exact rfl))
                | refine Gx.nil ?_
                | (refine Gx.go (s' := ?_) rfl ?_ ?_ ?_; rotate_left; (· exact rfl); (· (simp [go_sem, List.take_of_length_le] <;> with_reducible rfl)))
                | (refine Gx.skip rfl ?_ ?_ ?_; (· exact rfl); (· exact rfl))
                | (refine Gx.skipO rfl ?_ ?_ ?_; (· exact rfl); (· exact rfl))
                | (refine Gx.wo (s' := ?_) rfl ?_ ?_ ?_; rotate_left; (· exact rfl); (· (simp [go_sem, List.take_of_length_le] <;> with_reducible rfl)))
                | (refine Gx.skipW rfl ?_ ?_ ?_; (· exact rfl); (· exact rfl))
                | (refine Gx.skipH rfl ?_ ?_ ?_; (· exact rfl); (· exact rfl))
                | (refine Gx.hid (r := ?_) rfl ?_ ?_ ?_ ?_; rotate_left; (· exact rfl); (· exact rfl); (· (simp [go_sem, List.take_of_length_le] <;> with_reducible rfl)))
                | (refine Gx.wr (s' := ?_) rfl ?_ ?_ ?_ ?_; rotate_left; (· exact rfl); (· (simp [go_sem, List.take_of_length_le] <;> with_reducible rfl)); (· (simp [go_sem, List.take_of_length_le])))
                | fail
              refine ⟨(k + 1, sets2, again), hnext, by dsimp only; omega, ?_⟩
              rw [stepk]
              exact Cov.ofn (nm [0, 1, 2, 3]) rfl (by simp [go_sem, List.take_of_length_le, ren, ren1, ren2, okr, okr1, okr2, ChkT, ChkN, BlkN, nf, grammarC]) (by simp [go_sem, List.take_of_length_le, ren, ren1, ren2, okr, okr1, okr2, ChkT, ChkN, BlkN, nf, grammarC])
          · have hCP : CloP g p (at3 sets p) (itemN r d f) := fun y hy h0 => by rw [hsym] at hy; injection hy with hy; subst hy; exact absurd h0 hsy
            by_cases hpn : p < w.length
            · have hwp : w[p]? = some w[p] := List.getElem?_eq_getElem hpn
              have hwb := hwt _ (List.getElem_mem hpn)
              generalize w[p] = t at hwp hwb
              have cs := symbolOfE t (by omega) (by omega)
              have hwt1 : wr64 (-1 - t) = -1 - t := wr64_id (by omega) (by omega)
              by_cases hty : -1 - t = sy
              · have hty' : (-1 - t == sy) = true := by simp [hty]
                have hp1 : p + 1 < sets.length := by omega
                have hf1 := hA.ps.snd.few hg hw (p + 1)
                have hoa : okI g w (p + 1) (itemN r (d + 1) f) := ⟨r, d + 1, f, rfl, .scan p r d f sy hEar hsx (by omega) (by rw [hwp]; congr 1; omega)⟩
                have cp := put1 sets (p + 1) (itemN r (d + 1) f) hp1 (by omega)
                rw [hl] at cp
                have hA2 := hA.putNext hp1 hoa
                have hgr := Grow.put hp1 (itemN r (d + 1) f)
                have hin : itemN r (d + 1) f ∈ at3 (putAt sets (p + 1) (itemN r (d + 1) f)) (p + 1) := by rw [putAt, at3_set hp1]; exact ((putA_R _ _).mem _).2 (.inl rfl)
                have hnext := hA2.next (hgr.2 p k _ hxk) ⟨fun y hy h0 => by rw [hsym] at hy; injection hy with hy; subst hy; exact absurd h0 hsy, fun e => by rw [hsym] at e; cases e⟩ (fun y hy h0 hwy => by rw [advI_N]; exact hin)
                generalize decide (itemN r (d + 1) f ∉ at3 sets (p + 1)) = fr at cp
                generalize putAt sets (p + 1) (itemN r (d + 1) f) = sets2 at cp hnext
                have hd1 : ((d + 1 : Nat) : Int) = (d : Int) + 1 := by omega
                simp only [itemN, nodeC, hd1] at cp
                repeat' first
                  | (refine Holds.condT ?_ ?_; (· (simp [go_sem, List.take_of_length_le, hdl, hdl', hdl2, hdlt, get_E hsx, hsx, hsy, ruleC, hpn, get_E hwp, hwp] <;> with_reducible rfl)))
                  | (refine Holds.condF ?_ ?_; (· (simp [go_sem, List.take_of_length_le, hdl, hdl', hdl2, hdlt, get_E hsx, hsx, hsy, ruleC, hpn, get_E hwp, hwp] <;> with_reducible rfl)))
                  | refine Holds.seq ?_
                  | refine Holds.skip ?_
                  | refine Holds.exit ?_
                  | refine Holds.ret ?_
                  | refine thenA_normal ?_
                  | refine thenA_exit ?_
                  | refine thenA_ret ?_
                  | refine inB_normal ?_
                  | refine inB_ret ?_
                  | refine inB_here ?_
                  | (refine inB_past ?_ ?_; (· exact rfl))
                  | refine Holds.reg ?_
                  | refine Holds.block ?_
                  | refine GS.nil ?_
                  | refine Gd.nil ?_
                  | (refine Holds.any mixed ?_ ?_; (· kernel_rfl))
                  | (refine GS.step (s' := ?_) ?_ ?_ ?_; rotate_left; (· exact rfl); (· (simp [go_sem, List.take_of_length_le, hdl, hdl', hdl2, hdlt, get_E hsx, hsx, hsy, ruleC, hpn, get_E hwp, hwp] <;> with_reducible rfl)))
                  | (refine GS.skip ?_ ?_ ?_; (· exact rfl); (· exact rfl))
                  | (refine Gd.go (s' := ?_) ?_ ?_ ?_; rotate_left; (· exact rfl); (· (simp [go_sem, List.take_of_length_le, hdl, hdl', hdl2, hdlt, get_E hsx, hsx, hsy, ruleC, hpn, get_E hwp, hwp] <;> with_reducible rfl)))
                  | (refine Gd.skip ?_ ?_ ?_; (· exact rfl); (· exact rfl))
                  | refine Gx.nil ?_
                  | (refine Gx.go (s' := ?_) rfl ?_ ?_ ?_; rotate_left; (· exact rfl); (· (simp [go_sem, List.take_of_length_le, hdl, hdl', hdl2, hdlt, get_E hsx, hsx, hsy, ruleC, hpn, get_E hwp, hwp] <;> with_reducible rfl)))
                  | (refine Gx.skip rfl ?_ ?_ ?_; (· exact rfl); (· exact rfl))
                  | (refine Gx.skipO rfl ?_ ?_ ?_; (· exact rfl); (· exact rfl))
                  | (refine Gx.wo (s' := ?_) rfl ?_ ?_ ?_; rotate_left; (· exact rfl); (· (simp [go_sem, List.take_of_length_le, hdl, hdl', hdl2, hdlt, get_E hsx, hsx, hsy, ruleC, hpn, get_E hwp, hwp] <;> with_reducible rfl)))
                  | (refine Gx.skipW rfl ?_ ?_ ?_; (· exact rfl); (· exact rfl))
                  | (refine Gx.skipH rfl ?_ ?_ ?_; (· exact rfl); (· exact rfl))
                  | (refine Gx.hid (r := ?_) rfl ?_ ?_ ?_ ?_; rotate_left; (· exact rfl); (· exact rfl); (· (simp [go_sem, List.take_of_length_le, hdl, hdl', hdl2, hdlt, get_E hsx, hsx, hsy, ruleC, hpn, get_E hwp, hwp] <;> with_reducible rfl)))
                  | (refine Gx.wr (s' := ?_) rfl ?_ ?_ ?_ ?_; rotate_left; (· exact rfl); (· (simp [go_sem, List.take_of_length_le, hdl, hdl', hdl2, hdlt, get_E hsx, hsx, hsy, ruleC, hpn, get_E hwp, hwp] <;> with_reducible rfl)); (· (simp [go_sem, List.take_of_length_le, hdl, hdl', hdl2, hdlt, get_E hsx, hsx, hsy, ruleC, hpn, get_E hwp, hwp])))
                  | fail
                first | refine GS.cc (cs) rfl rfl rfl rfl (by simp [go_sem, List.take_of_length_le] <;> with_reducible rfl) rfl (by simp [go_sem, List.take_of_length_le]) ?_ | refine Gd.cc (cs) rfl rfl rfl rfl (by simp [go_sem, List.take_of_length_le] <;> with_reducible rfl) rfl (by simp [go_sem, List.take_of_length_le]) ?_ | refine Gx.cc (cs) rfl rfl rfl rfl rfl (by simp [go_sem, List.take_of_length_le] <;> with_reducible rfl) rfl (by simp [go_sem, List.take_of_length_le]) ?_
                repeat' first
                  | (refine Holds.condT ?_ ?_; (· (simp [go_sem, List.take_of_length_le, hty', get_E hsx, hsx, hdlt, ruleC, stepp, nodeC, itemN] <;> with_reducible rfl)))
                  | (refine Holds.condF ?_ ?_; (· (simp [go_sem, List.take_of_length_le, hty', get_E hsx, hsx, hdlt, ruleC, stepp, nodeC, itemN] <;> with_reducible rfl)))
                  | refine Holds.seq ?_
                  | refine Holds.skip ?_
                  | refine Holds.exit ?_
                  | refine Holds.ret ?_
                  | refine thenA_normal ?_
                  | refine thenA_exit ?_
                  | refine thenA_ret ?_
                  | refine inB_normal ?_
                  | refine inB_ret ?_
                  | refine inB_here ?_
                  | (refine inB_past ?_ ?_; (· exact rfl))
                  | refine Holds.reg ?_
                  | refine Holds.block ?_
                  | refine GS.nil ?_
                  | refine Gd.nil ?_
                  | (refine Holds.any mixed ?_ ?_; (· kernel_rfl))
                  | (refine GS.step (s' := ?_) ?_ ?_ ?_; rotate_left; (· exact rfl); (· (simp [go_sem, List.take_of_length_le, hty', get_E hsx, hsx, hdlt, ruleC, stepp, nodeC, itemN] <;> with_reducible rfl)))
                  | (refine GS.skip ?_ ?_ ?_; (· exact rfl); (· exact rfl))
                  | (refine Gd.go (s' := ?_) ?_ ?_ ?_; rotate_left; (· exact rfl); (· (simp [go_sem, List.take_of_length_le, hty', get_E hsx, hsx, hdlt, ruleC, stepp, nodeC, itemN] <;> with_reducible rfl)))
                  | (refine Gd.skip ?_ ?_ ?_; (· exact rfl); (· exact rfl))
                  | refine Gx.nil ?_
                  | (refine Gx.go (s' := ?_) rfl ?_ ?_ ?_; rotate_left; (· exact rfl); (· (simp [go_sem, List.take_of_length_le, hty', get_E hsx, hsx, hdlt, ruleC, stepp, nodeC, itemN] <;> with_reducible rfl)))
                  | (refine Gx.skip rfl ?_ ?_ ?_; (· exact rfl); (· exact rfl))
                  | (refine Gx.skipO rfl ?_ ?_ ?_; (· exact rfl); (· exact rfl))
                  | (refine Gx.wo (s' := ?_) rfl ?_ ?_ ?_; rotate_left; (· exact rfl); (· (simp [go_sem, List.take_of_length_le, hty', get_E hsx, hsx, hdlt, ruleC, stepp, nodeC, itemN] <;> with_reducible rfl)))
                  | (refine Gx.skipW rfl ?_ ?_ ?_; (· exact rfl); (· exact rfl))
                  | (refine Gx.skipH rfl ?_ ?_ ?_; (· exact rfl); (· exact rfl))
                  | (refine Gx.hid (r := ?_) rfl ?_ ?_ ?_ ?_; rotate_left; (· exact rfl); (· exact rfl); (· (simp [go_sem, List.take_of_length_le, hty', get_E hsx, hsx, hdlt, ruleC, stepp, nodeC, itemN] <;> with_reducible rfl)))
                  | (refine Gx.wr (s' := ?_) rfl ?_ ?_ ?_ ?_; rotate_left; (· exact rfl); (· (simp [go_sem, List.take_of_length_le, hty', get_E hsx, hsx, hdlt, ruleC, stepp, nodeC, itemN] <;> with_reducible rfl)); (· (simp [go_sem, List.take_of_length_le, hty', get_E hsx, hsx, hdlt, ruleC, stepp, nodeC, itemN])))
                  | fail
                first | refine GS.fnn [2, 1] (cp) rfl rfl rfl rfl (by simp [go_sem, List.take_of_length_le, ren, ren1, ren2, okr, okr1, okr2, ChkN, BlkN, List.range_succ, nf] <;> with_reducible rfl) (by simp [go_sem, List.take_of_length_le, ren, ren1, ren2, okr, okr1, okr2, ChkN, BlkN, List.range_succ, nf]) (by simp [go_sem, List.take_of_length_le, ren, ren1, ren2, okr, okr1, okr2, ChkN, BlkN, List.range_succ, nf]) (by simp [List.range_succ, lb]) (ChkN.toB (by simp [go_sem, List.take_of_length_le, ren, ren1, ren2, okr, okr1, okr2, ChkN, BlkN, List.range_succ, nf])) (by decide) (by simp) rfl (.okw (by simp [okr, okr1]) (.nfr (by simp) .nil)) (by simp [go_sem, List.take_of_length_le, ren, ren1, ren2, okr, okr1, okr2, ChkN, BlkN, List.range_succ, nf] <;> with_reducible rfl) ?_ | refine Gx.fnn [2, 1] (cp) rfl rfl rfl rfl rfl (by simp [go_sem, List.take_of_length_le, ren, ren1, ren2, okr, okr1, okr2, ChkN, BlkN, List.range_succ, nf] <;> with_reducible rfl) (by simp [go_sem, List.take_of_length_le, ren, ren1, ren2, okr, okr1, okr2, ChkN, BlkN, List.range_succ, nf]) (by simp [go_sem, List.take_of_length_le, ren, ren1, ren2, okr, okr1, okr2, ChkN, BlkN, List.range_succ, nf]) (by simp [List.range_succ, lb]) (ChkN.toB (by simp [go_sem, List.take_of_length_le, ren, ren1, ren2, okr, okr1, okr2, ChkN, BlkN, List.range_succ, nf])) (by decide) (by simp) rfl (.okw (by simp [okr, okr1]) (.nfr (by simp) .nil)) (by simp [go_sem, List.take_of_length_le, ren, ren1, ren2, okr, okr1, okr2, ChkN, BlkN, List.range_succ, nf]) (by simp [go_sem, List.take_of_length_le, ren, ren1, ren2, okr, okr1, okr2, ChkN, BlkN, List.range_succ, nf] <;> with_reducible rfl) ?_ | refine Gx.fnno [2, 1] (cp) rfl rfl rfl rfl rfl (by simp [go_sem, List.take_of_length_le, ren, ren1, ren2, okr, okr1, okr2, ChkN, BlkN, List.range_succ, nf] <;> with_reducible rfl) (by simp [go_sem, List.take_of_length_le, ren, ren1, ren2, okr, okr1, okr2, ChkN, BlkN, List.range_succ, nf]) (by simp [go_sem, List.take_of_length_le, ren, ren1, ren2, okr, okr1, okr2, ChkN, BlkN, List.range_succ, nf]) (by simp [List.range_succ, lb]) (ChkN.toB (by simp [go_sem, List.take_of_length_le, ren, ren1, ren2, okr, okr1, okr2, ChkN, BlkN, List.range_succ, nf])) (by decide) (by simp) rfl (.okw (by simp [okr, okr1]) (.nfr (by simp) .nil)) (by simp [go_sem, List.take_of_length_le, ren, ren1, ren2, okr, okr1, okr2, ChkN, BlkN, List.range_succ, nf] <;> with_reducible rfl) ?_
                repeat' first
                  | (refine Holds.condT ?_ ?_; (· (simp [go_sem, List.take_of_length_le] <;> with_reducible rfl)))
                  | (refine Holds.condF ?_ ?_; (· (simp [go_sem, List.take_of_length_le] <;> with_reducible rfl)))
                  | refine Holds.seq ?_
                  | refine Holds.skip ?_
                  | refine Holds.exit ?_
                  | refine Holds.ret ?_
                  | refine thenA_normal ?_
                  | refine thenA_exit ?_
                  | refine thenA_ret ?_
                  | refine inB_normal ?_
                  | refine inB_ret ?_
                  | refine inB_here ?_
                  | (refine inB_past ?_ ?_; (· exact rfl))
                  | refine Holds.reg ?_
                  | refine Holds.block ?_
                  | refine GS.nil ?_
                  | refine Gd.nil ?_
                  | (refine Holds.any mixed ?_ ?_; (· kernel_rfl))
                  | (refine GS.step (s' := ?_) ?_ ?_ ?_; rotate_left; (· exact rfl); (· (simp [go_sem, List.take_of_length_le] <;> with_reducible rfl)))
                  | (refine GS.skip ?_ ?_ ?_; (· exact rfl); (· exact rfl))
                  | (refine Gd.go (s' := ?_) ?_ ?_ ?_; rotate_left; (· exact rfl); (· (simp [go_sem, List.take_of_length_le] <;> with_reducible rfl)))
                  | (refine Gd.skip ?_ ?_ ?_; (· exact rfl); (· exact rfl))
                  | refine Gx.nil ?_
                  | (refine Gx.go (s' := ?_) rfl ?_ ?_ ?_; rotate_left; (· exact rfl); (· (simp [go_sem, List.take_of_length_le] <;> with_reducible rfl)))
                  | (refine Gx.skip rfl ?_ ?_ ?_; (· exact rfl); (· exact rfl))
                  | (refine Gx.skipO rfl ?_ ?_ ?_; (· exact rfl); (· exact rfl))
                  | (refine Gx.wo (s' := ?_) rfl ?_ ?_ ?_; rotate_left; (· exact rfl); (· (simp [go_sem, List.take_of_length_le] <;> with_reducible rfl)))
                  | (refine Gx.skipW rfl ?_ ?_ ?_; (· exact rfl); (· exact rfl))
                  | (refine Gx.skipH rfl ?_ ?_ ?_; (· exact rfl); (· exact rfl))
                  | (refine Gx.hid (r := ?_) rfl ?_ ?_ ?_ ?_; rotate_left; (· exact rfl); (· exact rfl); (· (simp [go_sem, List.take_of_length_le] <;> with_reducible rfl)))
                  | (refine Gx.wr (s' := ?_) rfl ?_ ?_ ?_ ?_; rotate_left; (· exact rfl); (· (simp [go_sem, List.take_of_length_le] <;> with_reducible rfl)); (· (simp [go_sem, List.take_of_length_le])))
                  | fail
                refine ⟨(k + 1, sets2, again), hnext, by dsimp only; omega, ?_⟩
                rw [stepk]
                exact Cov.ofn (nm [0, 1, 2, 3]) rfl (by simp [go_sem, List.take_of_length_le, ren, ren1, ren2, okr, okr1, okr2, ChkT, ChkN, BlkN, nf, grammarC]) (by simp [go_sem, List.take_of_length_le, ren, ren1, ren2, okr, okr1, okr2, ChkT, ChkN, BlkN, nf, grammarC])
              · have hty' : (-1 - t == sy) = false := by simp [hty]
                have hnext := hA.next hxk ⟨hCP, hCC⟩ (fun y hy h0 hwy => by rw [hsym] at hy; injection hy with hy; subst hy; rw [hwp] at hwy; injection hwy with hwy; omega)
                repeat' first
                  | (refine Holds.condT ?_ ?_; (· (simp [go_sem, List.take_of_length_le, hdl, hdl', hdl2, hdlt, get_E hsx, hsx, hsy, ruleC, hpn, get_E hwp, hwp] <;> with_reducible rfl)))
                  | (refine Holds.condF ?_ ?_; (· (simp [go_sem, List.take_of_length_le, hdl, hdl', hdl2, hdlt, get_E hsx, hsx, hsy, ruleC, hpn, get_E hwp, hwp] <;> with_reducible rfl)))
                  | refine Holds.seq ?_
                  | refine Holds.skip ?_
                  | refine Holds.exit ?_
                  | refine Holds.ret ?_
                  | refine thenA_normal ?_
                  | refine thenA_exit ?_
                  | refine thenA_ret ?_
                  | refine inB_normal ?_
                  | refine inB_ret ?_
                  | refine inB_here ?_
                  | (refine inB_past ?_ ?_; (· exact rfl))
                  | refine Holds.reg ?_
                  | refine Holds.block ?_
                  | refine GS.nil ?_
                  | refine Gd.nil ?_
                  | (refine Holds.any mixed ?_ ?_; (· kernel_rfl))
                  | (refine GS.step (s' := ?_) ?_ ?_ ?_; rotate_left; (· exact rfl); (· (simp [go_sem, List.take_of_length_le, hdl, hdl', hdl2, hdlt, get_E hsx, hsx, hsy, ruleC, hpn, get_E hwp, hwp] <;> with_reducible rfl)))
                  | (refine GS.skip ?_ ?_ ?_; (· exact rfl); (· exact rfl))
                  | (refine Gd.go (s' := ?_) ?_ ?_ ?_; rotate_left; (· exact rfl); (· (simp [go_sem, List.take_of_length_le, hdl, hdl', hdl2, hdlt, get_E hsx, hsx, hsy, ruleC, hpn, get_E hwp, hwp] <;> with_reducible rfl)))
                  | (refine Gd.skip ?_ ?_ ?_; (· exact rfl); (· exact rfl))
                  | refine Gx.nil ?_
                  | (refine Gx.go (s' := ?_) rfl ?_ ?_ ?_; rotate_left; (· exact rfl); (· (simp [go_sem, List.take_of_length_le, hdl, hdl', hdl2, hdlt, get_E hsx, hsx, hsy, ruleC, hpn, get_E hwp, hwp] <;> with_reducible rfl)))
                  | (refine Gx.skip rfl ?_ ?_ ?_; (· exact rfl); (· exact rfl))
                  | (refine Gx.skipO rfl ?_ ?_ ?_; (· exact rfl); (· exact rfl))
                  | (refine Gx.wo (s' := ?_) rfl ?_ ?_ ?_; rotate_left; (· exact rfl); (· (simp [go_sem, List.take_of_length_le, hdl, hdl', hdl2, hdlt, get_E hsx, hsx, hsy, ruleC, hpn, get_E hwp, hwp] <;> with_reducible rfl)))
                  | (refine Gx.skipW rfl ?_ ?_ ?_; (· exact rfl); (· exact rfl))
                  | (refine Gx.skipH rfl ?_ ?_ ?_; (· exact rfl); (· exact rfl))
                  | (refine Gx.hid (r := ?_) rfl ?_ ?_ ?_ ?_; rotate_left; (· exact rfl); (· exact rfl); (· (simp [go_sem, List.take_of_length_le, hdl, hdl', hdl2, hdlt, get_E hsx, hsx, hsy, ruleC, hpn, get_E hwp, hwp] <;> with_reducible rfl)))
                  | (refine Gx.wr (s' := ?_) rfl ?_ ?_ ?_ ?_; rotate_left; (· exact rfl); (· (simp [go_sem, List.take_of_length_le, hdl, hdl', hdl2, hdlt, get_E hsx, hsx, hsy, ruleC, hpn, get_E hwp, hwp] <;> with_reducible rfl)); (· (simp [go_sem, List.take_of_length_le, hdl, hdl', hdl2, hdlt, get_E hsx, hsx, hsy, ruleC, hpn, get_E hwp, hwp])))
                  | fail
                first | refine GS.cc (cs) rfl rfl rfl rfl (by simp [go_sem, List.take_of_length_le] <;> with_reducible rfl) rfl (by simp [go_sem, List.take_of_length_le]) ?_ | refine Gd.cc (cs) rfl rfl rfl rfl (by simp [go_sem, List.take_of_length_le] <;> with_reducible rfl) rfl (by simp [go_sem, List.take_of_length_le]) ?_ | refine Gx.cc (cs) rfl rfl rfl rfl rfl (by simp [go_sem, List.take_of_length_le] <;> with_reducible rfl) rfl (by simp [go_sem, List.take_of_length_le]) ?_
                repeat' first
                  | (refine Holds.condT ?_ ?_; (· (simp [go_sem, List.take_of_length_le, hty', get_E hsx, hsx, hdlt, ruleC, nodeC, itemN] <;> with_reducible rfl)))
                  | (refine Holds.condF ?_ ?_; (· (simp [go_sem, List.take_of_length_le, hty', get_E hsx, hsx, hdlt, ruleC, nodeC, itemN] <;> with_reducible rfl)))
                  | refine Holds.seq ?_
                  | refine Holds.skip ?_
                  | refine Holds.exit ?_
                  | refine Holds.ret ?_
                  | refine thenA_normal ?_
                  | refine thenA_exit ?_
                  | refine thenA_ret ?_
                  | refine inB_normal ?_
                  | refine inB_ret ?_
                  | refine inB_here ?_
                  | (refine inB_past ?_ ?_; (· exact rfl))
                  | refine Holds.reg ?_
                  | refine Holds.block ?_
                  | refine GS.nil ?_
                  | refine Gd.nil ?_
                  | (refine Holds.any mixed ?_ ?_; (· kernel_rfl))
                  | (refine GS.step (s' := ?_) ?_ ?_ ?_; rotate_left; (· exact rfl); (· (simp [go_sem, List.take_of_length_le, hty', get_E hsx, hsx, hdlt, ruleC, nodeC, itemN] <;> with_reducible rfl)))
                  | (refine GS.skip ?_ ?_ ?_; (· exact rfl); (· exact rfl))
                  | (refine Gd.go (s' := ?_) ?_ ?_ ?_; rotate_left; (· exact rfl); (· (simp [go_sem, List.take_of_length_le, hty', get_E hsx, hsx, hdlt, ruleC, nodeC, itemN] <;> with_reducible rfl)))
                  | (refine Gd.skip ?_ ?_ ?_; (· exact rfl); (· exact rfl))
                  | refine Gx.nil ?_
                  | (refine Gx.go (s' := ?_) rfl ?_ ?_ ?_; rotate_left; (· exact rfl); (· (simp [go_sem, List.take_of_length_le, hty', get_E hsx, hsx, hdlt, ruleC, nodeC, itemN] <;> with_reducible rfl)))
                  | (refine Gx.skip rfl ?_ ?_ ?_; (· exact rfl); (· exact rfl))
                  | (refine Gx.skipO rfl ?_ ?_ ?_; (· exact rfl); (· exact rfl))
                  | (refine Gx.wo (s' := ?_) rfl ?_ ?_ ?_; rotate_left; (· exact rfl); (· (simp [go_sem, List.take_of_length_le, hty', get_E hsx, hsx, hdlt, ruleC, nodeC, itemN] <;> with_reducible rfl)))
                  | (refine Gx.skipW rfl ?_ ?_ ?_; (· exact rfl); (· exact rfl))
                  | (refine Gx.skipH rfl ?_ ?_ ?_; (· exact rfl); (· exact rfl))
                  | (refine Gx.hid (r := ?_) rfl ?_ ?_ ?_ ?_; rotate_left; (· exact rfl); (· exact rfl); (· (simp [go_sem, List.take_of_length_le, hty', get_E hsx, hsx, hdlt, ruleC, nodeC, itemN] <;> with_reducible rfl)))
                  | (refine Gx.wr (s' := ?_) rfl ?_ ?_ ?_ ?_; rotate_left; (· exact rfl); (· (simp [go_sem, List.take_of_length_le, hty', get_E hsx, hsx, hdlt, ruleC, nodeC, itemN] <;> with_reducible rfl)); (· (simp [go_sem, List.take_of_length_le, hty', get_E hsx, hsx, hdlt, ruleC, nodeC, itemN])))
                  | fail
                refine ⟨(k + 1, sets, again), hnext, by dsimp only; omega, ?_⟩
                rw [stepk]
                exact Cov.ofn (nm [0, 1, 2, 3]) rfl (by simp [go_sem, List.take_of_length_le, ren, ren1, ren2, okr, okr1, okr2, ChkT, ChkN, BlkN, nf, grammarC]) (by simp [go_sem, List.take_of_length_le, ren, ren1, ren2, okr, okr1, okr2, ChkT, ChkN, BlkN, nf, grammarC])
            · have hnext := hA.next hxk ⟨hCP, hCC⟩ (fun y hy h0 hwy => by rw [List.getElem?_eq_none (by omega)] at hwy; cases hwy)
              repeat' first
                | (refine Holds.condT ?_ ?_; (· (simp [go_sem, List.take_of_length_le, hdl, hdl', hdl2, hdlt, get_E hsx, hsx, hsy, ruleC, hpn] <;> with_reducible rfl)))
                | (refine Holds.condF ?_ ?_; (· (simp [go_sem, List.take_of_length_le, hdl, hdl', hdl2, hdlt, get_E hsx, hsx, hsy, ruleC, hpn] <;> with_reducible rfl)))
                | refine Holds.seq ?_
                | refine Holds.skip ?_
                | refine Holds.exit ?_
                | refine Holds.ret ?_
                | refine thenA_normal ?_
                | refine thenA_exit ?_
                | refine thenA_ret ?_
                | refine inB_normal ?_
                | refine inB_ret ?_
                | refine inB_here ?_
                | (refine inB_past ?_ ?_; (· exact rfl))
                | refine Holds.reg ?_
                | refine Holds.block ?_
                | refine GS.nil ?_
                | refine Gd.nil ?_
                | (refine Holds.any mixed ?_ ?_; (· kernel_rfl))
                | (refine GS.step (s' := ?_) ?_ ?_ ?_; rotate_left; (· exact rfl); (· (simp [go_sem, List.take_of_length_le, hdl, hdl', hdl2, hdlt, get_E hsx, hsx, hsy, ruleC, hpn] <;> with_reducible rfl)))
                | (refine GS.skip ?_ ?_ ?_; (· exact rfl); (· exact rfl))
                | (refine Gd.go (s' := ?_) ?_ ?_ ?_; rotate_left; (· exact rfl); (· (simp [go_sem, List.take_of_length_le, hdl, hdl', hdl2, hdlt, get_E hsx, hsx, hsy, ruleC, hpn] <;> with_reducible rfl)))
                | (refine Gd.skip ?_ ?_ ?_; (· exact rfl); (· exact rfl))
                | refine Gx.nil ?_
                | (refine Gx.go (s' := ?_) rfl ?_ ?_ ?_; rotate_left; (· exact rfl); (· (simp [go_sem, List.take_of_length_le, hdl, hdl', hdl2, hdlt, get_E hsx, hsx, hsy, ruleC, hpn] <;> with_reducible rfl)))
                | (refine Gx.skip rfl ?_ ?_ ?_; (· exact rfl); (· exact rfl))
                | (refine Gx.skipO rfl ?_ ?_ ?_; (· exact rfl); (· exact rfl))
                | (refine Gx.wo (s' := ?_) rfl ?_ ?_ ?_; rotate_left; (· exact rfl); (· (simp [go_sem, List.take_of_length_le, hdl, hdl', hdl2, hdlt, get_E hsx, hsx, hsy, ruleC, hpn] <;> with_reducible rfl)))
                | (refine Gx.skipW rfl ?_ ?_ ?_; (· exact rfl); (· exact rfl))
                | (refine Gx.skipH rfl ?_ ?_ ?_; (· exact rfl); (· exact rfl))
                | (refine Gx.hid (r := ?_) rfl ?_ ?_ ?_ ?_; rotate_left; (· exact rfl); (· exact rfl); (· (simp [go_sem, List.take_of_length_le, hdl, hdl', hdl2, hdlt, get_E hsx, hsx, hsy, ruleC, hpn] <;> with_reducible rfl)))
                | (refine Gx.wr (s' := ?_) rfl ?_ ?_ ?_ ?_; rotate_left; (· exact rfl); (· (simp [go_sem, List.take_of_length_le, hdl, hdl', hdl2, hdlt, get_E hsx, hsx, hsy, ruleC, hpn] <;> with_reducible rfl)); (· (simp [go_sem, List.take_of_length_le, hdl, hdl', hdl2, hdlt, get_E hsx, hsx, hsy, ruleC, hpn])))
                | fail
              refine ⟨(k + 1, sets, again), hnext, by dsimp only; omega, ?_⟩
              rw [stepk]
              exact Cov.ofn (nm [0, 1, 2, 3]) rfl (by simp [go_sem, List.take_of_length_le, ren, ren1, ren2, okr, okr1, okr2, ChkT, ChkN, BlkN, nf, grammarC]) (by simp [go_sem, List.take_of_length_le, ren, ren1, ren2, okr, okr1, okr2, ChkT, ChkN, BlkN, nf, grammarC])
      · have hgek : (at3 sets p).length ≤ k := by simp at h; omega
        first | (refine Holds.close 1 p 0 (s' := ?_) rfl (set_get (iGet hs)) rfl rfl rfl rfl (by simp) (by simp [nf]) ?_ ?_; rotate_left; (· (simp [go_sem, List.take_of_length_le, List.set_set, iSet hs] <;> with_reducible rfl))) | (refine GS.close 1 p 0 (s' := ?_) rfl (set_get (iGet hs)) rfl rfl (by exact rfl) (by exact rfl) (by simp) (by simp [nf]) ?_ ?_; rotate_left; (· (simp [go_sem, List.take_of_length_le, List.set_set, iSet hs] <;> with_reducible rfl)))
        repeat' first
          | (refine Holds.condT ?_ ?_; (· (simp [go_sem, List.take_of_length_le] <;> with_reducible rfl)))
          | (refine Holds.condF ?_ ?_; (· (simp [go_sem, List.take_of_length_le] <;> with_reducible rfl)))
          | refine Holds.seq ?_
          | refine Holds.skip ?_
          | refine Holds.exit ?_
          | refine Holds.ret ?_
          | refine thenA_normal ?_
          | refine thenA_exit ?_
          | refine thenA_ret ?_
          | refine inB_normal ?_
          | refine inB_ret ?_
          | refine inB_here ?_
          | (refine inB_past ?_ ?_; (· exact rfl))
          | refine Holds.reg ?_
          | refine Holds.block ?_
          | refine GS.nil ?_
          | refine Gd.nil ?_
          | (refine Holds.any mixed ?_ ?_; (· kernel_rfl))
          | (refine GS.step (s' := ?_) ?_ ?_ ?_; rotate_left; (· exact rfl); (· (simp [go_sem, List.take_of_length_le] <;> with_reducible rfl)))
          | (refine GS.skip ?_ ?_ ?_; (· exact rfl); (· exact rfl))
          | (refine Gd.go (s' := ?_) ?_ ?_ ?_; rotate_left; (· exact rfl); (· (simp [go_sem, List.take_of_length_le] <;> with_reducible rfl)))
          | (refine Gd.skip ?_ ?_ ?_; (· exact rfl); (· exact rfl))
          | refine Gx.nil ?_
          | (refine Gx.go (s' := ?_) rfl ?_ ?_ ?_; rotate_left; (· exact rfl); (· (simp [go_sem, List.take_of_length_le] <;> with_reducible rfl)))
          | (refine Gx.skip rfl ?_ ?_ ?_; (· exact rfl); (· exact rfl))
          | (refine Gx.skipO rfl ?_ ?_ ?_; (· exact rfl); (· exact rfl))
          | (refine Gx.wo (s' := ?_) rfl ?_ ?_ ?_; rotate_left; (· exact rfl); (· (simp [go_sem, List.take_of_length_le] <;> with_reducible rfl)))
          | (refine Gx.skipW rfl ?_ ?_ ?_; (· exact rfl); (· exact rfl))
          | (refine Gx.skipH rfl ?_ ?_ ?_; (· exact rfl); (· exact rfl))
          | (refine Gx.hid (r := ?_) rfl ?_ ?_ ?_ ?_; rotate_left; (· exact rfl); (· exact rfl); (· (simp [go_sem, List.take_of_length_le] <;> with_reducible rfl)))
          | (refine Gx.wr (s' := ?_) rfl ?_ ?_ ?_ ?_; rotate_left; (· exact rfl); (· (simp [go_sem, List.take_of_length_le] <;> with_reducible rfl)); (· (simp [go_sem, List.take_of_length_le])))
          | fail
        refine ⟨(sets, again), ⟨hA.ps.snd, hA.ps.dn, fun e => by subst e; exact hA.done hgek⟩, ?_, ?_⟩
        · dsimp only
          cases again with
          | true => have := hA.ps.yes rfl; simp only [if_true]; omega
          | false => have := (hA.ps.no rfl).1; rw [this]; simp only [if_true, Bool.false_eq_true, if_false]; omega
        exact Cov.ofn (nm [0, 1, 2, 3]) rfl (by simp [go_sem, List.take_of_length_le, ren, ren1, ren2, okr, okr1, okr2, ChkT, ChkN, BlkN, nf, grammarC]) (by simp [go_sem, List.take_of_length_le, ren, ren1, ren2, okr, okr1, okr2, ChkT, ChkN, BlkN, nf, grammarC])
    | false =>
      refine Holds.cond rfl (fun h => by cases h) (fun h => ?_)
      repeat' first
        | (refine Holds.condT ?_ ?_; (· (simp [go_sem, List.take_of_length_le] <;> with_reducible rfl)))
        | (refine Holds.condF ?_ ?_; (· (simp [go_sem, List.take_of_length_le] <;> with_reducible rfl)))
        | refine Holds.seq ?_
        | refine Holds.skip ?_
        | refine Holds.exit ?_
        | refine Holds.ret ?_
        | refine thenA_normal ?_
        | refine thenA_exit ?_
        | refine thenA_ret ?_
        | refine inB_normal ?_
        | refine inB_ret ?_
        | refine inB_here ?_
        | (refine inB_past ?_ ?_; (· exact rfl))
        | refine Holds.reg ?_
        | refine Holds.block ?_
        | refine GS.nil ?_
        | refine Gd.nil ?_
        | (refine Holds.any mixed ?_ ?_; (· kernel_rfl))
        | (refine GS.step (s' := ?_) ?_ ?_ ?_; rotate_left; (· exact rfl); (· (simp [go_sem, List.take_of_length_le] <;> with_reducible rfl)))
        | (refine GS.skip ?_ ?_ ?_; (· exact rfl); (· exact rfl))
        | (refine Gd.go (s' := ?_) ?_ ?_ ?_; rotate_left; (· exact rfl); (· (simp [go_sem, List.take_of_length_le] <;> with_reducible rfl)))
        | (refine Gd.skip ?_ ?_ ?_; (· exact rfl); (· exact rfl))
        | refine Gx.nil ?_
        | (refine Gx.go (s' := ?_) rfl ?_ ?_ ?_; rotate_left; (· exact rfl); (· (simp [go_sem, List.take_of_length_le] <;> with_reducible rfl)))
        | (refine Gx.skip rfl ?_ ?_ ?_; (· exact rfl); (· exact rfl))
        | (refine Gx.skipO rfl ?_ ?_ ?_; (· exact rfl); (· exact rfl))
        | (refine Gx.wo (s' := ?_) rfl ?_ ?_ ?_; rotate_left; (· exact rfl); (· (simp [go_sem, List.take_of_length_le] <;> with_reducible rfl)))
        | (refine Gx.skipW rfl ?_ ?_ ?_; (· exact rfl); (· exact rfl))
        | (refine Gx.skipH rfl ?_ ?_ ?_; (· exact rfl); (· exact rfl))
        | (refine Gx.hid (r := ?_) rfl ?_ ?_ ?_ ?_; rotate_left; (· exact rfl); (· exact rfl); (· (simp [go_sem, List.take_of_length_le] <;> with_reducible rfl)))
        | (refine Gx.wr (s' := ?_) rfl ?_ ?_ ?_ ?_; rotate_left; (· exact rfl); (· (simp [go_sem, List.take_of_length_le] <;> with_reducible rfl)); (· (simp [go_sem, List.take_of_length_le])))
        | fail
      refine ⟨(p + 1, setsC), ⟨by dsimp only; omega, hS, hst rfl⟩, by dsimp only; omega, ?_⟩
      rw [stepp]
      exact Cov.ofn (nm [0, 1, 2, 3]) rfl (by simp [go_sem, List.take_of_length_le, ren, ren1, ren2, okr, okr1, okr2, ChkT, ChkN, BlkN, nf, grammarC]) (by simp [go_sem, List.take_of_length_le, ren, ren1, ren2, okr, okr1, okr2, ChkT, ChkN, BlkN, nf, grammarC])
  · have hle : p = N := by simp at h; omega
    subst hle
    repeat' first
      | (refine Holds.condT ?_ ?_; (· (simp [go_sem, List.take_of_length_le] <;> with_reducible rfl)))
      | (refine Holds.condF ?_ ?_; (· (simp [go_sem, List.take_of_length_le] <;> with_reducible rfl)))
      | refine Holds.seq ?_
      | refine Holds.skip ?_
      | refine Holds.exit ?_
      | refine Holds.ret ?_
      | refine thenA_normal ?_
      | refine thenA_exit ?_
      | refine thenA_ret ?_
      | refine inB_normal ?_
      | refine inB_ret ?_
      | refine inB_here ?_
      | (refine inB_past ?_ ?_; (· exact rfl))
      | refine Holds.reg ?_
      | refine Holds.block ?_
      | refine GS.nil ?_
      | refine Gd.nil ?_
      | (refine Holds.any mixed ?_ ?_; (· kernel_rfl))
      | (refine GS.step (s' := ?_) ?_ ?_ ?_; rotate_left; (· exact rfl); (· (simp [go_sem, List.take_of_length_le] <;> with_reducible rfl)))
      | (refine GS.skip ?_ ?_ ?_; (· exact rfl); (· exact rfl))
      | (refine Gd.go (s' := ?_) ?_ ?_ ?_; rotate_left; (· exact rfl); (· (simp [go_sem, List.take_of_length_le] <;> with_reducible rfl)))
      | (refine Gd.skip ?_ ?_ ?_; (· exact rfl); (· exact rfl))
      | refine Gx.nil ?_
      | (refine Gx.go (s' := ?_) rfl ?_ ?_ ?_; rotate_left; (· exact rfl); (· (simp [go_sem, List.take_of_length_le] <;> with_reducible rfl)))
      | (refine Gx.skip rfl ?_ ?_ ?_; (· exact rfl); (· exact rfl))
      | (refine Gx.skipO rfl ?_ ?_ ?_; (· exact rfl); (· exact rfl))
      | (refine Gx.wo (s' := ?_) rfl ?_ ?_ ?_; rotate_left; (· exact rfl); (· (simp [go_sem, List.take_of_length_le] <;> with_reducible rfl)))
      | (refine Gx.skipW rfl ?_ ?_ ?_; (· exact rfl); (· exact rfl))
      | (refine Gx.skipH rfl ?_ ?_ ?_; (· exact rfl); (· exact rfl))
      | (refine Gx.hid (r := ?_) rfl ?_ ?_ ?_ ?_; rotate_left; (· exact rfl); (· exact rfl); (· (simp [go_sem, List.take_of_length_le] <;> with_reducible rfl)))
      | (refine Gx.wr (s' := ?_) rfl ?_ ?_ ?_ ?_; rotate_left; (· exact rfl); (· (simp [go_sem, List.take_of_length_le] <;> with_reducible rfl)); (· (simp [go_sem, List.take_of_length_le])))
      | fail
    refine ⟨setsP, ⟨hS, hD⟩, ?_⟩
    refine OutF.mkn (xs := ?_) (nm [1]) ?_ ?_ ?_ ?_ ?_ (by first | exact .inr rfl | exact .inl rfl)
    rotate_left
    · simp [go_sem, List.take_of_length_le] <;> with_reducible rfl
    · simp [go_sem, List.take_of_length_le, ren, ren1, ren2, okr, okr1, okr2, ChkN, BlkN, List.range_succ, nf]
    · simp [go_sem, List.take_of_length_le, ren, ren1, ren2, okr, okr1, okr2, ChkN, BlkN, List.range_succ, nf]
    · simp [go_sem, List.take_of_length_le, ren, ren1, ren2, okr, okr1, okr2, ChkN, BlkN, List.range_succ, nf]
    · rfl
end Go.Proofs.Ytabdnpgahdbciaa.En
end
section
namespace Go.Proofs.Ytabdnpgahdbciaa.En
open Go.RowKit
set_option linter.unusedSimpArgs false
set_option linter.unusedVariables false
/-- Numbers as the cells of an array. -/
def intc (xs : List Int) : List AV := xs.map fun n => .v (.int .i64 n)
@[simp] theorem intc_len (xs : List Int) : (intc xs).length = xs.length := by simp [intc]
@[simp] theorem intc_get (xs : List Int) (i : Nat) : (intc xs)[i]? = (xs[i]?).map fun n => .v (.int .i64 n) := by simp [intc]
@[simp] theorem intc_gE (xs : List Int) (i : Nat) (h : i < (intc xs).length) : (intc xs)[i] = .v (.int .i64 (xs[i]'(by simpa using h))) := by simp [intc]
@[simp] theorem intc_set (xs : List Int) (i : Nat) (n : Int) : (intc xs).set i (.v (.int .i64 n)) = intc (xs.set i n) := by simp [intc, List.map_set]
@[simp] theorem nfc_intc (xs : List Int) : nfc (intc xs) := fun x hx => by
  simp only [intc, List.mem_map] at hx
  obtain ⟨n, _, rfl⟩ := hx
  rfl
def gB (B : List Int) (x : Int) : Int := B.getD x.toNat 0
def stI (B : List Int) (n x : Int) : Int := if x < 0 ∨ n = 0 then n else if gB B x = 0 then 0 else n + gB B x
def stS (B : List Int) (n x : Int) : Int := if 0 ≤ x ∧ gB B x = 0 then -1000000 else if 0 ≤ x then n + gB B x else n
def sumB (B : List Int) (c : Int) (right : List Int) : Int := right.foldl (stI B) c
def sumS (B : List Int) (c : Int) (right : List Int) : Int := right.foldl (stS B) c
theorem gB_in {B : List Int} {V : Int} (h : ∀ b ∈ B, 0 ≤ b ∧ b ≤ V) (hV : 0 ≤ V) (x : Int) : 0 ≤ gB B x ∧ gB B x ≤ V := by
  unfold gB
  by_cases hx : x.toNat < B.length
  · rw [List.getD_eq_getElem?_getD, List.getElem?_eq_getElem hx]
    exact h _ (List.getElem_mem hx)
  · rw [List.getD_eq_getElem?_getD, List.getElem?_eq_none (by omega)]
    exact ⟨Int.le_refl 0, hV⟩
/-- The two sums side by side. -/
theorem sums (B : List Int) (V c : Int) (h : ∀ b ∈ B, 0 ≤ b ∧ b ≤ V) (hV : 0 ≤ V) (hV1 : V ≤ 136500) : ∀ (r : List Int) (t : Nat) (n s : Int), t + r.length ≤ 4 → n ≤ c + V * t → ((0 < n ∧ s = n) ∨ (n = 0 ∧ s ≤ -1000000 + V * t)) →
    r.foldl (stI B) n ≤ c + V * (t + r.length : Nat) ∧ ((0 < r.foldl (stI B) n ∧ r.foldl (stS B) s = r.foldl (stI B) n) ∨ (r.foldl (stI B) n = 0 ∧ r.foldl (stS B) s ≤ -1000000 + V * 4)) := by
  intro r
  induction r with
  | nil =>
    intro t n s ht hn hr
    refine ⟨by simpa using hn, ?_⟩
    rcases hr with hr | ⟨h1, h2⟩
    · exact .inl hr
    · refine .inr ⟨h1, ?_⟩
      have : V * t ≤ V * 4 := Int.mul_le_mul_of_nonneg_left (by simp at ht; omega) hV
      simp only [List.foldl_nil]; omega
  | cons x r ih =>
    intro t n s ht hn hr
    obtain ⟨g0, g1⟩ := gB_in h hV x
    simp only [List.length_cons] at ht
    have e : V * ((t + 1 : Nat) : Int) = V * t + V := by rw [Int.natCast_add, Int.mul_add]; simp
    have key := ih (t + 1) (stI B n x) (stS B s x) (by omega) (by rw [e]; unfold stI; split; · omega
                                                                  · split <;> omega) (by
      rw [e]
      have e4 : V * (t : Int) ≤ 136500 * 4 := by
        have h1 : V * (t : Int) ≤ 136500 * (t : Int) := Int.mul_le_mul_of_nonneg_right hV1 (by omega)
        omega
      have e5 : 0 ≤ V * (t : Int) := Int.mul_nonneg hV (by omega)
      unfold stI stS
      rcases hr with ⟨h1, rfl⟩ | ⟨rfl, h2⟩
      · by_cases hx : x < 0
        · rw [if_pos (.inl hx), if_neg (by omega), if_neg (by omega)]; exact .inl ⟨h1, rfl⟩
        · rw [if_neg (by omega)]
          by_cases hg : gB B x = 0
          · rw [if_pos hg, if_pos ⟨by omega, hg⟩]; right; omega
          · rw [if_neg hg, if_neg (by omega), if_pos (by omega)]; left; omega
      · rw [if_pos (.inr rfl)]
        by_cases hx : 0 ≤ x
        · by_cases hg : gB B x = 0
          · rw [if_pos ⟨hx, hg⟩]; right; omega
          · rw [if_neg (by omega), if_pos hx]; right; omega
        · rw [if_neg (by omega), if_neg hx]; right; omega)
    rw [List.foldl_cons, List.foldl_cons, List.length_cons, show t + (r.length + 1) = t + 1 + r.length by omega]
    exact key
def VV : Nat → Int
  | 0 => 0
  | m + 1 => 100 + 4 * VV m
theorem VV_nonneg : ∀ m, 0 ≤ VV m
  | 0 => Int.le_refl 0
  | m + 1 => by have := VV_nonneg m; unfold VV; omega
theorem VV_le : ∀ m, VV m ≤ VV (m + 1) := fun m => by have := VV_nonneg m; show VV m ≤ 100 + 4 * VV m; omega
theorem VV_mono {a b : Nat} (h : a ≤ b) : VV a ≤ VV b := by
  induction h with
  | refl => exact Int.le_refl _
  | step _ ih => exact Int.le_trans ih (VV_le _)
theorem VV_six {m : Nat} (h : m ≤ 6) : VV m ≤ 136500 := Int.le_trans (VV_mono h) (by decide)
def nz (B : List Int) : Nat := B.countP (fun b => decide (b ≠ 0))
def tot : List Int → Int
  | [] => 0
  | x :: xs => x + tot xs
theorem tot_set : ∀ (B : List Int) (k : Nat) (s : Int) (h : k < B.length), tot (B.set k s) = tot B - B[k] + s
  | [], k, s, h => by simp at h
  | x :: xs, 0, s, h => by simp [tot]; omega
  | x :: xs, k + 1, s, h => by
    have := tot_set xs k s (by simpa using h)
    simp only [List.set_cons_succ, tot, List.getElem_cons_succ, this]; omega
theorem tot_in (V : Int) : ∀ (B : List Int), (∀ b ∈ B, 0 ≤ b ∧ b ≤ V) → 0 ≤ tot B ∧ tot B ≤ V * B.length
  | [], _ => by simp [tot]
  | x :: xs, h => by
    have h1 := h x (.head _)
    have h2 := tot_in V xs fun b hb => h b (.tail _ hb)
    rw [List.length_cons, Int.natCast_add, Int.mul_add]
    simp only [tot]
    omega
theorem nz_le (B : List Int) : nz B ≤ B.length := List.countP_le_length
theorem nz_set (B : List Int) (k : Nat) (s : Int) (h : k < B.length) (hs : s ≠ 0) : nz (B.set k s) = nz B + if B[k] = 0 then 1 else 0 := by
  unfold nz
  rw [List.countP_set h]
  by_cases hk : B[k] = 0
  · simp [hk, hs]
  · have hp : 0 < List.countP (fun b => decide (b ≠ 0)) B := List.countP_pos_iff.2 ⟨_, List.getElem_mem h, by simpa using hk⟩
    have e1 : decide (B[k] ≠ 0) = true := by simpa using hk
    have e2 : decide (s ≠ 0) = true := by simpa using hs
    rw [e1, e2, if_neg hk]
    simp only [if_true]
    omega
/-- What a table keeps to. -/
structure InvB (nons : Nat) (B : List Int) : Prop where
  len : B.length = 6
  low : ∀ b ∈ B, 0 ≤ b
  up : ∀ b ∈ B, b ≤ VV (nz B)
  out : ∀ k, nons ≤ k → B.getD k 0 = 0
theorem InvB.all {nons : Nat} {B : List Int} (h : InvB nons B) : ∀ b ∈ B, 0 ≤ b ∧ b ≤ VV (nz B) := fun b hb => ⟨h.low b hb, h.up b hb⟩
theorem InvB.nz6 {nons : Nat} {B : List Int} (h : InvB nons B) : nz B ≤ 6 := by have := nz_le B; rw [h.len] at this; exact this
def muB (B : List Int) : Nat := (6 - nz B) * 10000000 + (tot B).toNat
/-- The table is bettered. -/
theorem InvB.set {nons : Nat} {B : List Int} (h : InvB nons B) {k : Nat} (hk : k < nons) (hn : nons ≤ 6) {s : Int} (hs0 : 0 < s) (hs : s ≤ 100 + 4 * VV (nz B)) (hb : B.getD k 0 = 0 ∨ s < B.getD k 0) : InvB nons (B.set k s) ∧ muB (B.set k s) < muB B := by
  have hkl : k < B.length := by rw [h.len]; omega
  have hg : B.getD k 0 = B[k] := by simp [hkl]
  rw [hg] at hb
  have hk0 := h.low _ (List.getElem_mem hkl)
  have hk1 := h.up _ (List.getElem_mem hkl)
  have hnz := nz_set B k s hkl (by omega)
  have ht := tot_set B k s hkl
  have hnn := VV_nonneg (nz B)
  have h6 := h.nz6
  have htl := tot_in (VV (nz B)) B h.all
  have hinv : InvB nons (B.set k s) := by
    refine ⟨by simpa using h.len, fun b hbm => ?_, fun b hbm => ?_, fun j hj => ?_⟩
    · rcases List.mem_or_eq_of_mem_set hbm with g | g
      · exact h.low b g
      · rw [g]; omega
    · rcases List.mem_or_eq_of_mem_set hbm with g | g
      · exact Int.le_trans (h.up b g) (VV_mono (by rw [hnz]; omega))
      · rw [hnz, g]
        split
        · exact hs
        · rename_i g
          have : s < B[k] := hb.resolve_left g
          simp only [Nat.add_zero]; omega
    · have := h.out j hj
      rw [List.getD_eq_getElem?_getD, List.getElem?_set_ne (by omega), ← List.getD_eq_getElem?_getD]
      exact this
  refine ⟨hinv, ?_⟩
  have h62 := hinv.nz6
  have hnew := (tot_in _ _ hinv.all).1
  rw [ht] at hnew
  unfold muB
  rw [hnz, ht]
  rw [hnz] at h62
  have hv6 := VV_six h6
  have hs2 : s ≤ 1000000 := by omega
  split
  · rename_i g
    rw [if_pos g] at h62
    rw [g]
    have : (6 - nz B) = (6 - (nz B + 1)) + 1 := by omega
    rw [this, Nat.add_mul]
    omega
  · rename_i g
    have : s < B[k] := hb.resolve_left g
    simp only [Nat.add_zero]
    omega
/-- One rule. -/
def stepB (p : List Int × Bool) (rc : RuleT × Int) : List Int × Bool :=
  if 0 < sumB p.1 rc.2 rc.1.2 ∧ (gB p.1 rc.1.1 = 0 ∨ sumB p.1 rc.2 rc.1.2 < gB p.1 rc.1.1) then (p.1.set rc.1.1.toNat (sumB p.1 rc.2 rc.1.2), true) else p
def roundB (rs : List (RuleT × Int)) (B : List Int) : List Int × Bool := rs.foldl stepB (B, false)
def iterB (rs : List (RuleT × Int)) : Nat → List Int → List Int
  | 0, B => B
  | n + 1, B => if (roundB rs B).2 then iterB rs n (roundB rs B).1 else (roundB rs B).1
def zeroB : List Int := [0, 0, 0, 0, 0, 0]
def fuelB : Nat := muB zeroB + 1
def bestB (rs : List (RuleT × Int)) : List Int := iterB rs fuelB zeroB
theorem fuel_ok (rs : List (RuleT × Int)) : muB zeroB < fuelB ∧ iterB rs fuelB zeroB = bestB rs := ⟨Nat.lt_succ_self _, rfl⟩
theorem round_next {rs : List (RuleT × Int)} {B : List Int} {fuel : Nat} (hf : muB B < fuel) : iterB rs fuel B = if (roundB rs B).2 then iterB rs (fuel - 1) (roundB rs B).1 else (roundB rs B).1 := by
  obtain ⟨n, rfl⟩ : ∃ n, fuel = n + 1 := ⟨fuel - 1, by omega⟩
  rfl
theorem InvB.zero (nons : Nat) : InvB nons zeroB := ⟨rfl, fun b hb => by simp [zeroB] at hb; omega, fun b hb => by simp [zeroB] at hb; have := VV_nonneg (nz zeroB); omega, fun k _ => by
  unfold zeroB
  match k with
  | 0 | 1 | 2 | 3 | 4 | 5 => rfl
  | k + 6 => rfl⟩
/-- What is known of a rule with its cost. -/
def okRC (nons : Nat) (rc : RuleT × Int) : Prop := 0 ≤ rc.1.1 ∧ rc.1.1 < nons ∧ rc.1.2.length ≤ 4 ∧ (∀ x ∈ rc.1.2, x < nons) ∧ 1 ≤ rc.2 ∧ rc.2 ≤ 100
theorem sum_facts {nons : Nat} {B : List Int} (h : InvB nons B) {rc : RuleT × Int} (hr : okRC nons rc) : sumB B rc.2 rc.1.2 ≤ 100 + 4 * VV (nz B) ∧ ((0 < sumB B rc.2 rc.1.2 ∧ sumS B rc.2 rc.1.2 = sumB B rc.2 rc.1.2) ∨ (sumB B rc.2 rc.1.2 = 0 ∧ sumS B rc.2 rc.1.2 ≤ 0)) := by
  obtain ⟨_, _, h3, _, h5, h6⟩ := hr
  have hv6 := VV_six h.nz6
  have hnn := VV_nonneg (nz B)
  have := sums B (VV (nz B)) rc.2 h.all hnn hv6 rc.1.2 0 rc.2 rc.2 (by omega) (by simp) (.inl ⟨by omega, rfl⟩)
  have e : VV (nz B) * ((0 + rc.1.2.length : Nat) : Int) ≤ VV (nz B) * 4 := Int.mul_le_mul_of_nonneg_left (by omega) hnn
  refine ⟨by unfold sumB; omega, ?_⟩
  rcases this.2 with g | ⟨g1, g2⟩
  · exact .inl g
  · refine .inr ⟨g1, ?_⟩
    unfold sumS
    omega
theorem InvB.stepB {nons : Nat} (hn : nons ≤ 6) {p : List Int × Bool} (h : InvB nons p.1) {rc : RuleT × Int} (hr : okRC nons rc) : InvB nons (En.stepB p rc).1 ∧ muB (En.stepB p rc).1 ≤ muB p.1 ∧ ((En.stepB p rc).2 = true → p.2 = true ∨ muB (En.stepB p rc).1 < muB p.1) := by
  unfold En.stepB
  split
  · rename_i hc
    have := h.set (k := rc.1.1.toNat) (by have := hr.1; have := hr.2.1; omega) hn hc.1 (sum_facts h hr).1 hc.2
    exact ⟨this.1, Nat.le_of_lt this.2, fun _ => .inr this.2⟩
  · exact ⟨h, Nat.le_refl _, fun h => .inl h⟩
attribute [irreducible] fuelB bestB iterB roundB
end Go.Proofs.Ytabdnpgahdbciaa.En
end
section
namespace Go.Proofs.Ytabdnpgahdbciaa.En
open Go.RowKit
set_option linter.unusedSimpArgs false
set_option linter.unusedVariables false
set_option maxHeartbeats 8000000
theorem allB_at {p : Nat → Bool} {n i : Nat} (h : allB p n = true) (hi : i < n) : p i = true := by
  cases g : p i with
  | true => rfl
  | false => rw [allB_no hi g] at h; cases h
/-- What a good grammar says. -/
structure OkG (g : GrammarT) : Prop where
  n0 : 1 ≤ g.1
  n1 : g.1 ≤ 6
  t0 : 1 ≤ g.2.1
  t1 : g.2.1 ≤ 4
  len : g.2.2.length ≤ 16
  l0 : ∀ r ∈ g.2.2, 0 ≤ r.1
  l1 : ∀ r ∈ g.2.2, r.1 < g.1
  r4 : ∀ r ∈ g.2.2, r.2.length ≤ 4
  s0 : ∀ r ∈ g.2.2, ∀ x ∈ r.2, -g.2.1 ≤ x
  s1 : ∀ r ∈ g.2.2, ∀ x ∈ r.2, x < g.1
theorem goodG_ok {g : GrammarT} (h : goodG g = true) : OkG g := by
  unfold goodG at h
  simp only [Bool.and_eq_true, decide_eq_true_eq] at h
  obtain ⟨⟨⟨h1, h2⟩, h3⟩, h4⟩ := h
  simp [inR] at h1 h2
  have key : ∀ r ∈ g.2.2, 0 ≤ r.1 ∧ r.1 ≤ g.1 - 1 ∧ r.2.length ≤ 4 ∧ ∀ x ∈ r.2, -g.2.1 ≤ x ∧ x ≤ g.1 - 1 := fun r hr => by
    obtain ⟨i, hi⟩ := List.mem_iff_getElem?.1 hr
    have hlt : i < g.2.2.length := (List.getElem?_eq_some_iff.1 hi).1
    have ha := allB_at h4 hlt
    have hd : g.2.2.getD i (0, []) = r := by rw [List.getD_eq_getElem?_getD, hi]; rfl
    unfold goodAtG at ha
    rw [hd] at ha
    simp only [Bool.and_eq_true, decide_eq_true_eq, List.all_eq_true] at ha
    obtain ⟨⟨⟨a1, a2⟩, a3⟩, _⟩ := ha
    simp [inR] at a1
    refine ⟨a1.1, a1.2, a2, fun x hx => ?_⟩
    have := a3 x hx
    simpa [symOk, inR] using this
  exact ⟨h1.1, h1.2, h2.1, h2.2, h3, fun r hr => (key r hr).1, fun r hr => by have := (key r hr).2.1; omega, fun r hr => (key r hr).2.2.1, fun r hr x hx => ((key r hr).2.2.2 x hx).1, fun r hr x hx => by have := ((key r hr).2.2.2 x hx).2; omega⟩
theorem l1All (xs : List Int) (lo top : Int) (hx : xs.length < 4611686018427387904) : Pure Try.prog 91 [.im 1 (ints xs), .v (.int .i64 lo), .v (.int .i64 top)] (.v (.bool (xs.all fun n => inR n lo top))) := by
  refine Pure.mk (rs := [.tmp 6]) (nt := 21) Try.func91 (by kernel_rfl) rfl rfl rfl (by simp) ?_
  simp only [sl]
  repeat' first
    | refine Holds.seq ?_
    | refine Holds.skip ?_
    | refine Holds.exit ?_
    | refine Holds.ret ?_
    | refine thenA_normal ?_
    | refine thenA_exit ?_
    | refine thenA_ret ?_
    | refine inB_normal ?_
    | refine inB_ret ?_
    | refine inB_here ?_
    | (refine inB_past ?_ ?_; (· exact rfl))
    | refine Holds.reg ?_
    | refine Holds.block ?_
    | refine GS.nil ?_
    | (refine GS.step (s' := ?_) ?_ ?_ ?_; rotate_left; (· exact rfl); (· (simp [go_sem, List.take_of_length_le] <;> with_reducible rfl)))
    | (refine GS.skip ?_ ?_ ?_; (· exact rfl); (· exact rfl))
    | fail
  refine Holds.loop (ι := Nat) (fun i => ⟨[(1, .v (.int .i64 lo)), (2, .v (.int .i64 top)), (9, .im 1 (ints xs)), (10, .v (.int .i64 xs.length)), (11, .v (.int .i64 i))], [], 0⟩) (fun i => i ≤ xs.length ∧ (xs.take i).all (fun n => inR n lo top) = true) (fun i => xs.length - i) 0 ⟨Nat.zero_le _, rfl⟩ ?_ ?_
  · exact Cov.ofn (id) rfl (by simp [go_sem, List.take_of_length_le, ren, ren1, ren2, okr, okr1, okr2, ChkT, ChkN, BlkN, nf]) (by simp [go_sem, List.take_of_length_le, ren, ren1, ren2, okr, okr1, okr2, ChkT, ChkN, BlkN, nf])
  rintro i ⟨hi, hall⟩
  repeat' first
    | refine Holds.seq ?_
    | refine Holds.skip ?_
    | refine Holds.exit ?_
    | refine Holds.ret ?_
    | refine thenA_normal ?_
    | refine thenA_exit ?_
    | refine thenA_ret ?_
    | refine inB_normal ?_
    | refine inB_ret ?_
    | refine inB_here ?_
    | (refine inB_past ?_ ?_; (· exact rfl))
    | refine Holds.reg ?_
    | refine Holds.block ?_
    | refine GS.nil ?_
    | (refine GS.step (s' := ?_) ?_ ?_ ?_; rotate_left; (· exact rfl); (· (simp [go_sem, List.take_of_length_le] <;> with_reducible rfl)))
    | (refine GS.skip ?_ ?_ ?_; (· exact rfl); (· exact rfl))
    | fail
  refine Holds.cond rfl (fun hl => ?_) (fun hl => ?_)
  · have hlt : i < xs.length := by simpa using hl
    have hxi : xs[i]? = some xs[i] := List.getElem?_eq_getElem hlt
    repeat' first
      | refine Holds.seq ?_
      | refine Holds.skip ?_
      | refine Holds.exit ?_
      | refine Holds.ret ?_
      | refine thenA_normal ?_
      | refine thenA_exit ?_
      | refine thenA_ret ?_
      | refine inB_normal ?_
      | refine inB_ret ?_
      | refine inB_here ?_
      | (refine inB_past ?_ ?_; (· exact rfl))
      | refine Holds.reg ?_
      | refine Holds.block ?_
      | refine GS.nil ?_
      | (refine GS.step (s' := ?_) ?_ ?_ ?_; rotate_left; (· exact rfl); (· (simp [go_sem, List.take_of_length_le, hxi] <;> with_reducible rfl)))
      | (refine GS.skip ?_ ?_ ?_; (· exact rfl); (· exact rfl))
      | fail
    refine GS.cc (l1In xs[i] lo top) rfl rfl rfl rfl (by simp [go_sem, List.take_of_length_le] <;> with_reducible rfl) rfl (by simp [go_sem, List.take_of_length_le]) ?_
    generalize hg : inR xs[i] lo top = b
    repeat' first
      | refine Holds.seq ?_
      | refine Holds.skip ?_
      | refine Holds.exit ?_
      | refine Holds.ret ?_
      | refine thenA_normal ?_
      | refine thenA_exit ?_
      | refine thenA_ret ?_
      | refine inB_normal ?_
      | refine inB_ret ?_
      | refine inB_here ?_
      | (refine inB_past ?_ ?_; (· exact rfl))
      | refine Holds.reg ?_
      | refine Holds.block ?_
      | refine GS.nil ?_
      | (refine GS.step (s' := ?_) ?_ ?_ ?_; rotate_left; (· exact rfl); (· (simp [go_sem, List.take_of_length_le] <;> with_reducible rfl)))
      | (refine GS.skip ?_ ?_ ?_; (· exact rfl); (· exact rfl))
      | fail
    refine Holds.cond rfl (fun h => ?_) (fun h => ?_)
    · have h : b = false := by simpa using h
      subst h
      rw [all_at hxi hg]
      repeat' first
        | refine Holds.seq ?_
        | refine Holds.skip ?_
        | refine Holds.exit ?_
        | refine Holds.ret ?_
        | refine thenA_normal ?_
        | refine thenA_exit ?_
        | refine thenA_ret ?_
        | refine inB_normal ?_
        | refine inB_ret ?_
        | refine inB_here ?_
        | (refine inB_past ?_ ?_; (· exact rfl))
        | refine Holds.reg ?_
        | refine Holds.block ?_
        | refine GS.nil ?_
        | (refine GS.step (s' := ?_) ?_ ?_ ?_; rotate_left; (· exact rfl); (· (simp [go_sem, List.take_of_length_le] <;> with_reducible rfl)))
        | (refine GS.skip ?_ ?_ ?_; (· exact rfl); (· exact rfl))
        | fail
      refine Out.mk (xs := ?_) ?_ ?_ (by first | exact .inr rfl | exact .inl rfl)
      rotate_left
      · simp [go_sem, List.take_of_length_le] <;> with_reducible rfl
      exact .v _
    · have h : b = true := by simpa using h
      subst h
      repeat' first
        | refine Holds.seq ?_
        | refine Holds.skip ?_
        | refine Holds.exit ?_
        | refine Holds.ret ?_
        | refine thenA_normal ?_
        | refine thenA_exit ?_
        | refine thenA_ret ?_
        | refine inB_normal ?_
        | refine inB_ret ?_
        | refine inB_here ?_
        | (refine inB_past ?_ ?_; (· exact rfl))
        | refine Holds.reg ?_
        | refine Holds.block ?_
        | refine GS.nil ?_
        | (refine GS.step (s' := ?_) ?_ ?_ ?_; rotate_left; (· exact rfl); (· (simp [go_sem, List.take_of_length_le] <;> with_reducible rfl)))
        | (refine GS.skip ?_ ?_ ?_; (· exact rfl); (· exact rfl))
        | fail
      refine ⟨i + 1, ⟨by omega, ?_⟩, by omega, ?_⟩
      · rw [List.take_add_one, hxi, List.all_append, hall]; simp [hg]
      rw [wr64_id (by omega) (by omega)]
      exact Cov.ofn (id) rfl (by simp [go_sem, List.take_of_length_le, ren, ren1, ren2, okr, okr1, okr2, ChkT, ChkN, BlkN, nf]) (by simp [go_sem, List.take_of_length_le, ren, ren1, ren2, okr, okr1, okr2, ChkT, ChkN, BlkN, nf])
  · have hle : i = xs.length := by
      have : ¬ i < xs.length := by simpa using hl
      omega
    subst hle
    rw [List.take_length] at hall
    rw [hall]
    repeat' first
      | refine Holds.seq ?_
      | refine Holds.skip ?_
      | refine Holds.exit ?_
      | refine Holds.ret ?_
      | refine thenA_normal ?_
      | refine thenA_exit ?_
      | refine thenA_ret ?_
      | refine inB_normal ?_
      | refine inB_ret ?_
      | refine inB_here ?_
      | (refine inB_past ?_ ?_; (· exact rfl))
      | refine Holds.reg ?_
      | refine Holds.block ?_
      | refine GS.nil ?_
      | (refine GS.step (s' := ?_) ?_ ?_ ?_; rotate_left; (· exact rfl); (· (simp [go_sem, List.take_of_length_le] <;> with_reducible rfl)))
      | (refine GS.skip ?_ ?_ ?_; (· exact rfl); (· exact rfl))
      | fail
    refine Out.mk (xs := ?_) ?_ ?_ (by first | exact .inr rfl | exact .inl rfl)
    rotate_left
    · simp [go_sem, List.take_of_length_le] <;> with_reducible rfl
    exact .v _
def goodC (g : GrammarT) (cs : List Int) : Bool := goodG g && decide (cs.length = g.2.2.length) && cs.all fun n => inR n 1 100
theorem goodC_ok {g : GrammarT} {cs : List Int} (h : goodC g cs = true) : goodG g = true ∧ cs.length = g.2.2.length ∧ ∀ c ∈ cs, 1 ≤ c ∧ c ≤ 100 := by
  unfold goodC at h
  simp only [Bool.and_eq_true, decide_eq_true_eq, List.all_eq_true] at h
  exact ⟨h.1.1, h.1.2, fun c hc => by simpa [inR] using h.2 c hc⟩
theorem okRC_of {g : GrammarT} {cs : List Int} (h : goodC g cs = true) {nons : Nat} (hn : g.1 = nons) : ∀ rc ∈ g.2.2.zip cs, okRC nons rc := fun rc hrc => by
  obtain ⟨h1, h2, h3⟩ := goodC_ok h
  have hg := goodG_ok h1
  have hm := List.of_mem_zip hrc
  exact ⟨hg.l0 _ hm.1, by have := hg.l1 _ hm.1; omega, hg.r4 _ hm.1, fun x hx => by have := hg.s1 _ hm.1 x hx; omega, (h3 _ hm.2).1, (h3 _ hm.2).2⟩
end Go.Proofs.Ytabdnpgahdbciaa.En
end
section
namespace Go.Proofs.Ytabdnpgahdbciaa.En
open Go.RowKit
set_option linter.unusedSimpArgs false
set_option linter.unusedVariables false
/-- A tree: its nonterminal, rule, place, the place behind it, the tokens from and to, its trees. -/
inductive PT where
  | node (non rule : Int) (at' fin frm to : Nat) (kids : List PT)
def PT.fin : PT → Nat
  | .node _ _ _ d _ _ _ => d
mutual
def partC : PT → List AV
  | .node a b c d e f ks => [.v (.int .i64 a), .v (.int .i64 b), .v (.int .i64 c), .v (.int .i64 d), .v (.int .i64 e), .v (.int .i64 f), .im 1 (kidsC ks)]
def kidsC : List PT → List (List AV)
  | [] => []
  | k :: ks => [.pi (partC k)] :: kidsC ks
end
theorem kidsC_snoc (p : PT) : ∀ ks, kidsC (ks ++ [p]) = kidsC ks ++ [[.pi (partC p)]]
  | [] => by simp [kidsC]
  | k :: ks => by simp [kidsC, kidsC_snoc p ks]
@[simp] theorem kidsC_len : ∀ ks, (kidsC ks).length = ks.length
  | [] => rfl
  | k :: ks => by simp [kidsC, kidsC_len ks]
theorem kidsC_cl : ∀ (ks : List PT), ∀ row ∈ kidsC ks, ∀ x ∈ row, cl1 x = true
  | [], row, h, _, _ => by simp [kidsC] at h
  | k :: ks, row, h, x, hx => by
    simp only [kidsC, List.mem_cons] at h
    rcases h with rfl | h
    · simp at hx; subst hx; rfl
    · exact kidsC_cl ks row h x hx
@[simp] theorem nfr_kidsC (ks : List PT) : nfr (kidsC ks) := nfr_of_ok (kidsC_cl ks)
/-- The rule at a place of the list, seen as a rule of the grammar. -/
def ruleAt (g : GrammarT) (tree : List Int) (at' : Nat) : RuleT := g.2.2.getD (tree.getD at' 0).toNat (0, [])
def headOk (g : GrammarT) (tree : List Int) (non : Int) (at' : Nat) : Bool := decide (at' < tree.length) && inR (tree.getD at' 0) 0 ((g.2.2.length : Int) - 1) && decide ((ruleAt g tree at').1 = non)
def kidsF (rd : Int → Nat → List Int → Option PT × List Int) : List Int → Nat → List PT → List Int → Option (List PT × Nat) × List Int
  | [], e, ks, w => (some (ks, e), w)
  | x :: xs, e, ks, w => if x < 0 then kidsF rd xs e ks (w ++ [-1 - x]) else
    match rd x e w with
    | (some p, w') => kidsF rd xs p.fin (ks ++ [p]) w'
    | (none, w') => (none, w')
def readF (g : GrammarT) (tree : List Int) : Nat → Int → Nat → List Int → Option PT × List Int
  | 0, _, _, w => (none, w)
  | f + 1, non, at', w => if headOk g tree non at' then
      match kidsF (readF g tree f) (ruleAt g tree at').2 (at' + 1) [] w with
      | (some (ks, e), w') => (some (.node non (tree.getD at' 0) at' e w.length w'.length ks), w')
      | (none, w') => (none, w')
    else (none, w)
def endK (rd : Int → Nat → Int) : List Int → Nat → Int
  | [], e => e
  | x :: xs, e => if x < 0 then endK rd xs e else if rd x e < 0 then -1 else endK rd xs (rd x e).toNat
def endF (g : GrammarT) (tree : List Int) : Nat → Int → Nat → Int
  | 0, _, _ => -1
  | f + 1, non, at' => if headOk g tree non at' then endK (endF g tree f) (ruleAt g tree at').2 (at' + 1) else -1
theorem headOk_lt {g : GrammarT} {tree : List Int} {non : Int} {at' : Nat} (h : headOk g tree non at' = true) : at' < tree.length := by
  unfold headOk at h
  simp only [Bool.and_eq_true, decide_eq_true_eq] at h
  exact h.1.1
theorem kidsF_props {rd : Int → Nat → List Int → Option PT × List Int} {n : Nat} (hrd : ∀ x e w p w', rd x e w = (some p, w') → e < p.fin ∧ p.fin ≤ n ∧ w'.length ≤ w.length + 4 * (p.fin - e)) :
    ∀ (xs : List Int) (e : Nat) (ks : List PT) (w : List Int) (ks' : List PT) (e' : Nat) (w' : List Int), e ≤ n → kidsF rd xs e ks w = (some (ks', e'), w') → e ≤ e' ∧ e' ≤ n ∧ w'.length ≤ w.length + xs.length + 4 * (e' - e) := by
  intro xs
  induction xs with
  | nil =>
    intro e ks w ks' e' w' he h
    simp only [kidsF, Prod.mk.injEq, Option.some.injEq] at h
    obtain ⟨⟨rfl, rfl⟩, rfl⟩ := h
    simp [he]
  | cons x xs ih =>
    intro e ks w ks' e' w' he h
    unfold kidsF at h
    split at h
    · have := ih e ks _ ks' e' w' he h
      simp at this ⊢
      omega
    · split at h
      · rename_i p w1 hp
        obtain ⟨h1, h2, h3⟩ := hrd x e w p w1 hp
        have := ih p.fin _ w1 ks' e' w' h2 h
        simp at this ⊢
        omega
      · cases h
theorem readF_props {g : GrammarT} (hg : OkG g) (tree : List Int) : ∀ (f : Nat) (non : Int) (at' : Nat) (w : List Int) (p : PT) (w' : List Int), readF g tree f non at' w = (some p, w') → at' < p.fin ∧ p.fin ≤ tree.length ∧ w'.length ≤ w.length + 4 * (p.fin - at') := by
  intro f
  induction f with
  | zero => intro non at' w p w' h; cases h
  | succ f ih =>
    intro non at' w p w' h
    unfold readF at h
    split at h
    · rename_i hh
      have hlt := headOk_lt hh
      split at h
      · rename_i ks e w1 hk
        cases h
        have := kidsF_props (n := tree.length) ih _ _ _ _ _ _ _ (by omega) hk
        have h4 : (ruleAt g tree at').2.length ≤ 4 := by
          unfold ruleAt
          by_cases hr : (tree.getD at' 0).toNat < g.2.2.length
          · rw [List.getD_eq_getElem?_getD, List.getElem?_eq_getElem hr]
            exact hg.r4 _ (List.getElem_mem hr)
          · rw [List.getD_eq_getElem?_getD, List.getElem?_eq_none (by omega)]; simp
        simp only [PT.fin]
        omega
      · cases h
    · cases h
theorem endK_read {rd : Int → Nat → List Int → Option PT × List Int} {rd' : Int → Nat → Int} (h : ∀ x e w, rd' x e = match (rd x e w).1 with | some p => (p.fin : Int) | none => -1) :
    ∀ (xs : List Int) (e : Nat) (ks : List PT) (w : List Int), endK rd' xs e = match (kidsF rd xs e ks w).1 with | some q => (q.2 : Int) | none => -1 := by
  intro xs
  induction xs with
  | nil => intro e ks w; rfl
  | cons x xs ih =>
    intro e ks w
    unfold endK kidsF
    by_cases h0 : x < 0
    · rw [if_pos h0, if_pos h0]
      exact ih e ks _
    · rw [if_neg h0, if_neg h0]
      have hx := h x e w
      generalize rd x e w = q at hx
      obtain ⟨q, w1⟩ := q
      cases q with
      | none =>
        dsimp only at hx
        rw [hx]; rfl
      | some p =>
        dsimp only at hx
        rw [hx, if_neg (Int.not_lt.2 (Int.natCast_nonneg _)), Int.toNat_natCast]
        exact ih _ _ _
theorem end_read (g : GrammarT) (tree : List Int) : ∀ (f : Nat) (non : Int) (at' : Nat) (w : List Int), endF g tree f non at' = match (readF g tree f non at' w).1 with | some p => (p.fin : Int) | none => -1 := by
  intro f
  induction f with
  | zero => intro non at' w; rfl
  | succ f ih =>
    intro non at' w
    unfold endF readF
    split
    · have := endK_read ih (ruleAt g tree at').2 (at' + 1) [] w
      rw [this]
      generalize kidsF (readF g tree f) (ruleAt g tree at').2 (at' + 1) [] w = q
      obtain ⟨q, w1⟩ := q
      cases q <;> rfl
    · rfl
theorem endF_props {g : GrammarT} (hg : OkG g) (tree : List Int) (f : Nat) (non : Int) (at' : Nat) (h : ¬ endF g tree f non at' < 0) : (at' : Int) < endF g tree f non at' ∧ endF g tree f non at' ≤ tree.length := by
  have e := end_read g tree f non at' []
  have hp := readF_props hg tree f non at' []
  generalize readF g tree f non at' [] = q at e hp
  obtain ⟨q, w1⟩ := q
  cases q with
  | none => dsimp only at e; omega
  | some p =>
    dsimp only at e
    have := hp p w1 rfl
    omega
end Go.Proofs.Ytabdnpgahdbciaa.En
end
section
namespace Go.Proofs.Ytabdnpgahdbciaa.En
open Go.RowKit
set_option linter.unusedSimpArgs false
set_option linter.unusedVariables false
set_option maxHeartbeats 8000000
def askedV (g : GrammarT) (non : Int) (tree : List Int) : Bool := goodG g && inR non 0 (g.1 - 1) && decide (tree.length ≤ 60)
theorem getD_at {α : Type} {xs : List α} {i : Nat} {x d : α} (h : xs[i]? = some x) : xs.getD i d = x := by rw [List.getD_eq_getElem?_getD, h]; rfl
/-- The three ways in which a head is not good. -/
theorem head_cases {g : GrammarT} {tree : List Int} {non : Int} {at' : Nat} (h : headOk g tree non at' = false) : tree.length ≤ at' ∨ (∃ z, tree[at']? = some z ∧ inR z 0 ((g.2.2.length : Int) - 1) = false) ∨ ∃ (k : Nat) (r : RuleT), tree[at']? = some (k : Int) ∧ k < g.2.2.length ∧ inR (k : Int) 0 ((g.2.2.length : Int) - 1) = true ∧ g.2.2[k]? = some r ∧ r.1 ≠ non := by
  by_cases h1 : tree.length ≤ at'
  · exact .inl h1
  · have hz : tree[at']? = some tree[at'] := List.getElem?_eq_getElem (by omega)
    generalize tree[at'] = z at hz
    cases h2 : inR z 0 ((g.2.2.length : Int) - 1) with
    | false => exact .inr (.inl ⟨z, hz, h2⟩)
    | true =>
      have h2' : 0 ≤ z ∧ z ≤ (g.2.2.length : Int) - 1 := by simpa [inR] using h2
      obtain ⟨k, rfl⟩ : ∃ k : Nat, z = k := ⟨z.toNat, by omega⟩
      have hk : k < g.2.2.length := by omega
      refine .inr (.inr ⟨k, g.2.2[k], hz, hk, h2, List.getElem?_eq_getElem hk, fun e => ?_⟩)
      unfold headOk ruleAt at h
      rw [getD_at hz, h2, Int.toNat_natCast, getD_at (List.getElem?_eq_getElem hk), decide_eq_true e, decide_eq_true (by omega)] at h
      cases h
theorem head_good {g : GrammarT} {tree : List Int} {non : Int} {at' : Nat} (h : headOk g tree non at' = true) : ∃ (k : Nat) (r : RuleT), at' < tree.length ∧ tree[at']? = some (k : Int) ∧ k < g.2.2.length ∧ inR (k : Int) 0 ((g.2.2.length : Int) - 1) = true ∧ g.2.2[k]? = some r ∧ r.1 = non ∧ ruleAt g tree at' = r ∧ tree.getD at' 0 = k := by
  have hlt := headOk_lt h
  have hz : tree[at']? = some tree[at'] := List.getElem?_eq_getElem hlt
  generalize tree[at'] = z at hz
  unfold headOk ruleAt at h
  rw [getD_at hz] at h
  simp only [Bool.and_eq_true, decide_eq_true_eq] at h
  obtain ⟨⟨_, h2⟩, h3⟩ := h
  have h2' : 0 ≤ z ∧ z ≤ (g.2.2.length : Int) - 1 := by simpa [inR] using h2
  obtain ⟨k, rfl⟩ : ∃ k : Nat, z = k := ⟨z.toNat, by omega⟩
  have hk : k < g.2.2.length := by omega
  have hr : g.2.2[k]? = some g.2.2[k] := List.getElem?_eq_getElem hk
  rw [Int.toNat_natCast, getD_at hr] at h3
  exact ⟨k, g.2.2[k], hlt, hz, hk, h2, hr, h3, by unfold ruleAt; rw [getD_at hz, Int.toNat_natCast, getD_at hr], getD_at hz⟩
def treeEndV (g : GrammarT) (non : Int) (tree : List Int) : Int × Bool := if askedV g non tree && decide (¬ endF g tree 61 non 0 < 0) then (endF g tree 61 non 0, true) else (0, false)
end Go.Proofs.Ytabdnpgahdbciaa.En
end
section
namespace Go.Proofs.Ytabdnpgahdbciaa.En
open Go.RowKit
set_option linter.unusedSimpArgs false
set_option linter.unusedVariables false
set_option maxHeartbeats 8000000
theorem Fz.pbL {bl : List (Nat × Blk)} {n sz : Nat} {k : Blk} {row ys : List AV} (hk : lb bl n = some k) (hx : k.xs = [row]) (hz : k.sz = sz) (h : FzL bl row ys) : Fz bl (.pb n sz 0 0) (.pi ys) := by
  subst hz
  exact .pb n 0 0 k row ys hk (by rw [hx]; rfl) (by rw [List.drop_zero]; exact Nat.le_of_eq h.len) (fun q x y h1 h2 => h.get q x y (by simpa using h1) h2)
theorem symbolOf (x : Int) (h0 : -100 ≤ x) (h1 : x ≤ 100) : Pure Try.prog 51 [.v (.int .i64 x)] (.v (.int .i64 (-1 - x))) := by
  refine Pure.mk (rs := [.tmp 2]) (nt := 5) Try.func51 (by kernel_rfl) rfl rfl rfl (by simp) ?_
  simp only [sl]
  have hw : wr64 (-1 - x) = -1 - x := wr64_id (by omega) (by omega)
  repeat' first
    | refine Holds.seq ?_
    | refine Holds.skip ?_
    | refine Holds.exit ?_
    | refine Holds.ret ?_
    | refine thenA_normal ?_
    | refine thenA_exit ?_
    | refine thenA_ret ?_
    | refine inB_normal ?_
    | refine inB_ret ?_
    | refine inB_here ?_
    | (refine inB_past ?_ ?_; (· exact rfl))
    | refine Holds.reg ?_
    | refine Holds.block ?_
    | refine GS.nil ?_
    | (refine GS.step (s' := ?_) ?_ ?_ ?_; rotate_left; (· exact rfl); (· (simp [go_sem, List.take_of_length_le, hw] <;> with_reducible rfl)))
    | (refine GS.skip ?_ ?_ ?_; (· exact rfl); (· exact rfl))
    | fail
  refine Out.mk (xs := ?_) ?_ ?_ (by first | exact .inr rfl | exact .inl rfl)
  rotate_left
  · simp [go_sem, List.take_of_length_le] <;> with_reducible rfl
  exact .v _
def ptr : Option PT → AV
  | some p => .pi (partC p)
  | none => .v (.pointer none)
theorem partC_fin (p : PT) : (partC p)[3]? = some (.v (.int .i64 p.fin)) := by
  obtain ⟨a, b, c, d, e, f, ks⟩ := p
  rfl
end Go.Proofs.Ytabdnpgahdbciaa.En
end
section
namespace Go.Proofs.Ytabdnpgahdbciaa.En
open Go.RowKit
set_option linter.unusedSimpArgs false
set_option linter.unusedVariables false
set_option maxHeartbeats 8000000
end Go.Proofs.Ytabdnpgahdbciaa.En
end
section
namespace Go.Proofs.Ytabdnpgahdbciaa.En
open Go.RowKit
set_option linter.unusedSimpArgs false
set_option linter.unusedVariables false
theorem kids_shift {rd : Int → Nat → List Int → Option PT × List Int} (h : ∀ x e w, (rd x e w).2 = w ++ (rd x e []).2 ∧ (rd x e w).1.map PT.fin = (rd x e []).1.map PT.fin) :
    ∀ (xs : List Int) (e : Nat) (ks ks0 : List PT) (w : List Int), (kidsF rd xs e ks w).2 = w ++ (kidsF rd xs e ks0 []).2 ∧ (kidsF rd xs e ks w).1.map (·.2) = (kidsF rd xs e ks0 []).1.map (·.2) := by
  intro xs
  induction xs with
  | nil => intro e ks ks0 w; simp [kidsF]
  | cons x xs ih =>
    intro e ks ks0 w
    unfold kidsF
    by_cases h0 : x < 0
    · rw [if_pos h0, if_pos h0]
      obtain ⟨a1, a2⟩ := ih e ks ks (w ++ [-1 - x])
      obtain ⟨b1, b2⟩ := ih e ks0 ks ([] ++ [-1 - x])
      exact ⟨by rw [a1, b1]; simp, by rw [a2, b2]⟩
    · rw [if_neg h0, if_neg h0]
      obtain ⟨g1, g2⟩ := h x e w
      generalize rd x e w = q at g1 g2
      generalize rd x e [] = q0 at g1 g2
      obtain ⟨q, w1⟩ := q
      obtain ⟨q0, w0⟩ := q0
      dsimp only at g1 g2
      subst g1
      cases q with
      | none =>
        cases q0 with
        | none => exact ⟨rfl, rfl⟩
        | some p0 => simp at g2
      | some p =>
        cases q0 with
        | none => simp at g2
        | some p0 =>
          have hf : p.fin = p0.fin := by simpa using g2
          dsimp only
          obtain ⟨a1, a2⟩ := ih p.fin (ks ++ [p]) (ks ++ [p]) (w ++ w0)
          obtain ⟨b1, b2⟩ := ih p0.fin (ks0 ++ [p0]) (ks ++ [p]) w0
          rw [← hf] at b1 b2
          exact ⟨by rw [a1, ← hf, b1]; simp, by rw [a2, ← hf, b2]⟩
theorem read_shift (g : GrammarT) (tree : List Int) : ∀ (f : Nat) (non : Int) (at' : Nat) (w : List Int), (readF g tree f non at' w).2 = w ++ (readF g tree f non at' []).2 ∧ (readF g tree f non at' w).1.map PT.fin = (readF g tree f non at' []).1.map PT.fin := by
  intro f
  induction f with
  | zero => intro non at' w; simp [readF]
  | succ f ih =>
    intro non at' w
    unfold readF
    split
    · obtain ⟨h1, h2⟩ := kids_shift ih (ruleAt g tree at').2 (at' + 1) [] [] w
      generalize kidsF (readF g tree f) (ruleAt g tree at').2 (at' + 1) [] w = q at h1 h2
      generalize kidsF (readF g tree f) (ruleAt g tree at').2 (at' + 1) [] [] = q0 at h1 h2
      obtain ⟨q, w1⟩ := q
      obtain ⟨q0, w0⟩ := q0
      dsimp only at h1 h2
      subst h1
      cases q with
      | none =>
        cases q0 with
        | none => exact ⟨rfl, rfl⟩
        | some p0 => simp at h2
      | some p =>
        cases q0 with
        | none => simp at h2
        | some p0 =>
          have hf : p.2 = p0.2 := by simpa using h2
          obtain ⟨k, e⟩ := p
          obtain ⟨k0, e0⟩ := p0
          dsimp only at hf
          subst hf
          exact ⟨rfl, rfl⟩
    · simp
/-- A rule's place. -/
def inTree (g : GrammarT) (tree : List Int) (i : Nat) : Prop := ∃ k : Nat, tree[i]? = some (k : Int) ∧ k < g.2.2.length
theorem kids_cover {g : GrammarT} {tree : List Int} {rd : Int → Nat → List Int → Option PT × List Int} (h : ∀ x e w p w', rd x e w = (some p, w') → e < p.fin ∧ ∀ i, e ≤ i → i < p.fin → inTree g tree i) :
    ∀ (xs : List Int) (e : Nat) (ks : List PT) (w : List Int) (ks' : List PT) (e' : Nat) (w' : List Int), kidsF rd xs e ks w = (some (ks', e'), w') → e ≤ e' ∧ ∀ i, e ≤ i → i < e' → inTree g tree i := by
  intro xs
  induction xs with
  | nil =>
    intro e ks w ks' e' w' h
    simp only [kidsF, Prod.mk.injEq, Option.some.injEq] at h
    obtain ⟨⟨rfl, rfl⟩, rfl⟩ := h
    exact ⟨Nat.le_refl _, fun i h1 h2 => absurd h2 (by omega)⟩
  | cons x xs ih =>
    intro e ks w ks' e' w' hk
    unfold kidsF at hk
    by_cases h0 : x < 0
    · rw [if_pos h0] at hk
      exact ih _ _ _ _ _ _ hk
    · rw [if_neg h0] at hk
      split at hk
      · rename_i p w1 hp
        obtain ⟨g1, g2⟩ := h x e w p w1 hp
        obtain ⟨k1, k2⟩ := ih _ _ _ _ _ _ hk
        refine ⟨by omega, fun i h1 h2 => ?_⟩
        by_cases hi : i < p.fin
        · exact g2 i h1 hi
        · exact k2 i (by omega) h2
      · cases hk
theorem read_cover (g : GrammarT) (tree : List Int) : ∀ (f : Nat) (non : Int) (at' : Nat) (w : List Int) (p : PT) (w' : List Int), readF g tree f non at' w = (some p, w') → at' < p.fin ∧ ∀ i, at' ≤ i → i < p.fin → inTree g tree i := by
  intro f
  induction f with
  | zero => intro non at' w p w' h; cases h
  | succ f ih =>
    intro non at' w p w' h
    unfold readF at h
    split at h
    · rename_i hh
      obtain ⟨k, r, hlt, hz, hk, _⟩ := head_good hh
      split at h
      · rename_i ks e w1 hkk
        cases h
        obtain ⟨a, b⟩ := kids_cover ih _ _ _ _ _ _ _ hkk
        refine ⟨by simp only [PT.fin]; omega, fun i h1 h2 => ?_⟩
        simp only [PT.fin] at h2
        by_cases hi : i = at'
        · subst hi; exact ⟨k, hz, hk⟩
        · exact b i (by omega) h2
      · cases h
    · cases h
/-- Is the list a tree of the nonterminal? -/
def isTreeV (g : GrammarT) (non : Int) (tree : List Int) : Bool := decide (endF g tree 61 non 0 = tree.length)
end Go.Proofs.Ytabdnpgahdbciaa.En
end
section
namespace Go.Proofs.Ytabdnpgahdbciaa.En
open Go.RowKit
set_option linter.unusedSimpArgs false
set_option linter.unusedVariables false
set_option maxHeartbeats 8000000
def wordV (toks : Int) (w : List Int) : Bool := decide (w.length ≤ 10) && w.all fun n => inR n 0 (toks - 1)
theorem l1Word (g : GrammarT) (w : List Int) (h0 : -1000000 ≤ g.2.1) (h1 : g.2.1 ≤ 1000000) (hw : w.length < 4611686018427387904) : Pure Try.prog 56 [.ag (grammarC g), .im 1 (ints w)] (.v (.bool (wordV g.2.1 w))) := by
  refine Pure.mk (rs := [.tmp 4]) (nt := 15) Try.func56 (by kernel_rfl) rfl rfl rfl (by simp) ?_
  simp only [sl, grammarC]
  have hws : wr64 (g.2.1 - 1) = g.2.1 - 1 := wr64_id (by omega) (by omega)
  have c := l1All w 0 (g.2.1 - 1) hw
  unfold wordV
  rw [show decide (w.length ≤ 10) = decide ((w.length : Int) ≤ 10) by rw [decide_eq_decide]; omega]
  generalize (w.all fun n => inR n 0 (g.2.1 - 1)) = b at c
  repeat' first
    | refine Holds.seq ?_
    | refine Holds.skip ?_
    | refine Holds.exit ?_
    | refine Holds.ret ?_
    | refine thenA_normal ?_
    | refine thenA_exit ?_
    | refine thenA_ret ?_
    | refine inB_normal ?_
    | refine inB_ret ?_
    | refine inB_here ?_
    | (refine inB_past ?_ ?_; (· exact rfl))
    | refine Holds.reg ?_
    | refine Holds.block ?_
    | refine GS.nil ?_
    | (refine GS.step (s' := ?_) ?_ ?_ ?_; rotate_left; (· exact rfl); (· (simp [go_sem, List.take_of_length_le] <;> with_reducible rfl)))
    | (refine GS.skip ?_ ?_ ?_; (· exact rfl); (· exact rfl))
    | fail
  refine GS.guard (t := 8) rfl (fun h => ?_) (fun h => ?_)
  · repeat' first
      | refine Holds.seq ?_
      | refine Holds.skip ?_
      | refine Holds.exit ?_
      | refine Holds.ret ?_
      | refine thenA_normal ?_
      | refine thenA_exit ?_
      | refine thenA_ret ?_
      | refine inB_normal ?_
      | refine inB_ret ?_
      | refine inB_here ?_
      | (refine inB_past ?_ ?_; (· exact rfl))
      | refine Holds.reg ?_
      | refine Holds.block ?_
      | refine GS.nil ?_
      | (refine GS.step (s' := ?_) ?_ ?_ ?_; rotate_left; (· exact rfl); (· (simp [go_sem, List.take_of_length_le, hws] <;> with_reducible rfl)))
      | (refine GS.skip ?_ ?_ ?_; (· exact rfl); (· exact rfl))
      | fail
    refine GS.cc (c) rfl rfl rfl rfl (by simp [go_sem, List.take_of_length_le] <;> with_reducible rfl) rfl (by simp [go_sem, List.take_of_length_le]) ?_
    repeat' first
      | refine Holds.seq ?_
      | refine Holds.skip ?_
      | refine Holds.exit ?_
      | refine Holds.ret ?_
      | refine thenA_normal ?_
      | refine thenA_exit ?_
      | refine thenA_ret ?_
      | refine inB_normal ?_
      | refine inB_ret ?_
      | refine inB_here ?_
      | (refine inB_past ?_ ?_; (· exact rfl))
      | refine Holds.reg ?_
      | refine Holds.block ?_
      | refine GS.nil ?_
      | (refine GS.step (s' := ?_) ?_ ?_ ?_; rotate_left; (· exact rfl); (· (simp [go_sem, List.take_of_length_le] <;> with_reducible rfl)))
      | (refine GS.skip ?_ ?_ ?_; (· exact rfl); (· exact rfl))
      | fail
    rw [h]
    refine Out.mk (xs := ?_) ?_ ?_ (by first | exact .inr rfl | exact .inl rfl)
    rotate_left
    · simp [go_sem, List.take_of_length_le] <;> with_reducible rfl
    exact .v _
  · repeat' first
      | refine Holds.seq ?_
      | refine Holds.skip ?_
      | refine Holds.exit ?_
      | refine Holds.ret ?_
      | refine thenA_normal ?_
      | refine thenA_exit ?_
      | refine thenA_ret ?_
      | refine inB_normal ?_
      | refine inB_ret ?_
      | refine inB_here ?_
      | (refine inB_past ?_ ?_; (· exact rfl))
      | refine Holds.reg ?_
      | refine Holds.block ?_
      | refine GS.nil ?_
      | (refine GS.step (s' := ?_) ?_ ?_ ?_; rotate_left; (· exact rfl); (· (simp [go_sem, List.take_of_length_le] <;> with_reducible rfl)))
      | (refine GS.skip ?_ ?_ ?_; (· exact rfl); (· exact rfl))
      | fail
    rw [h]
    refine Out.mk (xs := ?_) ?_ ?_ (by first | exact .inr rfl | exact .inl rfl)
    rotate_left
    · simp [go_sem, List.take_of_length_le] <;> with_reducible rfl
    exact .v _
theorem goodWord (g : GrammarT) (w : List Int) (hx : g.2.2.length < 4611686018427387904) (hs : ∀ e ∈ g.2.2, e.2.length < 4611686018427387904) (hw : w.length < 4611686018427387904) : Pure Try.prog 30 [.ag (grammarC g), .im 1 (ints w)] (.v (.bool (goodG g && wordV g.2.1 w))) := by
  refine Pure.mk (rs := [.tmp 4]) (nt := 12) Try.func30 (by kernel_rfl) rfl rfl rfl (by simp) ?_
  simp only [sl, grammarC]
  have c1 := specGoodG g hx hs
  generalize hg : goodG g = b at c1
  repeat' first
    | refine Holds.seq ?_
    | refine Holds.skip ?_
    | refine Holds.exit ?_
    | refine Holds.ret ?_
    | refine thenA_normal ?_
    | refine thenA_exit ?_
    | refine thenA_ret ?_
    | refine inB_normal ?_
    | refine inB_ret ?_
    | refine inB_here ?_
    | (refine inB_past ?_ ?_; (· exact rfl))
    | refine Holds.reg ?_
    | refine Holds.block ?_
    | refine GS.nil ?_
    | (refine GS.step (s' := ?_) ?_ ?_ ?_; rotate_left; (· exact rfl); (· (simp [go_sem, List.take_of_length_le] <;> with_reducible rfl)))
    | (refine GS.skip ?_ ?_ ?_; (· exact rfl); (· exact rfl))
    | fail
  refine GS.cc (c1) rfl rfl rfl rfl (by simp [go_sem, List.take_of_length_le, grammarC] <;> with_reducible rfl) rfl (by simp [go_sem, List.take_of_length_le, grammarC]) ?_
  repeat' first
    | refine Holds.seq ?_
    | refine Holds.skip ?_
    | refine Holds.exit ?_
    | refine Holds.ret ?_
    | refine thenA_normal ?_
    | refine thenA_exit ?_
    | refine thenA_ret ?_
    | refine inB_normal ?_
    | refine inB_ret ?_
    | refine inB_here ?_
    | (refine inB_past ?_ ?_; (· exact rfl))
    | refine Holds.reg ?_
    | refine Holds.block ?_
    | refine GS.nil ?_
    | (refine GS.step (s' := ?_) ?_ ?_ ?_; rotate_left; (· exact rfl); (· (simp [go_sem, List.take_of_length_le] <;> with_reducible rfl)))
    | (refine GS.skip ?_ ?_ ?_; (· exact rfl); (· exact rfl))
    | fail
  refine GS.guard (t := 7) rfl (fun h => ?_) (fun h => ?_)
  · subst h
    have hok := goodG_ok hg
    repeat' first
      | refine Holds.seq ?_
      | refine Holds.skip ?_
      | refine Holds.exit ?_
      | refine Holds.ret ?_
      | refine thenA_normal ?_
      | refine thenA_exit ?_
      | refine thenA_ret ?_
      | refine inB_normal ?_
      | refine inB_ret ?_
      | refine inB_here ?_
      | (refine inB_past ?_ ?_; (· exact rfl))
      | refine Holds.reg ?_
      | refine Holds.block ?_
      | refine GS.nil ?_
      | (refine GS.step (s' := ?_) ?_ ?_ ?_; rotate_left; (· exact rfl); (· (simp [go_sem, List.take_of_length_le, grammarC] <;> with_reducible rfl)))
      | (refine GS.skip ?_ ?_ ?_; (· exact rfl); (· exact rfl))
      | fail
    refine GS.cc (l1Word g w (by have := hok.t0; omega) (by have := hok.t1; omega) hw) rfl rfl rfl rfl (by simp [go_sem, List.take_of_length_le, grammarC] <;> with_reducible rfl) rfl (by simp [go_sem, List.take_of_length_le, grammarC]) ?_
    repeat' first
      | refine Holds.seq ?_
      | refine Holds.skip ?_
      | refine Holds.exit ?_
      | refine Holds.ret ?_
      | refine thenA_normal ?_
      | refine thenA_exit ?_
      | refine thenA_ret ?_
      | refine inB_normal ?_
      | refine inB_ret ?_
      | refine inB_here ?_
      | (refine inB_past ?_ ?_; (· exact rfl))
      | refine Holds.reg ?_
      | refine Holds.block ?_
      | refine GS.nil ?_
      | (refine GS.step (s' := ?_) ?_ ?_ ?_; rotate_left; (· exact rfl); (· (simp [go_sem, List.take_of_length_le] <;> with_reducible rfl)))
      | (refine GS.skip ?_ ?_ ?_; (· exact rfl); (· exact rfl))
      | fail
    refine Out.mk (xs := ?_) ?_ ?_ (by first | exact .inr rfl | exact .inl rfl)
    rotate_left
    · simp [go_sem, List.take_of_length_le] <;> with_reducible rfl
    exact .v _
  · subst h
    repeat' first
      | refine Holds.seq ?_
      | refine Holds.skip ?_
      | refine Holds.exit ?_
      | refine Holds.ret ?_
      | refine thenA_normal ?_
      | refine thenA_exit ?_
      | refine thenA_ret ?_
      | refine inB_normal ?_
      | refine inB_ret ?_
      | refine inB_here ?_
      | (refine inB_past ?_ ?_; (· exact rfl))
      | refine Holds.reg ?_
      | refine Holds.block ?_
      | refine GS.nil ?_
      | (refine GS.step (s' := ?_) ?_ ?_ ?_; rotate_left; (· exact rfl); (· (simp [go_sem, List.take_of_length_le] <;> with_reducible rfl)))
      | (refine GS.skip ?_ ?_ ?_; (· exact rfl); (· exact rfl))
      | fail
    refine Out.mk (xs := ?_) ?_ ?_ (by first | exact .inr rfl | exact .inl rfl)
    rotate_left
    · simp [go_sem, List.take_of_length_le] <;> with_reducible rfl
    exact .v _
end Go.Proofs.Ytabdnpgahdbciaa.En
end
section
namespace Go.Proofs.Ytabdnpgahdbciaa.En
open Go.RowKit
set_option linter.unusedSimpArgs false
set_option linter.unusedVariables false
set_option maxHeartbeats 8000000
theorem gB_at2 {B : List Int} {k : Nat} {b : Int} (h : B[k]? = some b) : gB B k = b := by
  unfold gB
  rw [Int.toNat_natCast, List.getD_eq_getElem?_getD, h]; rfl
theorem endF_nil (g : GrammarT) (non : Int) : ∀ f, endF g [] f non 0 = -1
  | 0 => rfl
  | f + 1 => by
    unfold endF
    rw [show headOk g [] non 0 = false by unfold headOk; simp]
    rfl
def sumT (cs tree : List Int) : Int := tree.foldl (fun n r => n + gB cs r) 0
theorem isTree_facts {g : GrammarT} {tree : List Int} (h : isTreeV g 0 tree = true) : (∃ p w, readF g tree 61 0 0 [] = (some p, w) ∧ p.fin = tree.length) ∧ ∀ i, i < tree.length → inTree g tree i := by
  unfold isTreeV at h
  have h := of_decide_eq_true h
  have e := end_read g tree 61 0 0 []
  rw [h] at e
  have hc := read_cover g tree 61 0 0 []
  generalize readF g tree 61 0 0 [] = q at e hc
  obtain ⟨q, w⟩ := q
  cases q with
  | none => dsimp only at e; omega
  | some p =>
    dsimp only at e
    have hf : p.fin = tree.length := by omega
    exact ⟨⟨p, w, rfl, hf⟩, fun i hi => (hc p w rfl).2 i (by omega) (by omega)⟩
def costV (g : GrammarT) (cs tree : List Int) : Int × Bool := if goodC g cs && decide (tree.length ≤ 60) && isTreeV g 0 tree then (sumT cs tree, true) else (0, false)
end Go.Proofs.Ytabdnpgahdbciaa.En
end
section
namespace Go.Proofs.Ytabdnpgahdbciaa.En
open Go.RowKit
set_option linter.unusedSimpArgs false
set_option linter.unusedVariables false
set_option maxHeartbeats 8000000
theorem ints_c1 (xs : List Int) : ((ints xs).all fun r => r.all c1) = true := by
  rw [List.all_eq_true]
  intro row hr
  simp only [ints, List.mem_map] at hr
  obtain ⟨n, _, rfl⟩ := hr
  rfl
theorem isWord1 (n t : Int) (h0 : -1000000 ≤ t) (h1 : t ≤ 1000000) : Pure Try.prog 63 [.v (.int .i64 n), .pi [.v (.int .i64 t)]] (.v (.bool (!inR n 0 (t - 1)))) := by
  refine Pure.mk (rs := [.tmp 3]) (nt := 9) Try.func63 (by kernel_rfl) rfl rfl rfl (by simp) ?_
  simp only [sl]
  have hw : wr64 (t - 1) = t - 1 := wr64_id (by omega) (by omega)
  repeat' first
    | refine Holds.seq ?_
    | refine Holds.skip ?_
    | refine Holds.exit ?_
    | refine Holds.ret ?_
    | refine thenA_normal ?_
    | refine thenA_exit ?_
    | refine thenA_ret ?_
    | refine inB_normal ?_
    | refine inB_ret ?_
    | refine inB_here ?_
    | (refine inB_past ?_ ?_; (· exact rfl))
    | refine Holds.reg ?_
    | refine Holds.block ?_
    | refine GS.nil ?_
    | (refine GS.step (s' := ?_) ?_ ?_ ?_; rotate_left; (· exact rfl); (· (simp [go_sem, List.take_of_length_le, hw] <;> with_reducible rfl)))
    | (refine GS.skip ?_ ?_ ?_; (· exact rfl); (· exact rfl))
    | fail
  refine GS.cc (implIn n 0 (t - 1)) rfl rfl rfl rfl (by simp [go_sem, List.take_of_length_le] <;> with_reducible rfl) rfl (by simp [go_sem, List.take_of_length_le]) ?_
  repeat' first
    | refine Holds.seq ?_
    | refine Holds.skip ?_
    | refine Holds.exit ?_
    | refine Holds.ret ?_
    | refine thenA_normal ?_
    | refine thenA_exit ?_
    | refine thenA_ret ?_
    | refine inB_normal ?_
    | refine inB_ret ?_
    | refine inB_here ?_
    | (refine inB_past ?_ ?_; (· exact rfl))
    | refine Holds.reg ?_
    | refine Holds.block ?_
    | refine GS.nil ?_
    | (refine GS.step (s' := ?_) ?_ ?_ ?_; rotate_left; (· exact rfl); (· (simp [go_sem, List.take_of_length_le] <;> with_reducible rfl)))
    | (refine GS.skip ?_ ?_ ?_; (· exact rfl); (· exact rfl))
    | fail
  refine Out.mk (xs := ?_) ?_ ?_ (by first | exact .inr rfl | exact .inl rfl)
  rotate_left
  · simp [go_sem, List.take_of_length_le] <;> with_reducible rfl
  exact .v _
theorem isWord (t : Int) (w : List Int) (h0 : -1000000 ≤ t) (h1 : t ≤ 1000000) (hw : w.length < 4611686018427387904) : Pure Try.prog 34 [.v (.int .i64 t), .im 1 (ints w)] (.v (.bool (wordV t w))) := by
  refine Pure.mk (rs := [.tmp 4]) (nt := 14) Try.func34 (by kernel_rfl) rfl rfl rfl (by simp) ?_
  simp only [sl]
  have hc := containsFuncInt 63 [.pi [.v (.int .i64 t)]] (fun n => !inR n 0 (t - 1)) w hw rfl (fun x _ => isWord1 x t h0 h1)
  unfold wordV
  rw [all_not_any (fun n => inR n 0 (t - 1)) w, show decide (w.length ≤ 10) = decide ((w.length : Int) ≤ 10) by rw [decide_eq_decide]; omega]
  generalize (w.any fun n => !inR n 0 (t - 1)) = b at hc
  repeat' first
    | refine Holds.seq ?_
    | refine Holds.skip ?_
    | refine Holds.exit ?_
    | refine Holds.ret ?_
    | refine thenA_normal ?_
    | refine thenA_exit ?_
    | refine thenA_ret ?_
    | refine inB_normal ?_
    | refine inB_ret ?_
    | refine inB_here ?_
    | (refine inB_past ?_ ?_; (· exact rfl))
    | refine Holds.reg ?_
    | refine Holds.block ?_
    | refine GS.nil ?_
    | (refine GS.step (s' := ?_) ?_ ?_ ?_; rotate_left; (· exact rfl); (· (simp [go_sem, List.take_of_length_le] <;> with_reducible rfl)))
    | (refine GS.skip ?_ ?_ ?_; (· exact rfl); (· exact rfl))
    | fail
  refine GS.guard (t := 8) rfl (fun h => ?_) (fun h => ?_)
  · repeat' first
      | refine Holds.seq ?_
      | refine Holds.skip ?_
      | refine Holds.exit ?_
      | refine Holds.ret ?_
      | refine thenA_normal ?_
      | refine thenA_exit ?_
      | refine thenA_ret ?_
      | refine inB_normal ?_
      | refine inB_ret ?_
      | refine inB_here ?_
      | (refine inB_past ?_ ?_; (· exact rfl))
      | refine Holds.reg ?_
      | refine Holds.block ?_
      | refine GS.nil ?_
      | (refine GS.step (s' := ?_) ?_ ?_ ?_; rotate_left; (· exact rfl); (· (simp [go_sem, List.take_of_length_le] <;> with_reducible rfl)))
      | (refine GS.skip ?_ ?_ ?_; (· exact rfl); (· exact rfl))
      | fail
    refine GS.cd (hc) rfl rfl rfl rfl (by simp [go_sem, List.take_of_length_le] <;> with_reducible rfl) rfl (by exact .cons (.im _ _) (.cons (Fz.fnL (.cons (Fz.box rfl rfl rfl rfl) .nil)) .nil)) rfl ?_
    repeat' first
      | refine Holds.seq ?_
      | refine Holds.skip ?_
      | refine Holds.exit ?_
      | refine Holds.ret ?_
      | refine thenA_normal ?_
      | refine thenA_exit ?_
      | refine thenA_ret ?_
      | refine inB_normal ?_
      | refine inB_ret ?_
      | refine inB_here ?_
      | (refine inB_past ?_ ?_; (· exact rfl))
      | refine Holds.reg ?_
      | refine Holds.block ?_
      | refine GS.nil ?_
      | (refine GS.step (s' := ?_) ?_ ?_ ?_; rotate_left; (· exact rfl); (· (simp [go_sem, List.take_of_length_le] <;> with_reducible rfl)))
      | (refine GS.skip ?_ ?_ ?_; (· exact rfl); (· exact rfl))
      | fail
    rw [h]
    refine Out.mk (xs := ?_) ?_ ?_ (by first | exact .inr rfl | exact .inl rfl)
    rotate_left
    · simp [go_sem, List.take_of_length_le] <;> with_reducible rfl
    exact .v _
  · repeat' first
      | refine Holds.seq ?_
      | refine Holds.skip ?_
      | refine Holds.exit ?_
      | refine Holds.ret ?_
      | refine thenA_normal ?_
      | refine thenA_exit ?_
      | refine thenA_ret ?_
      | refine inB_normal ?_
      | refine inB_ret ?_
      | refine inB_here ?_
      | (refine inB_past ?_ ?_; (· exact rfl))
      | refine Holds.reg ?_
      | refine Holds.block ?_
      | refine GS.nil ?_
      | (refine GS.step (s' := ?_) ?_ ?_ ?_; rotate_left; (· exact rfl); (· (simp [go_sem, List.take_of_length_le] <;> with_reducible rfl)))
      | (refine GS.skip ?_ ?_ ?_; (· exact rfl); (· exact rfl))
      | fail
    rw [h]
    refine Out.mk (xs := ?_) ?_ ?_ (by first | exact .inr rfl | exact .inl rfl)
    rotate_left
    · simp [go_sem, List.take_of_length_le] <;> with_reducible rfl
    exact .v _
def isTV (g : GrammarT) (w tree : List Int) : Bool × Bool := if goodG g && wordV g.2.1 w && decide (tree.length ≤ 60) then (isTreeV g 0 tree && decide ((readF g tree 61 0 0 []).2 = w), true) else (false, false)
end Go.Proofs.Ytabdnpgahdbciaa.En
end
section
namespace Go.Proofs.Ytabdnpgahdbciaa.En
open Go.RowKit
set_option linter.unusedSimpArgs false
set_option linter.unusedVariables false
set_option maxHeartbeats 8000000
theorem accI_N (g : GrammarT) (r d f : Nat) : accI g (itemN r d f) = (decide ((ruleN g r).1 = 0) && decide ((f : Int) = 0) && decide ((d : Int) = ((ruleN g r).2.length : Int))) := rfl
theorem l13Accepts (g : GrammarT) (hg : goodG g = true) (w : List Int) (hw : w.length ≤ 10) : Pure Try.prog 31 [.ag (grammarC g), .im 1 (ints w)] (.v (.bool (earlyB g w))) := by
  have cs := l13Sets g hg w hw
  have hR := setsC_R hg hw
  have hfin := early_any hR.1 hR.2.2
  have hok : ∀ x ∈ at3 (setsC g w) w.length, okI g w w.length x := fun x hx => hR.1.ok _ x hx
  have hlen : w.length < (setsC g w).length := by rw [hR.1.ln]; omega
  have hs := at3_get hlen
  have hfew := hR.1.few hg hw w.length
  rw [← hfin]
  generalize setsC g w = sets at cs hs hlen hok hfew ⊢
  generalize at3 sets w.length = S at hs hok hfew ⊢
  refine Pure.mk (rs := [.tmp 4]) (nt := 46) Try.func31 (by kernel_rfl) rfl rfl rfl (by simp) ?_
  simp only [sl, grammarC]
  repeat' first
    | (refine Holds.condT ?_ ?_; (· (simp [go_sem, List.take_of_length_le, grammarC] <;> with_reducible rfl)))
    | (refine Holds.condF ?_ ?_; (· (simp [go_sem, List.take_of_length_le, grammarC] <;> with_reducible rfl)))
    | refine Holds.seq ?_
    | refine Holds.skip ?_
    | refine Holds.exit ?_
    | refine Holds.ret ?_
    | refine thenA_normal ?_
    | refine thenA_exit ?_
    | refine thenA_ret ?_
    | refine inB_normal ?_
    | refine inB_ret ?_
    | refine inB_here ?_
    | (refine inB_past ?_ ?_; (· exact rfl))
    | refine Holds.reg ?_
    | refine Holds.block ?_
    | refine GS.nil ?_
    | refine Gd.nil ?_
    | (refine Holds.any mixed ?_ ?_; (· kernel_rfl))
    | (refine GS.step (s' := ?_) ?_ ?_ ?_; rotate_left; (· exact rfl); (· (simp [go_sem, List.take_of_length_le, grammarC] <;> with_reducible rfl)))
    | (refine GS.skip ?_ ?_ ?_; (· exact rfl); (· exact rfl))
    | (refine Gd.go (s' := ?_) ?_ ?_ ?_; rotate_left; (· exact rfl); (· (simp [go_sem, List.take_of_length_le, grammarC] <;> with_reducible rfl)))
    | (refine Gd.skip ?_ ?_ ?_; (· exact rfl); (· exact rfl))
    | fail
  first | refine GS.cc (cs) rfl rfl rfl rfl (by simp [go_sem, List.take_of_length_le, grammarC] <;> with_reducible rfl) rfl (by simp [go_sem, List.take_of_length_le, grammarC]) ?_ | refine Gd.cc (cs) rfl rfl rfl rfl (by simp [go_sem, List.take_of_length_le, grammarC] <;> with_reducible rfl) rfl (by simp [go_sem, List.take_of_length_le, grammarC]) ?_
  repeat' first
    | (refine Holds.condT ?_ ?_; (· (simp [go_sem, List.take_of_length_le, hlen, get_E hs, hs, itemssC] <;> with_reducible rfl)))
    | (refine Holds.condF ?_ ?_; (· (simp [go_sem, List.take_of_length_le, hlen, get_E hs, hs, itemssC] <;> with_reducible rfl)))
    | refine Holds.seq ?_
    | refine Holds.skip ?_
    | refine Holds.exit ?_
    | refine Holds.ret ?_
    | refine thenA_normal ?_
    | refine thenA_exit ?_
    | refine thenA_ret ?_
    | refine inB_normal ?_
    | refine inB_ret ?_
    | refine inB_here ?_
    | (refine inB_past ?_ ?_; (· exact rfl))
    | refine Holds.reg ?_
    | refine Holds.block ?_
    | refine GS.nil ?_
    | refine Gd.nil ?_
    | (refine Holds.any mixed ?_ ?_; (· kernel_rfl))
    | (refine GS.step (s' := ?_) ?_ ?_ ?_; rotate_left; (· exact rfl); (· (simp [go_sem, List.take_of_length_le, hlen, get_E hs, hs, itemssC] <;> with_reducible rfl)))
    | (refine GS.skip ?_ ?_ ?_; (· exact rfl); (· exact rfl))
    | (refine Gd.go (s' := ?_) ?_ ?_ ?_; rotate_left; (· exact rfl); (· (simp [go_sem, List.take_of_length_le, hlen, get_E hs, hs, itemssC] <;> with_reducible rfl)))
    | (refine Gd.skip ?_ ?_ ?_; (· exact rfl); (· exact rfl))
    | fail
  refine Holds.loop (ι := Nat) (fun i => ⟨[(2, .pb 0 3 0 0), (13, .im 3 (nodes S)), (14, .v (.int .i64 S.length)), (15, .v (.int .i64 i))], [(0, ⟨31, 3, [grammarC g]⟩)], 1⟩) (fun i => i ≤ S.length ∧ (S.take i).any (accI g) = false) (fun i => S.length - i) 0 ⟨Nat.zero_le _, rfl⟩ ?_ ?_
  · exact Cov.ofn (id) rfl (by simp [go_sem, List.take_of_length_le, ren, ren1, ren2, okr, okr1, okr2, ChkT, ChkN, BlkN, nf, grammarC]) (by simp [go_sem, List.take_of_length_le, ren, ren1, ren2, okr, okr1, okr2, ChkT, ChkN, BlkN, nf, grammarC])
  rintro i ⟨hi, hno⟩
  have stepi : wr64 ((i : Int) + 1) = ((i + 1 : Nat) : Int) := wr64_id (by omega) (by omega)
  repeat' first
    | (refine Holds.condT ?_ ?_; (· (simp [go_sem, List.take_of_length_le] <;> with_reducible rfl)))
    | (refine Holds.condF ?_ ?_; (· (simp [go_sem, List.take_of_length_le] <;> with_reducible rfl)))
    | refine Holds.seq ?_
    | refine Holds.skip ?_
    | refine Holds.exit ?_
    | refine Holds.ret ?_
    | refine thenA_normal ?_
    | refine thenA_exit ?_
    | refine thenA_ret ?_
    | refine inB_normal ?_
    | refine inB_ret ?_
    | refine inB_here ?_
    | (refine inB_past ?_ ?_; (· exact rfl))
    | refine Holds.reg ?_
    | refine Holds.block ?_
    | refine GS.nil ?_
    | refine Gd.nil ?_
    | (refine Holds.any mixed ?_ ?_; (· kernel_rfl))
    | (refine GS.step (s' := ?_) ?_ ?_ ?_; rotate_left; (· exact rfl); (· (simp [go_sem, List.take_of_length_le] <;> with_reducible rfl)))
    | (refine GS.skip ?_ ?_ ?_; (· exact rfl); (· exact rfl))
    | (refine Gd.go (s' := ?_) ?_ ?_ ?_; rotate_left; (· exact rfl); (· (simp [go_sem, List.take_of_length_le] <;> with_reducible rfl)))
    | (refine Gd.skip ?_ ?_ ?_; (· exact rfl); (· exact rfl))
    | fail
  refine Holds.cond rfl (fun h => ?_) (fun h => ?_)
  · have hlt : i < S.length := by simp at h; omega
    have hxi : S[i]? = some S[i] := List.getElem?_eq_getElem hlt
    have hox := hok _ (List.getElem_mem hlt)
    generalize S[i] = x at hxi hox
    obtain ⟨r, d, f, rfl, hEar⟩ := hox
    have hb := hEar.bnd
    have hrr := ruleN_at hb.1
    have hxi2 : S[i]? = some ((r : Int), (d : Int), (f : Int)) := hxi
    have hacc := accI_N g r d f
    generalize ruleN g r = R at hrr hacc
    by_cases h1 : (f : Int) = 0
    · have h1' : ((f : Int) == 0) = true := by simp [h1]
      by_cases h2 : R.1 = 0
      · have h2' : (R.1 == 0) = true := by simp [h2]
        by_cases h3 : (d : Int) = (R.2.length : Int)
        · have h3' : ((d : Int) == (R.2.length : Int)) = true := by simp [h3]
          rw [show S.any (accI g) = true from any_at hxi (by rw [hacc, decide_eq_true h1, decide_eq_true h2, decide_eq_true h3]; rfl)]
          repeat' first
            | (refine Holds.condT ?_ ?_; (· (simp [go_sem, List.take_of_length_le, get_E hxi2, hxi2, hlt, nodeC, h1', h2', h3', get_E hrr, hrr, hb.1, ruleC, grammarC] <;> with_reducible rfl)))
            | (refine Holds.condF ?_ ?_; (· (simp [go_sem, List.take_of_length_le, get_E hxi2, hxi2, hlt, nodeC, h1', h2', h3', get_E hrr, hrr, hb.1, ruleC, grammarC] <;> with_reducible rfl)))
            | refine Holds.seq ?_
            | refine Holds.skip ?_
            | refine Holds.exit ?_
            | refine Holds.ret ?_
            | refine thenA_normal ?_
            | refine thenA_exit ?_
            | refine thenA_ret ?_
            | refine inB_normal ?_
            | refine inB_ret ?_
            | refine inB_here ?_
            | (refine inB_past ?_ ?_; (· exact rfl))
            | refine Holds.reg ?_
            | refine Holds.block ?_
            | refine GS.nil ?_
            | refine Gd.nil ?_
            | (refine Holds.any mixed ?_ ?_; (· kernel_rfl))
            | (refine GS.step (s' := ?_) ?_ ?_ ?_; rotate_left; (· exact rfl); (· (simp [go_sem, List.take_of_length_le, get_E hxi2, hxi2, hlt, nodeC, h1', h2', h3', get_E hrr, hrr, hb.1, ruleC, grammarC] <;> with_reducible rfl)))
            | (refine GS.skip ?_ ?_ ?_; (· exact rfl); (· exact rfl))
            | (refine Gd.go (s' := ?_) ?_ ?_ ?_; rotate_left; (· exact rfl); (· (simp [go_sem, List.take_of_length_le, get_E hxi2, hxi2, hlt, nodeC, h1', h2', h3', get_E hrr, hrr, hb.1, ruleC, grammarC] <;> with_reducible rfl)))
            | (refine Gd.skip ?_ ?_ ?_; (· exact rfl); (· exact rfl))
            | fail
          refine Out.mk (xs := ?_) ?_ ?_ (by first | exact .inr rfl | exact .inl rfl)
          rotate_left
          · simp [go_sem, List.take_of_length_le] <;> with_reducible rfl
          exact .v _
        · have h3' : ((d : Int) == (R.2.length : Int)) = false := by simp; omega
          rw [decide_eq_false h3, Bool.and_false] at hacc
          repeat' first
            | (refine Holds.condT ?_ ?_; (· (simp [go_sem, List.take_of_length_le, get_E hxi2, hxi2, hlt, nodeC, h1', h2', h3', get_E hrr, hrr, hb.1, ruleC, grammarC] <;> with_reducible rfl)))
            | (refine Holds.condF ?_ ?_; (· (simp [go_sem, List.take_of_length_le, get_E hxi2, hxi2, hlt, nodeC, h1', h2', h3', get_E hrr, hrr, hb.1, ruleC, grammarC] <;> with_reducible rfl)))
            | refine Holds.seq ?_
            | refine Holds.skip ?_
            | refine Holds.exit ?_
            | refine Holds.ret ?_
            | refine thenA_normal ?_
            | refine thenA_exit ?_
            | refine thenA_ret ?_
            | refine inB_normal ?_
            | refine inB_ret ?_
            | refine inB_here ?_
            | (refine inB_past ?_ ?_; (· exact rfl))
            | refine Holds.reg ?_
            | refine Holds.block ?_
            | refine GS.nil ?_
            | refine Gd.nil ?_
            | (refine Holds.any mixed ?_ ?_; (· kernel_rfl))
            | (refine GS.step (s' := ?_) ?_ ?_ ?_; rotate_left; (· exact rfl); (· (simp [go_sem, List.take_of_length_le, get_E hxi2, hxi2, hlt, nodeC, h1', h2', h3', get_E hrr, hrr, hb.1, ruleC, grammarC] <;> with_reducible rfl)))
            | (refine GS.skip ?_ ?_ ?_; (· exact rfl); (· exact rfl))
            | (refine Gd.go (s' := ?_) ?_ ?_ ?_; rotate_left; (· exact rfl); (· (simp [go_sem, List.take_of_length_le, get_E hxi2, hxi2, hlt, nodeC, h1', h2', h3', get_E hrr, hrr, hb.1, ruleC, grammarC] <;> with_reducible rfl)))
            | (refine Gd.skip ?_ ?_ ?_; (· exact rfl); (· exact rfl))
            | fail
          refine ⟨i + 1, ⟨by omega, ?_⟩, by omega, ?_⟩
          · rw [List.take_add_one, hxi, List.any_append, hno]; simp [hacc]
          rw [stepi]
          exact Cov.ofn (id) rfl (by simp [go_sem, List.take_of_length_le, ren, ren1, ren2, okr, okr1, okr2, ChkT, ChkN, BlkN, nf, grammarC]) (by simp [go_sem, List.take_of_length_le, ren, ren1, ren2, okr, okr1, okr2, ChkT, ChkN, BlkN, nf, grammarC])
      · have h2' : (R.1 == 0) = false := by simp [h2]
        rw [decide_eq_false h2, Bool.false_and, Bool.false_and] at hacc
        repeat' first
          | (refine Holds.condT ?_ ?_; (· (simp [go_sem, List.take_of_length_le, get_E hxi2, hxi2, hlt, nodeC, h1', h2', get_E hrr, hrr, hb.1, ruleC, grammarC] <;> with_reducible rfl)))
          | (refine Holds.condF ?_ ?_; (· (simp [go_sem, List.take_of_length_le, get_E hxi2, hxi2, hlt, nodeC, h1', h2', get_E hrr, hrr, hb.1, ruleC, grammarC] <;> with_reducible rfl)))
          | refine Holds.seq ?_
          | refine Holds.skip ?_
          | refine Holds.exit ?_
          | refine Holds.ret ?_
          | refine thenA_normal ?_
          | refine thenA_exit ?_
          | refine thenA_ret ?_
          | refine inB_normal ?_
          | refine inB_ret ?_
          | refine inB_here ?_
          | (refine inB_past ?_ ?_; (· exact rfl))
          | refine Holds.reg ?_
          | refine Holds.block ?_
          | refine GS.nil ?_
          | refine Gd.nil ?_
          | (refine Holds.any mixed ?_ ?_; (· kernel_rfl))
          | (refine GS.step (s' := ?_) ?_ ?_ ?_; rotate_left; (· exact rfl); (· (simp [go_sem, List.take_of_length_le, get_E hxi2, hxi2, hlt, nodeC, h1', h2', get_E hrr, hrr, hb.1, ruleC, grammarC] <;> with_reducible rfl)))
          | (refine GS.skip ?_ ?_ ?_; (· exact rfl); (· exact rfl))
          | (refine Gd.go (s' := ?_) ?_ ?_ ?_; rotate_left; (· exact rfl); (· (simp [go_sem, List.take_of_length_le, get_E hxi2, hxi2, hlt, nodeC, h1', h2', get_E hrr, hrr, hb.1, ruleC, grammarC] <;> with_reducible rfl)))
          | (refine Gd.skip ?_ ?_ ?_; (· exact rfl); (· exact rfl))
          | fail
        refine ⟨i + 1, ⟨by omega, ?_⟩, by omega, ?_⟩
        · rw [List.take_add_one, hxi, List.any_append, hno]; simp [hacc]
        rw [stepi]
        exact Cov.ofn (id) rfl (by simp [go_sem, List.take_of_length_le, ren, ren1, ren2, okr, okr1, okr2, ChkT, ChkN, BlkN, nf, grammarC]) (by simp [go_sem, List.take_of_length_le, ren, ren1, ren2, okr, okr1, okr2, ChkT, ChkN, BlkN, nf, grammarC])
    · have h1' : ((f : Int) == 0) = false := by simp; omega
      rw [decide_eq_false h1, Bool.and_false, Bool.false_and] at hacc
      repeat' first
        | (refine Holds.condT ?_ ?_; (· (simp [go_sem, List.take_of_length_le, get_E hxi2, hxi2, hlt, nodeC, h1', get_E hrr, hrr, hb.1, ruleC, grammarC] <;> with_reducible rfl)))
        | (refine Holds.condF ?_ ?_; (· (simp [go_sem, List.take_of_length_le, get_E hxi2, hxi2, hlt, nodeC, h1', get_E hrr, hrr, hb.1, ruleC, grammarC] <;> with_reducible rfl)))
        | refine Holds.seq ?_
        | refine Holds.skip ?_
        | refine Holds.exit ?_
        | refine Holds.ret ?_
        | refine thenA_normal ?_
        | refine thenA_exit ?_
        | refine thenA_ret ?_
        | refine inB_normal ?_
        | refine inB_ret ?_
        | refine inB_here ?_
        | (refine inB_past ?_ ?_; (· exact rfl))
        | refine Holds.reg ?_
        | refine Holds.block ?_
        | refine GS.nil ?_
        | refine Gd.nil ?_
        | (refine Holds.any mixed ?_ ?_; (· kernel_rfl))
        | (refine GS.step (s' := ?_) ?_ ?_ ?_; rotate_left; (· exact rfl); (· (simp [go_sem, List.take_of_length_le, get_E hxi2, hxi2, hlt, nodeC, h1', get_E hrr, hrr, hb.1, ruleC, grammarC] <;> with_reducible rfl)))
        | (refine GS.skip ?_ ?_ ?_; (· exact rfl); (· exact rfl))
        | (refine Gd.go (s' := ?_) ?_ ?_ ?_; rotate_left; (· exact rfl); (· (simp [go_sem, List.take_of_length_le, get_E hxi2, hxi2, hlt, nodeC, h1', get_E hrr, hrr, hb.1, ruleC, grammarC] <;> with_reducible rfl)))
        | (refine Gd.skip ?_ ?_ ?_; (· exact rfl); (· exact rfl))
        | fail
      refine ⟨i + 1, ⟨by omega, ?_⟩, by omega, ?_⟩
      · rw [List.take_add_one, hxi, List.any_append, hno]; simp [hacc]
      rw [stepi]
      exact Cov.ofn (id) rfl (by simp [go_sem, List.take_of_length_le, ren, ren1, ren2, okr, okr1, okr2, ChkT, ChkN, BlkN, nf, grammarC]) (by simp [go_sem, List.take_of_length_le, ren, ren1, ren2, okr, okr1, okr2, ChkT, ChkN, BlkN, nf, grammarC])
  · have hle : i = S.length := by simp at h; omega
    subst hle
    rw [List.take_length] at hno
    rw [hno]
    repeat' first
      | (refine Holds.condT ?_ ?_; (· (simp [go_sem, List.take_of_length_le] <;> with_reducible rfl)))
      | (refine Holds.condF ?_ ?_; (· (simp [go_sem, List.take_of_length_le] <;> with_reducible rfl)))
      | refine Holds.seq ?_
      | refine Holds.skip ?_
      | refine Holds.exit ?_
      | refine Holds.ret ?_
      | refine thenA_normal ?_
      | refine thenA_exit ?_
      | refine thenA_ret ?_
      | refine inB_normal ?_
      | refine inB_ret ?_
      | refine inB_here ?_
      | (refine inB_past ?_ ?_; (· exact rfl))
      | refine Holds.reg ?_
      | refine Holds.block ?_
      | refine GS.nil ?_
      | refine Gd.nil ?_
      | (refine Holds.any mixed ?_ ?_; (· kernel_rfl))
      | (refine GS.step (s' := ?_) ?_ ?_ ?_; rotate_left; (· exact rfl); (· (simp [go_sem, List.take_of_length_le] <;> with_reducible rfl)))
      | (refine GS.skip ?_ ?_ ?_; (· exact rfl); (· exact rfl))
      | (refine Gd.go (s' := ?_) ?_ ?_ ?_; rotate_left; (· exact rfl); (· (simp [go_sem, List.take_of_length_le] <;> with_reducible rfl)))
      | (refine Gd.skip ?_ ?_ ?_; (· exact rfl); (· exact rfl))
      | fail
    refine Out.mk (xs := ?_) ?_ ?_ (by first | exact .inr rfl | exact .inl rfl)
    rotate_left
    · simp [go_sem, List.take_of_length_le] <;> with_reducible rfl
    exact .v _
noncomputable def accV (g : GrammarT) (w : List Int) : Bool × Bool := if goodG g && wordV g.2.1 w then (earlyB g w, true) else (false, false)
theorem wordV_ok {t : Int} {w : List Int} (ht : t ≤ 4) (h : wordV t w = true) : w.length ≤ 10 ∧ ∀ x ∈ w, 0 ≤ x ∧ x ≤ 3 := by
  simp only [wordV, Bool.and_eq_true, decide_eq_true_eq] at h
  refine ⟨h.1, fun x hx => ?_⟩
  have := (List.all_eq_true.1 h.2) x hx
  have : 0 ≤ x ∧ x ≤ t - 1 := by simpa [inR] using this
  omega
theorem good_toksG {g : GrammarT} (h : goodG g = true) : 1 ≤ g.2.1 ∧ g.2.1 ≤ 4 := by
  simp only [goodG, Bool.and_eq_true] at h
  simpa [inR] using h.1.1.2
theorem specAcc (g : GrammarT) (w : List Int) (hx : g.2.2.length < 4611686018427387904) (hs : ∀ e ∈ g.2.2, e.2.length < 4611686018427387904) (hw : w.length < 4611686018427387904) : Pure Try.prog 9 [.ag (grammarC g), .im 1 (ints w)] (.tu [.v (.bool (accV g w).1), .v (.bool (accV g w).2)]) := by
  have cg := goodWord g w hx hs hw
  unfold accV
  refine Pure.mk (rs := [.tmp 4, .tmp 5]) (nt := 13) Try.func9 (by kernel_rfl) rfl rfl rfl (by simp) ?_
  simp only [sl, grammarC]
  repeat' first
    | (refine Holds.condT ?_ ?_; (· (simp [go_sem, List.take_of_length_le] <;> with_reducible rfl)))
    | (refine Holds.condF ?_ ?_; (· (simp [go_sem, List.take_of_length_le] <;> with_reducible rfl)))
    | refine Holds.seq ?_
    | refine Holds.skip ?_
    | refine Holds.exit ?_
    | refine Holds.ret ?_
    | refine thenA_normal ?_
    | refine thenA_exit ?_
    | refine thenA_ret ?_
    | refine inB_normal ?_
    | refine inB_ret ?_
    | refine inB_here ?_
    | (refine inB_past ?_ ?_; (· exact rfl))
    | refine Holds.reg ?_
    | refine Holds.block ?_
    | refine GS.nil ?_
    | (refine GS.step (s' := ?_) ?_ ?_ ?_; rotate_left; (· exact rfl); (· (simp [go_sem, List.take_of_length_le] <;> with_reducible rfl)))
    | (refine GS.skip ?_ ?_ ?_; (· exact rfl); (· exact rfl))
    | fail
  cases hgw : (goodG g && wordV g.2.1 w) with
  | false =>
    rw [hgw] at cg
    refine GS.cc (cg) rfl rfl rfl rfl (by simp [go_sem, List.take_of_length_le, grammarC] <;> with_reducible rfl) rfl (by simp [go_sem, List.take_of_length_le, grammarC]) ?_
    repeat' first
      | (refine Holds.condT ?_ ?_; (· (simp [go_sem, List.take_of_length_le] <;> with_reducible rfl)))
      | (refine Holds.condF ?_ ?_; (· (simp [go_sem, List.take_of_length_le] <;> with_reducible rfl)))
      | refine Holds.seq ?_
      | refine Holds.skip ?_
      | refine Holds.exit ?_
      | refine Holds.ret ?_
      | refine thenA_normal ?_
      | refine thenA_exit ?_
      | refine thenA_ret ?_
      | refine inB_normal ?_
      | refine inB_ret ?_
      | refine inB_here ?_
      | (refine inB_past ?_ ?_; (· exact rfl))
      | refine Holds.reg ?_
      | refine Holds.block ?_
      | refine GS.nil ?_
      | (refine GS.step (s' := ?_) ?_ ?_ ?_; rotate_left; (· exact rfl); (· (simp [go_sem, List.take_of_length_le] <;> with_reducible rfl)))
      | (refine GS.skip ?_ ?_ ?_; (· exact rfl); (· exact rfl))
      | fail
    refine Out.mk (xs := ?_) ?_ ?_ (by first | exact .inr rfl | exact .inl rfl)
    rotate_left
    · simp [go_sem, List.take_of_length_le] <;> with_reducible rfl
    exact Fz.cl rfl
  | true =>
    rw [hgw] at cg
    rw [Bool.and_eq_true] at hgw
    have ca := l13Accepts g hgw.1 w (wordV_ok (good_toksG hgw.1).2 hgw.2).1
    simp only [if_true]
    generalize earlyB g w = b at ca ⊢
    refine GS.cc (cg) rfl rfl rfl rfl (by simp [go_sem, List.take_of_length_le, grammarC] <;> with_reducible rfl) rfl (by simp [go_sem, List.take_of_length_le, grammarC]) ?_
    repeat' first
      | (refine Holds.condT ?_ ?_; (· (simp [go_sem, List.take_of_length_le, grammarC] <;> with_reducible rfl)))
      | (refine Holds.condF ?_ ?_; (· (simp [go_sem, List.take_of_length_le, grammarC] <;> with_reducible rfl)))
      | refine Holds.seq ?_
      | refine Holds.skip ?_
      | refine Holds.exit ?_
      | refine Holds.ret ?_
      | refine thenA_normal ?_
      | refine thenA_exit ?_
      | refine thenA_ret ?_
      | refine inB_normal ?_
      | refine inB_ret ?_
      | refine inB_here ?_
      | (refine inB_past ?_ ?_; (· exact rfl))
      | refine Holds.reg ?_
      | refine Holds.block ?_
      | refine GS.nil ?_
      | (refine GS.step (s' := ?_) ?_ ?_ ?_; rotate_left; (· exact rfl); (· (simp [go_sem, List.take_of_length_le, grammarC] <;> with_reducible rfl)))
      | (refine GS.skip ?_ ?_ ?_; (· exact rfl); (· exact rfl))
      | fail
    refine GS.cc (ca) rfl rfl rfl rfl (by simp [go_sem, List.take_of_length_le, grammarC] <;> with_reducible rfl) rfl (by simp [go_sem, List.take_of_length_le, grammarC]) ?_
    repeat' first
      | (refine Holds.condT ?_ ?_; (· (simp [go_sem, List.take_of_length_le] <;> with_reducible rfl)))
      | (refine Holds.condF ?_ ?_; (· (simp [go_sem, List.take_of_length_le] <;> with_reducible rfl)))
      | refine Holds.seq ?_
      | refine Holds.skip ?_
      | refine Holds.exit ?_
      | refine Holds.ret ?_
      | refine thenA_normal ?_
      | refine thenA_exit ?_
      | refine thenA_ret ?_
      | refine inB_normal ?_
      | refine inB_ret ?_
      | refine inB_here ?_
      | (refine inB_past ?_ ?_; (· exact rfl))
      | refine Holds.reg ?_
      | refine Holds.block ?_
      | refine GS.nil ?_
      | (refine GS.step (s' := ?_) ?_ ?_ ?_; rotate_left; (· exact rfl); (· (simp [go_sem, List.take_of_length_le] <;> with_reducible rfl)))
      | (refine GS.skip ?_ ?_ ?_; (· exact rfl); (· exact rfl))
      | fail
    refine Out.mk (xs := ?_) ?_ ?_ (by first | exact .inr rfl | exact .inl rfl)
    rotate_left
    · simp [go_sem, List.take_of_length_le] <;> with_reducible rfl
    exact Fz.cl rfl
theorem acc1 (g : GrammarT) (r d f : Nat) (hr : r < g.2.2.length) : Pure Try.prog 37 [.ag (nodeC (itemN r d f)), .pi (grammarC g)] (.v (.bool (accI g (itemN r d f)))) := by
  have hrr := ruleN_at hr
  have hacc := accI_N g r d f
  generalize ruleN g r = R at hrr hacc
  refine Pure.mk (rs := [.tmp 3]) (nt := 27) Try.func37 (by kernel_rfl) rfl rfl rfl (by simp) ?_
  simp only [sl, grammarC, nodeC, itemN]
  by_cases h2 : R.1 = 0
  · have h2' : (R.1 == 0) = true := by simp [h2]
    by_cases h1 : (f : Int) = 0
    · have h1' : ((f : Int) == 0) = true := by simp [h1]
      by_cases h3 : (d : Int) = (R.2.length : Int)
      · have h3' : ((d : Int) == (R.2.length : Int)) = true := by simp [h3]
        rw [decide_eq_true h1, decide_eq_true h2, decide_eq_true h3] at hacc
        rw [show accI g (↑r, ↑d, ↑f) = true from hacc]
        repeat' first
          | (refine Holds.condT ?_ ?_; (· (simp [go_sem, List.take_of_length_le, nodeC, h1', h2', h3', get_E hrr, hrr, hr, ruleC, grammarC] <;> with_reducible rfl)))
          | (refine Holds.condF ?_ ?_; (· (simp [go_sem, List.take_of_length_le, nodeC, h1', h2', h3', get_E hrr, hrr, hr, ruleC, grammarC] <;> with_reducible rfl)))
          | refine Holds.seq ?_
          | refine Holds.skip ?_
          | refine Holds.exit ?_
          | refine Holds.ret ?_
          | refine thenA_normal ?_
          | refine thenA_exit ?_
          | refine thenA_ret ?_
          | refine inB_normal ?_
          | refine inB_ret ?_
          | refine inB_here ?_
          | (refine inB_past ?_ ?_; (· exact rfl))
          | refine Holds.reg ?_
          | refine Holds.block ?_
          | refine GS.nil ?_
          | (refine GS.step (s' := ?_) ?_ ?_ ?_; rotate_left; (· exact rfl); (· (simp [go_sem, List.take_of_length_le, nodeC, h1', h2', h3', get_E hrr, hrr, hr, ruleC, grammarC] <;> with_reducible rfl)))
          | (refine GS.skip ?_ ?_ ?_; (· exact rfl); (· exact rfl))
          | fail
        refine Out.mk (xs := ?_) ?_ ?_ (by first | exact .inr rfl | exact .inl rfl)
        rotate_left
        · simp [go_sem, List.take_of_length_le] <;> with_reducible rfl
        exact .v _
      · have h3' : ((d : Int) == (R.2.length : Int)) = false := by simp; omega
        rw [decide_eq_false h3, Bool.and_false] at hacc
        rw [show accI g (↑r, ↑d, ↑f) = false from hacc]
        repeat' first
          | (refine Holds.condT ?_ ?_; (· (simp [go_sem, List.take_of_length_le, nodeC, h1', h2', h3', get_E hrr, hrr, hr, ruleC, grammarC] <;> with_reducible rfl)))
          | (refine Holds.condF ?_ ?_; (· (simp [go_sem, List.take_of_length_le, nodeC, h1', h2', h3', get_E hrr, hrr, hr, ruleC, grammarC] <;> with_reducible rfl)))
          | refine Holds.seq ?_
          | refine Holds.skip ?_
          | refine Holds.exit ?_
          | refine Holds.ret ?_
          | refine thenA_normal ?_
          | refine thenA_exit ?_
          | refine thenA_ret ?_
          | refine inB_normal ?_
          | refine inB_ret ?_
          | refine inB_here ?_
          | (refine inB_past ?_ ?_; (· exact rfl))
          | refine Holds.reg ?_
          | refine Holds.block ?_
          | refine GS.nil ?_
          | (refine GS.step (s' := ?_) ?_ ?_ ?_; rotate_left; (· exact rfl); (· (simp [go_sem, List.take_of_length_le, nodeC, h1', h2', h3', get_E hrr, hrr, hr, ruleC, grammarC] <;> with_reducible rfl)))
          | (refine GS.skip ?_ ?_ ?_; (· exact rfl); (· exact rfl))
          | fail
        refine Out.mk (xs := ?_) ?_ ?_ (by first | exact .inr rfl | exact .inl rfl)
        rotate_left
        · simp [go_sem, List.take_of_length_le] <;> with_reducible rfl
        exact .v _
    · have h1' : ((f : Int) == 0) = false := by simp; omega
      rw [decide_eq_false h1, Bool.and_false, Bool.false_and] at hacc
      rw [show accI g (↑r, ↑d, ↑f) = false from hacc]
      repeat' first
        | (refine Holds.condT ?_ ?_; (· (simp [go_sem, List.take_of_length_le, nodeC, h1', h2', get_E hrr, hrr, hr, ruleC, grammarC] <;> with_reducible rfl)))
        | (refine Holds.condF ?_ ?_; (· (simp [go_sem, List.take_of_length_le, nodeC, h1', h2', get_E hrr, hrr, hr, ruleC, grammarC] <;> with_reducible rfl)))
        | refine Holds.seq ?_
        | refine Holds.skip ?_
        | refine Holds.exit ?_
        | refine Holds.ret ?_
        | refine thenA_normal ?_
        | refine thenA_exit ?_
        | refine thenA_ret ?_
        | refine inB_normal ?_
        | refine inB_ret ?_
        | refine inB_here ?_
        | (refine inB_past ?_ ?_; (· exact rfl))
        | refine Holds.reg ?_
        | refine Holds.block ?_
        | refine GS.nil ?_
        | (refine GS.step (s' := ?_) ?_ ?_ ?_; rotate_left; (· exact rfl); (· (simp [go_sem, List.take_of_length_le, nodeC, h1', h2', get_E hrr, hrr, hr, ruleC, grammarC] <;> with_reducible rfl)))
        | (refine GS.skip ?_ ?_ ?_; (· exact rfl); (· exact rfl))
        | fail
      refine Out.mk (xs := ?_) ?_ ?_ (by first | exact .inr rfl | exact .inl rfl)
      rotate_left
      · simp [go_sem, List.take_of_length_le] <;> with_reducible rfl
      exact .v _
  · have h2' : (R.1 == 0) = false := by simp [h2]
    rw [decide_eq_false h2, Bool.false_and, Bool.false_and] at hacc
    rw [show accI g (↑r, ↑d, ↑f) = false from hacc]
    repeat' first
      | (refine Holds.condT ?_ ?_; (· (simp [go_sem, List.take_of_length_le, nodeC, h2', get_E hrr, hrr, hr, ruleC, grammarC] <;> with_reducible rfl)))
      | (refine Holds.condF ?_ ?_; (· (simp [go_sem, List.take_of_length_le, nodeC, h2', get_E hrr, hrr, hr, ruleC, grammarC] <;> with_reducible rfl)))
      | refine Holds.seq ?_
      | refine Holds.skip ?_
      | refine Holds.exit ?_
      | refine Holds.ret ?_
      | refine thenA_normal ?_
      | refine thenA_exit ?_
      | refine thenA_ret ?_
      | refine inB_normal ?_
      | refine inB_ret ?_
      | refine inB_here ?_
      | (refine inB_past ?_ ?_; (· exact rfl))
      | refine Holds.reg ?_
      | refine Holds.block ?_
      | refine GS.nil ?_
      | (refine GS.step (s' := ?_) ?_ ?_ ?_; rotate_left; (· exact rfl); (· (simp [go_sem, List.take_of_length_le, nodeC, h2', get_E hrr, hrr, hr, ruleC, grammarC] <;> with_reducible rfl)))
      | (refine GS.skip ?_ ?_ ?_; (· exact rfl); (· exact rfl))
      | fail
    refine Out.mk (xs := ?_) ?_ ?_ (by first | exact .inr rfl | exact .inl rfl)
    rotate_left
    · simp [go_sem, List.take_of_length_le] <;> with_reducible rfl
    exact .v _
theorem indexFuncItem (g : FuncId) (cap : List AV) (p : Item3 → Bool) (xs : List Item3) (hx : xs.length < 4611686018427387904) (hcap : cap.all cl1 = true) (hg : ∀ x ∈ xs, Pure Try.prog g (.ag (nodeC x) :: cap) (.v (.bool (p x)))) : Pure Try.prog 64 [.im 3 (nodes xs), .fn g cap] (.v (.int .i64 (fstP p xs 0))) := by
  refine Pure.mk (rs := [.tmp 4]) (nt := 19) Try.func64 (by kernel_rfl) rfl rfl rfl (by simp) ?_
  simp only [sl]
  repeat' first
    | refine Holds.seq ?_
    | refine Holds.skip ?_
    | refine Holds.exit ?_
    | refine Holds.ret ?_
    | refine thenA_normal ?_
    | refine thenA_exit ?_
    | refine thenA_ret ?_
    | refine inB_normal ?_
    | refine inB_ret ?_
    | refine inB_here ?_
    | (refine inB_past ?_ ?_; (· exact rfl))
    | refine Holds.reg ?_
    | refine Holds.block ?_
    | refine GS.nil ?_
    | (refine GS.step (s' := ?_) ?_ ?_ ?_; rotate_left; (· exact rfl); (· (simp [go_sem, List.take_of_length_le] <;> with_reducible rfl)))
    | (refine GS.skip ?_ ?_ ?_; (· exact rfl); (· exact rfl))
    | fail
  refine Holds.loop (ι := Nat) (fun i => ⟨[(0, .im 3 (nodes xs)), (1, .fn g cap), (7, .v (.int .i64 xs.length)), (8, .v (.int .i64 i))], [], 0⟩) (fun i => i ≤ xs.length ∧ ∀ j, j < i → ∀ x, xs[j]? = some x → p x = false) (fun i => xs.length - i) 0 ⟨Nat.zero_le _, fun j hj => absurd hj (Nat.not_lt_zero j)⟩ ?_ ?_
  · exact Cov.ofn id rfl (by simp [go_sem, ren, ren1, okr, okr1, ChkT, okr1_cap hcap, ren1_cap hcap]) (by simp [ChkN])
  rintro i ⟨hi, hno⟩
  repeat' first
    | refine Holds.seq ?_
    | refine Holds.skip ?_
    | refine Holds.exit ?_
    | refine Holds.ret ?_
    | refine thenA_normal ?_
    | refine thenA_exit ?_
    | refine thenA_ret ?_
    | refine inB_normal ?_
    | refine inB_ret ?_
    | refine inB_here ?_
    | (refine inB_past ?_ ?_; (· exact rfl))
    | refine Holds.reg ?_
    | refine Holds.block ?_
    | refine GS.nil ?_
    | (refine GS.step (s' := ?_) ?_ ?_ ?_; rotate_left; (· exact rfl); (· (simp [go_sem, List.take_of_length_le] <;> with_reducible rfl)))
    | (refine GS.skip ?_ ?_ ?_; (· exact rfl); (· exact rfl))
    | fail
  refine Holds.cond rfl (fun hl => ?_) (fun hl => ?_)
  · have hlt : i < xs.length := by simpa using hl
    have hxi : xs[i]? = some xs[i] := List.getElem?_eq_getElem hlt
    have hgi := hg _ (List.getElem_mem hlt)
    repeat' first
      | refine Holds.seq ?_
      | refine Holds.skip ?_
      | refine Holds.exit ?_
      | refine Holds.ret ?_
      | refine thenA_normal ?_
      | refine thenA_exit ?_
      | refine thenA_ret ?_
      | refine inB_normal ?_
      | refine inB_ret ?_
      | refine inB_here ?_
      | (refine inB_past ?_ ?_; (· exact rfl))
      | refine Holds.reg ?_
      | refine Holds.block ?_
      | refine GS.nil ?_
      | (refine GS.step (s' := ?_) ?_ ?_ ?_; rotate_left; (· exact rfl); (· (simp [go_sem, List.take_of_length_le, hxi , nodeC] <;> with_reducible rfl)))
      | (refine GS.skip ?_ ?_ ?_; (· exact rfl); (· exact rfl))
      | fail
    refine GS.cc (hgi) rfl rfl rfl rfl (by simp [go_sem, List.take_of_length_le, hcap, all_cl1 hcap , nodeC] <;> with_reducible rfl) rfl (by simp [go_sem, List.take_of_length_le, hcap, all_cl1 hcap , nodeC]) ?_
    repeat' first
      | refine Holds.seq ?_
      | refine Holds.skip ?_
      | refine Holds.exit ?_
      | refine Holds.ret ?_
      | refine thenA_normal ?_
      | refine thenA_exit ?_
      | refine thenA_ret ?_
      | refine inB_normal ?_
      | refine inB_ret ?_
      | refine inB_here ?_
      | (refine inB_past ?_ ?_; (· exact rfl))
      | refine Holds.reg ?_
      | refine Holds.block ?_
      | refine GS.nil ?_
      | (refine GS.step (s' := ?_) ?_ ?_ ?_; rotate_left; (· exact rfl); (· (simp [go_sem, List.take_of_length_le] <;> with_reducible rfl)))
      | (refine GS.skip ?_ ?_ ?_; (· exact rfl); (· exact rfl))
      | fail
    refine Holds.cond rfl (fun hl => ?_) (fun hl => ?_)
    · rw [fstP_at xs i 0 hxi hl hno, Nat.zero_add]
      repeat' first
        | refine Holds.seq ?_
        | refine Holds.skip ?_
        | refine Holds.exit ?_
        | refine Holds.ret ?_
        | refine thenA_normal ?_
        | refine thenA_exit ?_
        | refine thenA_ret ?_
        | refine inB_normal ?_
        | refine inB_ret ?_
        | refine inB_here ?_
        | (refine inB_past ?_ ?_; (· exact rfl))
        | refine Holds.reg ?_
        | refine Holds.block ?_
        | refine GS.nil ?_
        | (refine GS.step (s' := ?_) ?_ ?_ ?_; rotate_left; (· exact rfl); (· (simp [go_sem, List.take_of_length_le] <;> with_reducible rfl)))
        | (refine GS.skip ?_ ?_ ?_; (· exact rfl); (· exact rfl))
        | fail
      refine Out.mk (xs := ?_) ?_ ?_ (by first | exact .inr rfl | exact .inl rfl)
      rotate_left
      · simp [go_sem, List.take_of_length_le] <;> with_reducible rfl
      exact .v _
    · repeat' first
        | refine Holds.seq ?_
        | refine Holds.skip ?_
        | refine Holds.exit ?_
        | refine Holds.ret ?_
        | refine thenA_normal ?_
        | refine thenA_exit ?_
        | refine thenA_ret ?_
        | refine inB_normal ?_
        | refine inB_ret ?_
        | refine inB_here ?_
        | (refine inB_past ?_ ?_; (· exact rfl))
        | refine Holds.reg ?_
        | refine Holds.block ?_
        | refine GS.nil ?_
        | (refine GS.step (s' := ?_) ?_ ?_ ?_; rotate_left; (· exact rfl); (· (simp [go_sem, List.take_of_length_le] <;> with_reducible rfl)))
        | (refine GS.skip ?_ ?_ ?_; (· exact rfl); (· exact rfl))
        | fail
      refine ⟨i + 1, ⟨by omega, fun j hj x hxj => ?_⟩, by omega, ?_⟩
      · by_cases e : j = i
        · subst e; rw [hxi] at hxj; cases hxj; exact hl
        · exact hno j (by omega) x hxj
      rw [wr64_id (by omega) (by omega)]
      exact Cov.ofn id rfl (by simp [go_sem, ren, ren1, okr, okr1, ChkT, okr1_cap hcap, ren1_cap hcap]) (by simp [ChkN])
  · have hle : i = xs.length := by
      have : ¬ i < xs.length := by simpa using hl
      omega
    rw [fstP_no xs 0 fun j x hj => hno j (by have := (List.getElem?_eq_some_iff.1 hj).1; omega) x hj]
    repeat' first
      | refine Holds.seq ?_
      | refine Holds.skip ?_
      | refine Holds.exit ?_
      | refine Holds.ret ?_
      | refine thenA_normal ?_
      | refine thenA_exit ?_
      | refine thenA_ret ?_
      | refine inB_normal ?_
      | refine inB_ret ?_
      | refine inB_here ?_
      | (refine inB_past ?_ ?_; (· exact rfl))
      | refine Holds.reg ?_
      | refine Holds.block ?_
      | refine GS.nil ?_
      | (refine GS.step (s' := ?_) ?_ ?_ ?_; rotate_left; (· exact rfl); (· (simp [go_sem, List.take_of_length_le] <;> with_reducible rfl)))
      | (refine GS.skip ?_ ?_ ?_; (· exact rfl); (· exact rfl))
      | fail
    refine Out.mk (xs := ?_) ?_ ?_ (by first | exact .inr rfl | exact .inl rfl)
    rotate_left
    · simp [go_sem, List.take_of_length_le] <;> with_reducible rfl
    exact .v _
theorem containsFuncItem (g : FuncId) (cap : List AV) (p : Item3 → Bool) (xs : List Item3) (hx : xs.length < 4611686018427387904) (hcap : cap.all cl1 = true) (hg : ∀ x ∈ xs, Pure Try.prog g (.ag (nodeC x) :: cap) (.v (.bool (p x)))) : Pure Try.prog 35 [.im 3 (nodes xs), .fn g cap] (.v (.bool (xs.any p))) := by
  refine Pure.mk (rs := [.tmp 4]) (nt := 9) Try.func35 (by kernel_rfl) rfl rfl rfl (by simp) ?_
  simp only [sl]
  repeat' first
    | refine Holds.seq ?_
    | refine Holds.skip ?_
    | refine Holds.exit ?_
    | refine Holds.ret ?_
    | refine thenA_normal ?_
    | refine thenA_exit ?_
    | refine thenA_ret ?_
    | refine inB_normal ?_
    | refine inB_ret ?_
    | refine inB_here ?_
    | (refine inB_past ?_ ?_; (· exact rfl))
    | refine Holds.reg ?_
    | refine Holds.block ?_
    | refine GS.nil ?_
    | (refine GS.step (s' := ?_) ?_ ?_ ?_; rotate_left; (· exact rfl); (· (simp [go_sem, List.take_of_length_le] <;> with_reducible rfl)))
    | (refine GS.skip ?_ ?_ ?_; (· exact rfl); (· exact rfl))
    | fail
  refine GS.cc (indexFuncItem g cap p xs hx hcap hg) rfl rfl rfl rfl (by simp [go_sem, List.take_of_length_le, hcap, all_cl1 hcap] <;> with_reducible rfl) rfl (by simp [go_sem, List.take_of_length_le, hcap, all_cl1 hcap]) ?_
  rw [← fstP_any p xs 0]
  repeat' first
    | refine Holds.seq ?_
    | refine Holds.skip ?_
    | refine Holds.exit ?_
    | refine Holds.ret ?_
    | refine thenA_normal ?_
    | refine thenA_exit ?_
    | refine thenA_ret ?_
    | refine inB_normal ?_
    | refine inB_ret ?_
    | refine inB_here ?_
    | (refine inB_past ?_ ?_; (· exact rfl))
    | refine Holds.reg ?_
    | refine Holds.block ?_
    | refine GS.nil ?_
    | (refine GS.step (s' := ?_) ?_ ?_ ?_; rotate_left; (· exact rfl); (· (simp [go_sem, List.take_of_length_le] <;> with_reducible rfl)))
    | (refine GS.skip ?_ ?_ ?_; (· exact rfl); (· exact rfl))
    | fail
  refine Out.mk (xs := ?_) ?_ ?_ (by first | exact .inr rfl | exact .inl rfl)
  rotate_left
  · simp [go_sem, List.take_of_length_le] <;> with_reducible rfl
  exact .v _
theorem implAcc (g : GrammarT) (w : List Int) (hx : g.2.2.length < 4611686018427387904) (hs : ∀ e ∈ g.2.2, e.2.length < 4611686018427387904) (hw : w.length < 4611686018427387904) : Pure Try.prog 12 [.ag (grammarC g), .im 1 (ints w)] (.tu [.v (.bool (accV g w).1), .v (.bool (accV g w).2)]) := by
  have cg := implGoodG g hx hs
  unfold accV
  refine Pure.mk (rs := [.tmp 4, .tmp 5]) (nt := 25) Try.func12 (by kernel_rfl) rfl rfl rfl (by simp) ?_
  simp only [sl, grammarC]
  repeat' first
    | (refine Holds.condT ?_ ?_; (· (simp [go_sem, List.take_of_length_le] <;> with_reducible rfl)))
    | (refine Holds.condF ?_ ?_; (· (simp [go_sem, List.take_of_length_le] <;> with_reducible rfl)))
    | refine Holds.seq ?_
    | refine Holds.skip ?_
    | refine Holds.exit ?_
    | refine Holds.ret ?_
    | refine thenA_normal ?_
    | refine thenA_exit ?_
    | refine thenA_ret ?_
    | refine inB_normal ?_
    | refine inB_ret ?_
    | refine inB_here ?_
    | (refine inB_past ?_ ?_; (· exact rfl))
    | refine Holds.reg ?_
    | refine Holds.block ?_
    | refine GS.nil ?_
    | (refine GS.step (s' := ?_) ?_ ?_ ?_; rotate_left; (· exact rfl); (· (simp [go_sem, List.take_of_length_le] <;> with_reducible rfl)))
    | (refine GS.skip ?_ ?_ ?_; (· exact rfl); (· exact rfl))
    | fail
  cases hg : goodG g with
  | false =>
    rw [hg] at cg
    rw [Bool.false_and]
    refine GS.cc (cg) rfl rfl rfl rfl (by simp [go_sem, List.take_of_length_le, grammarC] <;> with_reducible rfl) rfl (by simp [go_sem, List.take_of_length_le, grammarC]) ?_
    repeat' first
      | (refine Holds.condT ?_ ?_; (· (simp [go_sem, List.take_of_length_le] <;> with_reducible rfl)))
      | (refine Holds.condF ?_ ?_; (· (simp [go_sem, List.take_of_length_le] <;> with_reducible rfl)))
      | refine Holds.seq ?_
      | refine Holds.skip ?_
      | refine Holds.exit ?_
      | refine Holds.ret ?_
      | refine thenA_normal ?_
      | refine thenA_exit ?_
      | refine thenA_ret ?_
      | refine inB_normal ?_
      | refine inB_ret ?_
      | refine inB_here ?_
      | (refine inB_past ?_ ?_; (· exact rfl))
      | refine Holds.reg ?_
      | refine Holds.block ?_
      | refine GS.nil ?_
      | (refine GS.step (s' := ?_) ?_ ?_ ?_; rotate_left; (· exact rfl); (· (simp [go_sem, List.take_of_length_le] <;> with_reducible rfl)))
      | (refine GS.skip ?_ ?_ ?_; (· exact rfl); (· exact rfl))
      | fail
    refine Out.mk (xs := ?_) ?_ ?_ (by first | exact .inr rfl | exact .inl rfl)
    rotate_left
    · simp [go_sem, List.take_of_length_le] <;> with_reducible rfl
    exact Fz.cl rfl
  | true =>
    rw [hg] at cg
    rw [Bool.true_and]
    have hT := good_toksG hg
    have cw := isWord g.2.1 w (by omega) (by omega) hw
    refine GS.cc (cg) rfl rfl rfl rfl (by simp [go_sem, List.take_of_length_le, grammarC] <;> with_reducible rfl) rfl (by simp [go_sem, List.take_of_length_le, grammarC]) ?_
    repeat' first
      | (refine Holds.condT ?_ ?_; (· (simp [go_sem, List.take_of_length_le, grammarC] <;> with_reducible rfl)))
      | (refine Holds.condF ?_ ?_; (· (simp [go_sem, List.take_of_length_le, grammarC] <;> with_reducible rfl)))
      | refine Holds.seq ?_
      | refine Holds.skip ?_
      | refine Holds.exit ?_
      | refine Holds.ret ?_
      | refine thenA_normal ?_
      | refine thenA_exit ?_
      | refine thenA_ret ?_
      | refine inB_normal ?_
      | refine inB_ret ?_
      | refine inB_here ?_
      | (refine inB_past ?_ ?_; (· exact rfl))
      | refine Holds.reg ?_
      | refine Holds.block ?_
      | refine GS.nil ?_
      | (refine GS.step (s' := ?_) ?_ ?_ ?_; rotate_left; (· exact rfl); (· (simp [go_sem, List.take_of_length_le, grammarC] <;> with_reducible rfl)))
      | (refine GS.skip ?_ ?_ ?_; (· exact rfl); (· exact rfl))
      | fail
    cases hwv : wordV g.2.1 w with
    | false =>
      rw [hwv] at cw
      refine GS.cc (cw) rfl rfl rfl rfl (by simp [go_sem, List.take_of_length_le] <;> with_reducible rfl) rfl (by simp [go_sem, List.take_of_length_le]) ?_
      repeat' first
        | (refine Holds.condT ?_ ?_; (· (simp [go_sem, List.take_of_length_le] <;> with_reducible rfl)))
        | (refine Holds.condF ?_ ?_; (· (simp [go_sem, List.take_of_length_le] <;> with_reducible rfl)))
        | refine Holds.seq ?_
        | refine Holds.skip ?_
        | refine Holds.exit ?_
        | refine Holds.ret ?_
        | refine thenA_normal ?_
        | refine thenA_exit ?_
        | refine thenA_ret ?_
        | refine inB_normal ?_
        | refine inB_ret ?_
        | refine inB_here ?_
        | (refine inB_past ?_ ?_; (· exact rfl))
        | refine Holds.reg ?_
        | refine Holds.block ?_
        | refine GS.nil ?_
        | (refine GS.step (s' := ?_) ?_ ?_ ?_; rotate_left; (· exact rfl); (· (simp [go_sem, List.take_of_length_le] <;> with_reducible rfl)))
        | (refine GS.skip ?_ ?_ ?_; (· exact rfl); (· exact rfl))
        | fail
      refine Out.mk (xs := ?_) ?_ ?_ (by first | exact .inr rfl | exact .inl rfl)
      rotate_left
      · simp [go_sem, List.take_of_length_le] <;> with_reducible rfl
      exact Fz.cl rfl
    | true =>
      rw [hwv] at cw
      obtain ⟨w1, w2⟩ := wordV_ok hT.2 hwv
      have ci := implItems g hg w w1 w2
      simp only [if_true]
      refine GS.cc (cw) rfl rfl rfl rfl (by simp [go_sem, List.take_of_length_le] <;> with_reducible rfl) rfl (by simp [go_sem, List.take_of_length_le]) ?_
      repeat' first
        | (refine Holds.condT ?_ ?_; (· (simp [go_sem, List.take_of_length_le, grammarC] <;> with_reducible rfl)))
        | (refine Holds.condF ?_ ?_; (· (simp [go_sem, List.take_of_length_le, grammarC] <;> with_reducible rfl)))
        | refine Holds.seq ?_
        | refine Holds.skip ?_
        | refine Holds.exit ?_
        | refine Holds.ret ?_
        | refine thenA_normal ?_
        | refine thenA_exit ?_
        | refine thenA_ret ?_
        | refine inB_normal ?_
        | refine inB_ret ?_
        | refine inB_here ?_
        | (refine inB_past ?_ ?_; (· exact rfl))
        | refine Holds.reg ?_
        | refine Holds.block ?_
        | refine GS.nil ?_
        | (refine GS.step (s' := ?_) ?_ ?_ ?_; rotate_left; (· exact rfl); (· (simp [go_sem, List.take_of_length_le, grammarC] <;> with_reducible rfl)))
        | (refine GS.skip ?_ ?_ ?_; (· exact rfl); (· exact rfl))
        | fail
      refine GS.fnX (ci) rfl rfl rfl rfl (by simp [go_sem, List.take_of_length_le, ren, ren1, ren2, okr, okr1, okr2, List.range_succ, nf, grammarC] <;> with_reducible rfl) (by exact (.cons (Fz.cl rfl) (.cons (.im _ _) .nil))) (fun _ => by simp) (fun _ => (by simp [go_sem, List.take_of_length_le, ren, ren1, ren2, okr, okr1, okr2, List.range_succ, nf, grammarC])) (fun _ => (by simp [go_sem, List.take_of_length_le, ren, ren1, ren2, okr, okr1, okr2, List.range_succ, nf, grammarC])) (fun _ => rfl) (fun _ => .nfr (by simp) .nil) (fun _ => (by simp [go_sem, List.take_of_length_le, ren, ren1, ren2, okr, okr1, okr2, List.range_succ, nf, grammarC] <;> with_reducible rfl)) ?_
      rintro sets ⟨hS, hD⟩
      have hfin := early_any hS hD
      rw [← hfin]
      have hlen : w.length < sets.length := by rw [hS.ln]; omega
      have hs := at3_get hlen
      have hfew := hS.few hg w1 w.length
      have hok : ∀ x ∈ at3 sets w.length, okI g w w.length x := fun x hx => hS.ok _ x hx
      generalize at3 sets w.length = S at hs hfew hok ⊢
      have cf := containsFuncItem 37 [.pi (grammarC g)] (accI g) S (by omega) rfl (fun x hx => by
        obtain ⟨r, d, f, rfl, hE⟩ := hok x hx
        exact acc1 g r d f hE.bnd.1)
      repeat' first
        | (refine Holds.condT ?_ ?_; (· (simp [go_sem, List.take_of_length_le, hlen, get_E hs, hs, itemO] <;> with_reducible rfl)))
        | (refine Holds.condF ?_ ?_; (· (simp [go_sem, List.take_of_length_le, hlen, get_E hs, hs, itemO] <;> with_reducible rfl)))
        | refine Holds.seq ?_
        | refine Holds.skip ?_
        | refine Holds.exit ?_
        | refine Holds.ret ?_
        | refine thenA_normal ?_
        | refine thenA_exit ?_
        | refine thenA_ret ?_
        | refine inB_normal ?_
        | refine inB_ret ?_
        | refine inB_here ?_
        | (refine inB_past ?_ ?_; (· exact rfl))
        | refine Holds.reg ?_
        | refine Holds.block ?_
        | refine GS.nil ?_
        | (refine GS.step (s' := ?_) ?_ ?_ ?_; rotate_left; (· exact rfl); (· (simp [go_sem, List.take_of_length_le, hlen, get_E hs, hs, itemO] <;> with_reducible rfl)))
        | (refine GS.skip ?_ ?_ ?_; (· exact rfl); (· exact rfl))
        | fail
      refine GS.cd (cf) rfl rfl rfl rfl (by simp [go_sem, List.take_of_length_le, grammarC] <;> with_reducible rfl) rfl (by exact .cons (Fz.all rfl rfl (by simp) rfl (nodes_ok _)) (.cons (Fz.fnL (.cons (Fz.box rfl rfl rfl rfl) .nil)) .nil)) rfl ?_
      repeat' first
        | (refine Holds.condT ?_ ?_; (· (simp [go_sem, List.take_of_length_le] <;> with_reducible rfl)))
        | (refine Holds.condF ?_ ?_; (· (simp [go_sem, List.take_of_length_le] <;> with_reducible rfl)))
        | refine Holds.seq ?_
        | refine Holds.skip ?_
        | refine Holds.exit ?_
        | refine Holds.ret ?_
        | refine thenA_normal ?_
        | refine thenA_exit ?_
        | refine thenA_ret ?_
        | refine inB_normal ?_
        | refine inB_ret ?_
        | refine inB_here ?_
        | (refine inB_past ?_ ?_; (· exact rfl))
        | refine Holds.reg ?_
        | refine Holds.block ?_
        | refine GS.nil ?_
        | (refine GS.step (s' := ?_) ?_ ?_ ?_; rotate_left; (· exact rfl); (· (simp [go_sem, List.take_of_length_le] <;> with_reducible rfl)))
        | (refine GS.skip ?_ ?_ ?_; (· exact rfl); (· exact rfl))
        | fail
      refine Out.mk (xs := ?_) ?_ ?_ (by first | exact .inr rfl | exact .inl rfl)
      rotate_left
      · simp [go_sem, List.take_of_length_le] <;> with_reducible rfl
      exact Fz.cl rfl
end Go.Proofs.Ytabdnpgahdbciaa.En
end
