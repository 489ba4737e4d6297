/- Own words and walks of this claim, part 6: what the program's functions compute, for all the arguments that are named; no further conditions. -/
import Derived.Test.YtabdnpgahdbciaaM5
import Derived.Test.YtabdnpgahdbciaaM4
section
namespace Go.Proofs.Ytabdnpgahdbciaa.En
open Go.RowKit
set_option linter.unusedSimpArgs false
set_option linter.unusedVariables false
set_option maxHeartbeats 16000000
theorem okR_clo {g : GrammarT} {w : List Int} {p : Nat} {S0 : List Item3} {sets : Sets3} {more : Bool} {k : Nat} (h : PassI g w p S0 sets more k) (hr : ∀ x, more = false → S0[k]? = some x → ∀ y ∈ moreL g sets p x, y ∈ at3 sets p) : PassI g w p S0 sets more (k + 1) :=
  h.next fun x e hx => by
    have := hr x e hx
    rw [(h.no e).1] at this
    exact moreL_clo this
theorem moreL_same {g : GrammarT} {a b : Sets3} {p : Nat} {x : Item3} (h : at3 a x.2.2.toNat = at3 b x.2.2.toNat) : moreL g a p x = moreL g b p x := by
  unfold moreL; rw [h]
theorem l13Sets (g : GrammarT) (hg : goodG g = true) (w : List Int) (hw : w.length ≤ 10) : Pure Try.prog 42 [.ag (grammarC g), .im 1 (ints w)] (.im 1 (itemss (setsC g w))) := by
  have hE := setsC_R hg hw
  have huni : ∀ sets, SetsR g w sets → setsC g w = sets := fun sets h => setsR_uniq hE h
  generalize setsC g w = setsE at huni ⊢
  clear hE
  have hG : g.2.2.length ≤ 16 := by simp only [goodG, Bool.and_eq_true, decide_eq_true_eq] at hg; exact hg.1.2
  have hg4 : ∀ r, r < g.2.2.length → (ruleN g r).2.length ≤ 4 := fun r hr => (good_r3 hg hr).2
  have cr := l1Rules g 0 hG
  have hll := rulesOf_len g 0
  have hz := sets0_ok g w
  simp only [sets0] at hz
  generalize rulesOf g 0 = is at cr hll hz
  refine Pure.mk (rs := [.tmp 4]) (nt := 154) Try.func42 (by kernel_rfl) rfl rfl rfl (by simp) ?_
  simp only [sl, grammarC]
  have hn1 : wr64 ((w.length : Int) + 1) = ((w.length + 1 : Nat) : Int) := wr64_id (by omega) (by omega)
  generalize hN : w.length + 1 = N at hn1 hz
  have hn0 : (0 : Int) ≤ (N : Int) := by omega
  have hn24 : (24 : Int) * N ≤ 281474976710656 := by omega
  have hnn : (N : Int) ≤ 281474976710656 := by omega
  have hnf0 : nfr (List.replicate N ([.v (.slice none 0 0)] : List AV)) := .rep (by simp [nf])
  have hO0 : List.replicate N ([.im 3 []] : List AV) = itemss ((List.replicate N []).set 0 (strL (is.take 0))) := by
    have : (List.replicate N ([] : List Item3)).set 0 (strL (is.take 0)) = List.replicate N [] := by
      refine List.ext_getElem? fun i => ?_
      by_cases hi : i = 0
      · subst hi; simp [strL]
      · rw [List.getElem?_set_ne (Ne.symm hi)]
    rw [this]; simp [itemss, itemssC, nodes]
  repeat' first | (refine Holds.condT ?_ ?_; (· (simp [go_sem, List.take_of_length_le, hn1, hn0, hn24, hnn, grammarC] <;> with_reducible rfl))) | (refine Holds.condF ?_ ?_; (· (simp [go_sem, List.take_of_length_le, hn1, hn0, hn24, hnn, grammarC] <;> with_reducible rfl))) | refine Holds.seq ?_ | refine Holds.skip ?_ | refine Holds.exit ?_ | refine Holds.ret ?_ | refine thenA_normal ?_ | refine thenA_exit ?_ | refine thenA_ret ?_ | refine inB_normal ?_ | refine inB_ret ?_ | refine inB_here ?_ | (refine inB_past ?_ ?_; (· exact rfl)) | refine Holds.reg ?_ | refine Holds.block ?_ | refine GS.nil ?_ | refine Gd.nil ?_ | (refine Holds.any mixed ?_ ?_; (· kernel_rfl)) | (refine GS.step (s' := ?_) ?_ ?_ ?_; rotate_left; (· exact rfl); (· (simp [go_sem, List.take_of_length_le, hn1, hn0, hn24, hnn, grammarC] <;> with_reducible rfl))) | (refine GS.skip ?_ ?_ ?_; (· exact rfl); (· exact rfl)) | (refine Gd.go (s' := ?_) ?_ ?_ ?_; rotate_left; (· exact rfl); (· (simp [go_sem, List.take_of_length_le, hn1, hn0, hn24, hnn, grammarC] <;> with_reducible rfl))) | (refine Gd.skip ?_ ?_ ?_; (· exact rfl); (· exact rfl)) | fail
  refine GS.cov (Cov.nilI (n := 1) (m := N) (z := 3) rfl) ?_
  simp only [st]
  first | refine GS.cc (cr) rfl rfl rfl rfl (by simp [go_sem, List.take_of_length_le, grammarC] <;> with_reducible rfl) rfl (by simp [go_sem, List.take_of_length_le, grammarC]) ?_ | refine Gd.cc (cr) rfl rfl rfl rfl (by simp [go_sem, List.take_of_length_le, grammarC] <;> with_reducible rfl) rfl (by simp [go_sem, List.take_of_length_le, grammarC]) ?_
  repeat' first | (refine Holds.condT ?_ ?_; (· (simp [go_sem, List.take_of_length_le] <;> with_reducible rfl))) | (refine Holds.condF ?_ ?_; (· (simp [go_sem, List.take_of_length_le] <;> with_reducible rfl))) | refine Holds.seq ?_ | refine Holds.skip ?_ | refine Holds.exit ?_ | refine Holds.ret ?_ | refine thenA_normal ?_ | refine thenA_exit ?_ | refine thenA_ret ?_ | refine inB_normal ?_ | refine inB_ret ?_ | refine inB_here ?_ | (refine inB_past ?_ ?_; (· exact rfl)) | refine Holds.reg ?_ | refine Holds.block ?_ | refine GS.nil ?_ | refine Gd.nil ?_ | (refine Holds.any mixed ?_ ?_; (· kernel_rfl)) | (refine GS.step (s' := ?_) ?_ ?_ ?_; rotate_left; (· exact rfl); (· (simp [go_sem, List.take_of_length_le] <;> with_reducible rfl))) | (refine GS.skip ?_ ?_ ?_; (· exact rfl); (· exact rfl)) | (refine Gd.go (s' := ?_) ?_ ?_ ?_; rotate_left; (· exact rfl); (· (simp [go_sem, List.take_of_length_le] <;> with_reducible rfl))) | (refine Gd.skip ?_ ?_ ?_; (· exact rfl); (· exact rfl)) | fail
  refine Holds.loop (ι := Nat) (fun i => ⟨[(1, .im 1 (ints w)), (2, .pb 0 3 0 0), (5, .own 1 1 0 N), (29, .im 1 (ints is)), (30, .v (.int .i64 is.length)), (31, .v (.int .i64 i))], [(1, ⟨39, 1, itemss ((List.replicate N []).set 0 (strL (is.take i)))⟩), (0, ⟨31, 3, [grammarC g]⟩)], 2⟩)
    (fun i => i ≤ is.length) (fun i => is.length - i) 0 (Nat.zero_le _) ?_ ?_
  · exact Cov.ofn (id) rfl (by simp [go_sem, List.take_of_length_le, ren, ren1, ren2, okr, okr1, okr2, ChkT, ChkN, BlkN, nf, grammarC, hO0]) (by simp [go_sem, List.take_of_length_le, ren, ren1, ren2, okr, okr1, okr2, ChkT, ChkN, BlkN, nf, grammarC, hO0])
  intro i hi
  have stepi : wr64 ((i : Int) + 1) = ((i + 1 : Nat) : Int) := wr64_id (by omega) (by omega)
  repeat' first | (refine Holds.condT ?_ ?_; (· (simp [go_sem, List.take_of_length_le] <;> with_reducible rfl))) | (refine Holds.condF ?_ ?_; (· (simp [go_sem, List.take_of_length_le] <;> with_reducible rfl))) | refine Holds.seq ?_ | refine Holds.skip ?_ | refine Holds.exit ?_ | refine Holds.ret ?_ | refine thenA_normal ?_ | refine thenA_exit ?_ | refine thenA_ret ?_ | refine inB_normal ?_ | refine inB_ret ?_ | refine inB_here ?_ | (refine inB_past ?_ ?_; (· exact rfl)) | refine Holds.reg ?_ | refine Holds.block ?_ | refine GS.nil ?_ | refine Gd.nil ?_ | (refine Holds.any mixed ?_ ?_; (· kernel_rfl)) | (refine GS.step (s' := ?_) ?_ ?_ ?_; rotate_left; (· exact rfl); (· (simp [go_sem, List.take_of_length_le] <;> with_reducible rfl))) | (refine GS.skip ?_ ?_ ?_; (· exact rfl); (· exact rfl)) | (refine Gd.go (s' := ?_) ?_ ?_ ?_; rotate_left; (· exact rfl); (· (simp [go_sem, List.take_of_length_le] <;> with_reducible rfl))) | (refine Gd.skip ?_ ?_ ?_; (· exact rfl); (· exact rfl)) | fail
  refine Holds.cond rfl (fun h => ?_) (fun h => ?_)
  · have hlt : i < is.length := by simp at h; omega
    have hxi : is[i]? = some is[i] := List.getElem?_eq_getElem hlt
    generalize is[i] = r at hxi
    have hnx := strL_next hxi
    have hsl : (strL (is.take i)).length ≤ 880 := by
      have h1 := nodupLe3 (strL (is.take i)) ((is.take i).map fun r => ((r, 0, 0) : Item3)) (sortI_nodup (strL_ok _).1) (fun z hz => by
        obtain ⟨r, hr, e⟩ := ((strL_ok _).2 z).1 hz
        exact List.mem_map.2 ⟨r, hr, e.symm⟩)
      simp only [List.length_map, List.length_take] at h1; omega
    generalize strL (is.take i) = S at hnx hsl ⊢
    have cp := l13Put S (r, 0, 0) (by omega)
    simp only [nodeC] at cp
    have hN0 : 0 < N := by omega
    have hS0 : ((List.replicate N ([] : List Item3)).set 0 S)[0]? = some S := by simp [hN0]
    have hl0 : 0 < ((List.replicate N ([] : List Item3)).set 0 S).length := by simp [hN0]
    have hss : ((List.replicate N ([] : List Item3)).set 0 S).set 0 (putI S (r, 0, 0)) = (List.replicate N ([] : List Item3)).set 0 (putI S (r, 0, 0)) := by rw [List.set_set]
    generalize (List.replicate N ([] : List Item3)).set 0 S = T at hS0 hl0 hss ⊢
    repeat' first | (refine Holds.condT ?_ ?_; (· (simp [go_sem, List.take_of_length_le, get_E hxi, hxi, hlt, hN0, hl0, get_E hS0, hS0, itemssC] <;> with_reducible rfl))) | (refine Holds.condF ?_ ?_; (· (simp [go_sem, List.take_of_length_le, get_E hxi, hxi, hlt, hN0, hl0, get_E hS0, hS0, itemssC] <;> with_reducible rfl))) | refine Holds.seq ?_ | refine Holds.skip ?_ | refine Holds.exit ?_ | refine Holds.ret ?_ | refine thenA_normal ?_ | refine thenA_exit ?_ | refine thenA_ret ?_ | refine inB_normal ?_ | refine inB_ret ?_ | refine inB_here ?_ | (refine inB_past ?_ ?_; (· exact rfl)) | refine Holds.reg ?_ | refine Holds.block ?_ | refine GS.nil ?_ | refine Gd.nil ?_ | (refine Holds.any mixed ?_ ?_; (· kernel_rfl)) | (refine GS.step (s' := ?_) ?_ ?_ ?_; rotate_left; (· exact rfl); (· (simp [go_sem, List.take_of_length_le, get_E hxi, hxi, hlt, hN0, hl0, get_E hS0, hS0, itemssC] <;> with_reducible rfl))) | (refine GS.skip ?_ ?_ ?_; (· exact rfl); (· exact rfl)) | (refine Gd.go (s' := ?_) ?_ ?_ ?_; rotate_left; (· exact rfl); (· (simp [go_sem, List.take_of_length_le, get_E hxi, hxi, hlt, hN0, hl0, get_E hS0, hS0, itemssC] <;> with_reducible rfl))) | (refine Gd.skip ?_ ?_ ?_; (· exact rfl); (· exact rfl)) | fail
    first | refine GS.cc (cp) rfl rfl rfl rfl (by simp [go_sem, List.take_of_length_le] <;> with_reducible rfl) rfl (by simp [go_sem, List.take_of_length_le]) ?_ | refine Gd.cc (cp) rfl rfl rfl rfl (by simp [go_sem, List.take_of_length_le] <;> with_reducible rfl) rfl (by simp [go_sem, List.take_of_length_le]) ?_
    generalize putI S (r, 0, 0) = S' at hnx hss
    repeat' first | (refine Holds.condT ?_ ?_; (· (simp [go_sem, List.take_of_length_le, hN0, hl0, hS0] <;> with_reducible rfl))) | (refine Holds.condF ?_ ?_; (· (simp [go_sem, List.take_of_length_le, hN0, hl0, hS0] <;> with_reducible rfl))) | refine Holds.seq ?_ | refine Holds.skip ?_ | refine Holds.exit ?_ | refine Holds.ret ?_ | refine thenA_normal ?_ | refine thenA_exit ?_ | refine thenA_ret ?_ | refine inB_normal ?_ | refine inB_ret ?_ | refine inB_here ?_ | (refine inB_past ?_ ?_; (· exact rfl)) | refine Holds.reg ?_ | refine Holds.block ?_ | refine GS.nil ?_ | refine Gd.nil ?_ | (refine Holds.any mixed ?_ ?_; (· kernel_rfl)) | (refine GS.step (s' := ?_) ?_ ?_ ?_; rotate_left; (· exact rfl); (· (simp [go_sem, List.take_of_length_le, hN0, hl0, hS0] <;> with_reducible rfl))) | (refine GS.skip ?_ ?_ ?_; (· exact rfl); (· exact rfl)) | (refine Gd.go (s' := ?_) ?_ ?_ ?_; rotate_left; (· exact rfl); (· (simp [go_sem, List.take_of_length_le, hN0, hl0, hS0] <;> with_reducible rfl))) | (refine Gd.skip ?_ ?_ ?_; (· exact rfl); (· exact rfl)) | fail
    refine ⟨i + 1, by omega, by omega, ?_⟩
    rw [stepi, hnx, ← hss]
    exact Cov.ofn (id) rfl (by simp [go_sem, List.take_of_length_le, ren, ren1, ren2, okr, okr1, okr2, ChkT, ChkN, BlkN, nf, grammarC, itemss_set, itemssC]) (by simp [go_sem, List.take_of_length_le, ren, ren1, ren2, okr, okr1, okr2, ChkT, ChkN, BlkN, nf, grammarC, itemss_set, itemssC])
  have hle : i = is.length := by simp at h; omega
  subst hle
  rw [List.take_length]
  obtain ⟨z1, z2, z3⟩ := hz
  have hsl0 : ((List.replicate N ([] : List Item3)).set 0 (strL is)).length = N := by simp
  rw [show List.replicate N ([] : List Item3) = List.replicate N [] from rfl] at z1 z2 z3
  generalize (List.replicate N ([] : List Item3)).set 0 (strL is) = sets at z1 z2 z3 hsl0 ⊢
  repeat' first | (refine Holds.condT ?_ ?_; (· (simp [go_sem, List.take_of_length_le] <;> with_reducible rfl))) | (refine Holds.condF ?_ ?_; (· (simp [go_sem, List.take_of_length_le] <;> with_reducible rfl))) | refine Holds.seq ?_ | refine Holds.skip ?_ | refine Holds.exit ?_ | refine Holds.ret ?_ | refine thenA_normal ?_ | refine thenA_exit ?_ | refine thenA_ret ?_ | refine inB_normal ?_ | refine inB_ret ?_ | refine inB_here ?_ | (refine inB_past ?_ ?_; (· exact rfl)) | refine Holds.reg ?_ | refine Holds.block ?_ | refine GS.nil ?_ | refine Gd.nil ?_ | (refine Holds.any mixed ?_ ?_; (· kernel_rfl)) | (refine GS.step (s' := ?_) ?_ ?_ ?_; rotate_left; (· exact rfl); (· (simp [go_sem, List.take_of_length_le] <;> with_reducible rfl))) | (refine GS.skip ?_ ?_ ?_; (· exact rfl); (· exact rfl)) | (refine Gd.go (s' := ?_) ?_ ?_ ?_; rotate_left; (· exact rfl); (· (simp [go_sem, List.take_of_length_le] <;> with_reducible rfl))) | (refine Gd.skip ?_ ?_ ?_; (· exact rfl); (· exact rfl)) | fail
  refine Holds.loop (ι := Nat × Sets3) (fun i => ⟨[(1, .im 1 (ints w)), (2, .pb 0 3 0 0), (5, .own 1 1 0 N), (49, .v (.int .i64 N)), (50, .v (.int .i64 i.1))], [(1, ⟨39, 1, itemss i.2⟩), (0, ⟨31, 3, [grammarC g]⟩)], 2⟩)
    (fun i => i.1 ≤ N ∧ Snd g w i.2 ∧ Srt i.2 ∧ DoneI g w i.2 i.1) (fun i => N - i.1) (0, sets) ⟨Nat.zero_le _, z1, z2, z3⟩ ?_ ?_
  · exact Cov.ofn (id) rfl (by simp [go_sem, List.take_of_length_le, ren, ren1, ren2, okr, okr1, okr2, ChkT, ChkN, BlkN, nf, grammarC]) (by simp [go_sem, List.take_of_length_le, ren, ren1, ren2, okr, okr1, okr2, ChkT, ChkN, BlkN, nf, grammarC])
  clear z1 z2 z3 hsl0 sets
  rintro ⟨p, setsP⟩ ⟨hp, hS, hT, hD⟩
  dsimp only at hp hS hT hD ⊢
  have hlP : setsP.length = N := by rw [hS.ln, hN]
  have stepp : wr64 ((p : Int) + 1) = ((p + 1 : Nat) : Int) := wr64_id (by omega) (by omega)
  repeat' first | (refine Holds.condT ?_ ?_; (· (simp [go_sem, List.take_of_length_le] <;> with_reducible rfl))) | (refine Holds.condF ?_ ?_; (· (simp [go_sem, List.take_of_length_le] <;> with_reducible rfl))) | refine Holds.seq ?_ | refine Holds.skip ?_ | refine Holds.exit ?_ | refine Holds.ret ?_ | refine thenA_normal ?_ | refine thenA_exit ?_ | refine thenA_ret ?_ | refine inB_normal ?_ | refine inB_ret ?_ | refine inB_here ?_ | (refine inB_past ?_ ?_; (· exact rfl)) | refine Holds.reg ?_ | refine Holds.block ?_ | refine GS.nil ?_ | refine Gd.nil ?_ | (refine Holds.any mixed ?_ ?_; (· kernel_rfl)) | (refine GS.step (s' := ?_) ?_ ?_ ?_; rotate_left; (· exact rfl); (· (simp [go_sem, List.take_of_length_le] <;> with_reducible rfl))) | (refine GS.skip ?_ ?_ ?_; (· exact rfl); (· exact rfl)) | (refine Gd.go (s' := ?_) ?_ ?_ ?_; rotate_left; (· exact rfl); (· (simp [go_sem, List.take_of_length_le] <;> with_reducible rfl))) | (refine Gd.skip ?_ ?_ ?_; (· exact rfl); (· exact rfl)) | fail
  refine Holds.cond rfl (fun h => ?_) (fun h => ?_)
  · have hltp : p < N := by simp at h; omega
    have hpw : p ≤ w.length := by omega
    repeat' first | (refine Holds.condT ?_ ?_; (· (simp [go_sem, List.take_of_length_le] <;> with_reducible rfl))) | (refine Holds.condF ?_ ?_; (· (simp [go_sem, List.take_of_length_le] <;> with_reducible rfl))) | refine Holds.seq ?_ | refine Holds.skip ?_ | refine Holds.exit ?_ | refine Holds.ret ?_ | refine thenA_normal ?_ | refine thenA_exit ?_ | refine thenA_ret ?_ | refine inB_normal ?_ | refine inB_ret ?_ | refine inB_here ?_ | (refine inB_past ?_ ?_; (· exact rfl)) | refine Holds.reg ?_ | refine Holds.block ?_ | refine GS.nil ?_ | refine Gd.nil ?_ | (refine Holds.any mixed ?_ ?_; (· kernel_rfl)) | (refine GS.step (s' := ?_) ?_ ?_ ?_; rotate_left; (· exact rfl); (· (simp [go_sem, List.take_of_length_le] <;> with_reducible rfl))) | (refine GS.skip ?_ ?_ ?_; (· exact rfl); (· exact rfl)) | (refine Gd.go (s' := ?_) ?_ ?_ ?_; rotate_left; (· exact rfl); (· (simp [go_sem, List.take_of_length_le] <;> with_reducible rfl))) | (refine Gd.skip ?_ ?_ ?_; (· exact rfl); (· exact rfl)) | fail
    refine Holds.loop (ι := Sets3 × Bool) (fun i => ⟨[(1, .im 1 (ints w)), (2, .pb 0 3 0 0), (5, .own 1 1 0 N), (10, .v (.int .i64 p)), (11, .v (.bool i.2)), (49, .v (.int .i64 N)), (50, .v (.int .i64 p))], [(1, ⟨39, 1, itemss i.1⟩), (0, ⟨31, 3, [grammarC g]⟩)], 2⟩)
      (fun i => Snd g w i.1 ∧ Srt i.1 ∧ DoneI g w i.1 p ∧ (i.2 = false → PassI g w p (at3 i.1 p) i.1 false (at3 i.1 p).length)) (fun i => 2 * (880 - (at3 i.1 p).length) + (if i.2 then 1 else 0)) (setsP, true) ⟨hS, hT, hD, fun e => by cases e⟩ ?_ ?_
    · exact Cov.ofn (id) rfl (by simp [go_sem, List.take_of_length_le, ren, ren1, ren2, okr, okr1, okr2, ChkT, ChkN, BlkN, nf, grammarC]) (by simp [go_sem, List.take_of_length_le, ren, ren1, ren2, okr, okr1, okr2, ChkT, ChkN, BlkN, nf, grammarC])
    clear hlP hS hT hD setsP
    rintro ⟨setsC, more0⟩ ⟨hS, hT, hD, hst⟩
    dsimp only at hS hT hD hst ⊢
    have hlC : setsC.length = N := by rw [hS.ln, hN]
    have hpl : p < setsC.length := by omega
    have hfew := hS.few hg hw p
    repeat' first | (refine Holds.condT ?_ ?_; (· (simp [go_sem, List.take_of_length_le] <;> with_reducible rfl))) | (refine Holds.condF ?_ ?_; (· (simp [go_sem, List.take_of_length_le] <;> with_reducible rfl))) | refine Holds.seq ?_ | refine Holds.skip ?_ | refine Holds.exit ?_ | refine Holds.ret ?_ | refine thenA_normal ?_ | refine thenA_exit ?_ | refine thenA_ret ?_ | refine inB_normal ?_ | refine inB_ret ?_ | refine inB_here ?_ | (refine inB_past ?_ ?_; (· exact rfl)) | refine Holds.reg ?_ | refine Holds.block ?_ | refine GS.nil ?_ | refine Gd.nil ?_ | (refine Holds.any mixed ?_ ?_; (· kernel_rfl)) | (refine GS.step (s' := ?_) ?_ ?_ ?_; rotate_left; (· exact rfl); (· (simp [go_sem, List.take_of_length_le] <;> with_reducible rfl))) | (refine GS.skip ?_ ?_ ?_; (· exact rfl); (· exact rfl)) | (refine Gd.go (s' := ?_) ?_ ?_ ?_; rotate_left; (· exact rfl); (· (simp [go_sem, List.take_of_length_le] <;> with_reducible rfl))) | (refine Gd.skip ?_ ?_ ?_; (· exact rfl); (· exact rfl)) | fail
    cases more0 with
    | true =>
      refine Holds.cond rfl (fun h => ?_) (fun h => by cases h)
      have hsp := at3_get hpl
      have hP0 : PassI g w p (at3 setsC p) setsC false 0 := ⟨hS, hD, Nat.le_refl _, fun e => (by cases e), fun _ => ⟨rfl, fun i x hi => absurd hi (Nat.not_lt_zero i)⟩⟩
      have hokC : ∀ x ∈ at3 setsC p, okI g w p x := fun x hx => hS.ok p x hx
      generalize hCC : at3 setsC p = C at hsp hP0 hokC hfew ⊢
      have hbC : C.length * 24 ≤ 140737488355328 := by omega
      repeat' first | (refine Holds.condT ?_ ?_; (· (simp [go_sem, List.take_of_length_le, hltp, hpl, get_E hsp, hsp, itemssC, nodes_all, nodeC, hbC] <;> with_reducible rfl))) | (refine Holds.condF ?_ ?_; (· (simp [go_sem, List.take_of_length_le, hltp, hpl, get_E hsp, hsp, itemssC, nodes_all, nodeC, hbC] <;> with_reducible rfl))) | refine Holds.seq ?_ | refine Holds.skip ?_ | refine Holds.exit ?_ | refine Holds.ret ?_ | refine thenA_normal ?_ | refine thenA_exit ?_ | refine thenA_ret ?_ | refine inB_normal ?_ | refine inB_ret ?_ | refine inB_here ?_ | (refine inB_past ?_ ?_; (· exact rfl)) | refine Holds.reg ?_ | refine Holds.block ?_ | refine GS.nil ?_ | refine Gd.nil ?_ | (refine Holds.any mixed ?_ ?_; (· kernel_rfl)) | (refine GS.step (s' := ?_) ?_ ?_ ?_; rotate_left; (· exact rfl); (· (simp [go_sem, List.take_of_length_le, hltp, hpl, get_E hsp, hsp, itemssC, nodes_all, nodeC, hbC] <;> with_reducible rfl))) | (refine GS.skip ?_ ?_ ?_; (· exact rfl); (· exact rfl)) | (refine Gd.go (s' := ?_) ?_ ?_ ?_; rotate_left; (· exact rfl); (· (simp [go_sem, List.take_of_length_le, hltp, hpl, get_E hsp, hsp, itemssC, nodes_all, nodeC, hbC] <;> with_reducible rfl))) | (refine Gd.skip ?_ ?_ ?_; (· exact rfl); (· exact rfl)) | fail
      refine Holds.loop (ι := Nat × Sets3 × Bool) (fun i => ⟨[(1, .im 1 (ints w)), (2, .pb 0 3 0 0), (5, .own 1 1 0 N), (10, .v (.int .i64 p)), (11, .v (.bool i.2.2)), (49, .v (.int .i64 N)), (50, .v (.int .i64 p)), (59, .own 2 3 0 C.length), (60, .v (.int .i64 C.length)), (61, .v (.int .i64 i.1))], [(2, ⟨56, 3, nodes C⟩), (1, ⟨39, 1, itemss i.2.1⟩), (0, ⟨31, 3, [grammarC g]⟩)], 3⟩)
        (fun i => i.1 ≤ C.length ∧ PassI g w p C i.2.1 i.2.2 i.1 ∧ Srt i.2.1) (fun i => C.length - i.1) (0, setsC, false) ⟨Nat.zero_le _, hP0, hT⟩ ?_ ?_
      · exact Cov.ofn (nm [0, 1, 4]) rfl (by simp [go_sem, List.take_of_length_le, ren, ren1, ren2, okr, okr1, okr2, ChkT, ChkN, BlkN, nf, grammarC]) (by simp [go_sem, List.take_of_length_le, ren, ren1, ren2, okr, okr1, okr2, ChkT, ChkN, BlkN, nf, grammarC])
      rintro ⟨k, setsK, moreK⟩ ⟨hk, hPK, hTK⟩
      dsimp only at hk hPK hTK ⊢
      have stepk : wr64 ((k : Int) + 1) = ((k + 1 : Nat) : Int) := wr64_id (by omega) (by omega)
      repeat' first | (refine Holds.condT ?_ ?_; (· (simp [go_sem, List.take_of_length_le] <;> with_reducible rfl))) | (refine Holds.condF ?_ ?_; (· (simp [go_sem, List.take_of_length_le] <;> with_reducible rfl))) | refine Holds.seq ?_ | refine Holds.skip ?_ | refine Holds.exit ?_ | refine Holds.ret ?_ | refine thenA_normal ?_ | refine thenA_exit ?_ | refine thenA_ret ?_ | refine inB_normal ?_ | refine inB_ret ?_ | refine inB_here ?_ | (refine inB_past ?_ ?_; (· exact rfl)) | refine Holds.reg ?_ | refine Holds.block ?_ | refine GS.nil ?_ | refine Gd.nil ?_ | (refine Holds.any mixed ?_ ?_; (· kernel_rfl)) | (refine GS.step (s' := ?_) ?_ ?_ ?_; rotate_left; (· exact rfl); (· (simp [go_sem, List.take_of_length_le] <;> with_reducible rfl))) | (refine GS.skip ?_ ?_ ?_; (· exact rfl); (· exact rfl)) | (refine Gd.go (s' := ?_) ?_ ?_ ?_; rotate_left; (· exact rfl); (· (simp [go_sem, List.take_of_length_le] <;> with_reducible rfl))) | (refine Gd.skip ?_ ?_ ?_; (· exact rfl); (· exact rfl)) | fail
      refine Holds.cond rfl (fun h => ?_) (fun h => ?_)
      · have hltk : k < C.length := by simp at h; omega
        have hxk : C[k]? = some C[k] := List.getElem?_eq_getElem hltk
        have hox := hokC _ (List.getElem_mem hltk)
        generalize hxx : C[k] = x at hxk hox
        have hokM := moreL_ok hPK.snd hox
        obtain ⟨r, d, f, rfl, hEar⟩ := id hox
        have hb := hEar.bnd
        have hlK : setsK.length = N := by rw [hPK.snd.ln, hN]
        have hfK : f < setsK.length := by omega
        have hfl := hPK.snd.few hg hw f
        have cm := l13More g hG hg4 setsK p r d f hb.1 hb.2.1 hfK hfl (fun z hz => okI_wf (hPK.snd.ok f z hz))
        have hml := moreL_len (p := p) hG (x := itemN r d f) (sets := setsK) (by simpa [itemN] using hfl)
        simp only [itemN, nodeC] at cm
        have hitem : ((r : Int), (d : Int), (f : Int)) = itemN r d f := rfl
        rw [hitem] at cm
        generalize hys : moreL g setsK p (itemN r d f) = ys at cm hokM hml
        repeat' first | (refine Holds.condT ?_ ?_; (· (simp [go_sem, List.take_of_length_le, get_E hxk, hxk, hltk, nodeC, itemN, grammarC] <;> with_reducible rfl))) | (refine Holds.condF ?_ ?_; (· (simp [go_sem, List.take_of_length_le, get_E hxk, hxk, hltk, nodeC, itemN, grammarC] <;> with_reducible rfl))) | refine Holds.seq ?_ | refine Holds.skip ?_ | refine Holds.exit ?_ | refine Holds.ret ?_ | refine thenA_normal ?_ | refine thenA_exit ?_ | refine thenA_ret ?_ | refine inB_normal ?_ | refine inB_ret ?_ | refine inB_here ?_ | (refine inB_past ?_ ?_; (· exact rfl)) | refine Holds.reg ?_ | refine Holds.block ?_ | refine GS.nil ?_ | refine Gd.nil ?_ | (refine Holds.any mixed ?_ ?_; (· kernel_rfl)) | (refine GS.step (s' := ?_) ?_ ?_ ?_; rotate_left; (· exact rfl); (· (simp [go_sem, List.take_of_length_le, get_E hxk, hxk, hltk, nodeC, itemN, grammarC] <;> with_reducible rfl))) | (refine GS.skip ?_ ?_ ?_; (· exact rfl); (· exact rfl)) | (refine Gd.go (s' := ?_) ?_ ?_ ?_; rotate_left; (· exact rfl); (· (simp [go_sem, List.take_of_length_le, get_E hxk, hxk, hltk, nodeC, itemN, grammarC] <;> with_reducible rfl))) | (refine Gd.skip ?_ ?_ ?_; (· exact rfl); (· exact rfl)) | fail
        refine GS.fnnd (cm) rfl rfl rfl rfl (by simp [go_sem, List.take_of_length_le, ren, ren1, ren2, okr, okr1, okr2, List.range_succ, nf, grammarC] <;> with_reducible rfl) (by exact (.cons (Fz.cl rfl) (.cons (Fz.all rfl rfl (by simp [hlK]) rfl (itemss_ok _)) (.cons (.v _) (.cons (Fz.cl rfl) .nil))))) (by simp) (by simp [go_sem, List.take_of_length_le, ren, ren1, ren2, okr, okr1, okr2, List.range_succ, nf, grammarC]) (by simp [go_sem, List.take_of_length_le, ren, ren1, ren2, okr, okr1, okr2, List.range_succ, nf, grammarC]) rfl (.nfr (by simp) .nil) (by simp [go_sem, List.take_of_length_le, ren, ren1, ren2, okr, okr1, okr2, List.range_succ, nf, grammarC] <;> with_reducible rfl) ?_
        repeat' first | (refine Holds.condT ?_ ?_; (· (simp [go_sem, List.take_of_length_le] <;> with_reducible rfl))) | (refine Holds.condF ?_ ?_; (· (simp [go_sem, List.take_of_length_le] <;> with_reducible rfl))) | refine Holds.seq ?_ | refine Holds.skip ?_ | refine Holds.exit ?_ | refine Holds.ret ?_ | refine thenA_normal ?_ | refine thenA_exit ?_ | refine thenA_ret ?_ | refine inB_normal ?_ | refine inB_ret ?_ | refine inB_here ?_ | (refine inB_past ?_ ?_; (· exact rfl)) | refine Holds.reg ?_ | refine Holds.block ?_ | refine GS.nil ?_ | refine Gd.nil ?_ | (refine Holds.any mixed ?_ ?_; (· kernel_rfl)) | (refine GS.step (s' := ?_) ?_ ?_ ?_; rotate_left; (· exact rfl); (· (simp [go_sem, List.take_of_length_le] <;> with_reducible rfl))) | (refine GS.skip ?_ ?_ ?_; (· exact rfl); (· exact rfl)) | (refine Gd.go (s' := ?_) ?_ ?_ ?_; rotate_left; (· exact rfl); (· (simp [go_sem, List.take_of_length_le] <;> with_reducible rfl))) | (refine Gd.skip ?_ ?_ ?_; (· exact rfl); (· exact rfl)) | fail
        refine Holds.loop (ι := Nat × Sets3 × Bool) (fun i => ⟨[(1, .im 1 (ints w)), (2, .pb 0 3 0 0), (5, .own 1 1 0 N), (10, .v (.int .i64 p)), (11, .v (.bool i.2.2)), (49, .v (.int .i64 N)), (50, .v (.int .i64 p)), (59, .own 2 3 0 C.length), (60, .v (.int .i64 C.length)), (61, .v (.int .i64 k)), (69, .own 3 3 0 ys.length), (70, .v (.int .i64 ys.length)), (71, .v (.int .i64 i.1))], [(3, ⟨56, 3, nodes ys⟩), (2, ⟨56, 3, nodes C⟩), (1, ⟨39, 1, itemss i.2.1⟩), (0, ⟨31, 3, [grammarC g]⟩)], 4⟩)
          (fun i => i.1 ≤ ys.length ∧ PassI g w p C i.2.1 i.2.2 k ∧ Srt i.2.1 ∧ (moreK = true → i.2.2 = true) ∧ (∀ q, q ≠ p → at3 i.2.1 q = at3 setsK q) ∧ ∀ y ∈ ys.take i.1, y ∈ at3 i.2.1 p) (fun i => ys.length - i.1) (0, setsK, moreK) ⟨Nat.zero_le _, hPK, hTK, id, fun q _ => rfl, fun y hy => by cases hy⟩ ?_ ?_
        · exact Cov.ofn (nm [0, 1, 2, 4]) rfl (by simp [go_sem, List.take_of_length_le, ren, ren1, ren2, okr, okr1, okr2, ChkT, ChkN, BlkN, nf, grammarC, nodeC, itemN]) (by simp [go_sem, List.take_of_length_le, ren, ren1, ren2, okr, okr1, okr2, ChkT, ChkN, BlkN, nf, grammarC, nodeC, itemN])
        rintro ⟨j, setsJ, moreJ⟩ ⟨hj, hPJ, hTJ, hmJ, hqJ, hyJ⟩
        dsimp only at hj hPJ hTJ hmJ hqJ hyJ ⊢
        have stepj : wr64 ((j : Int) + 1) = ((j + 1 : Nat) : Int) := wr64_id (by omega) (by omega)
        repeat' first | (refine Holds.condT ?_ ?_; (· (simp [go_sem, List.take_of_length_le] <;> with_reducible rfl))) | (refine Holds.condF ?_ ?_; (· (simp [go_sem, List.take_of_length_le] <;> with_reducible rfl))) | refine Holds.seq ?_ | refine Holds.skip ?_ | refine Holds.exit ?_ | refine Holds.ret ?_ | refine thenA_normal ?_ | refine thenA_exit ?_ | refine thenA_ret ?_ | refine inB_normal ?_ | refine inB_ret ?_ | refine inB_here ?_ | (refine inB_past ?_ ?_; (· exact rfl)) | refine Holds.reg ?_ | refine Holds.block ?_ | refine GS.nil ?_ | refine Gd.nil ?_ | (refine Holds.any mixed ?_ ?_; (· kernel_rfl)) | (refine GS.step (s' := ?_) ?_ ?_ ?_; rotate_left; (· exact rfl); (· (simp [go_sem, List.take_of_length_le] <;> with_reducible rfl))) | (refine GS.skip ?_ ?_ ?_; (· exact rfl); (· exact rfl)) | (refine Gd.go (s' := ?_) ?_ ?_ ?_; rotate_left; (· exact rfl); (· (simp [go_sem, List.take_of_length_le] <;> with_reducible rfl))) | (refine Gd.skip ?_ ?_ ?_; (· exact rfl); (· exact rfl)) | fail
        refine Holds.cond rfl (fun h => ?_) (fun h => ?_)
        · have hltj : j < ys.length := by simp at h; omega
          have hyj : ys[j]? = some ys[j] := List.getElem?_eq_getElem hltj
          have hoy := hokM _ (List.getElem_mem hltj)
          generalize ys[j] = y at hyj hoy
          have hlJ : setsJ.length = N := by rw [hPJ.snd.ln, hN]
          have hpJ : p < setsJ.length := by omega
          have hsJ := at3_get hpJ
          have hfJ := hPJ.snd.few hg hw p
          have hR := putI_R (hTJ p) y
          have hP2 := hPJ.put hpJ hoy hR
          have hT2 := hTJ.put hpJ y
          have hmd := metI_dec (hTJ p) y
          have cp := l13Put (at3 setsJ p) y (by omega)
          rw [hmd] at cp
          generalize hfr : decide (y ∉ at3 setsJ p) = fr at cp hP2
          have hyJ2 : ∀ z ∈ ys.take (j + 1), z ∈ putI (at3 setsJ p) y := fun z hz => by
            rw [List.take_add_one, hyj] at hz
            rcases List.mem_append.1 hz with e | e
            · exact (hR.mem z).2 (.inr (hyJ z e))
            · simp at e; exact (hR.mem z).2 (.inl e)
          generalize putI (at3 setsJ p) y = S2 at cp hP2 hT2 hyJ2
          have hat2 := at3_set hpJ S2
          have hqJ2 : ∀ q, q ≠ p → at3 (setsJ.set p S2) q = at3 setsK q := fun q hq => by rw [at3_ne (Ne.symm hq), hqJ q hq]
          generalize at3 setsJ p = S1 at hsJ cp
          simp only [nodeC] at cp
          repeat' first | (refine Holds.condT ?_ ?_; (· (simp [go_sem, List.take_of_length_le, get_E hyj, hyj, hltj, nodeC, hltp, hpJ, get_E hsJ, hsJ, itemssC] <;> with_reducible rfl))) | (refine Holds.condF ?_ ?_; (· (simp [go_sem, List.take_of_length_le, get_E hyj, hyj, hltj, nodeC, hltp, hpJ, get_E hsJ, hsJ, itemssC] <;> with_reducible rfl))) | refine Holds.seq ?_ | refine Holds.skip ?_ | refine Holds.exit ?_ | refine Holds.ret ?_ | refine thenA_normal ?_ | refine thenA_exit ?_ | refine thenA_ret ?_ | refine inB_normal ?_ | refine inB_ret ?_ | refine inB_here ?_ | (refine inB_past ?_ ?_; (· exact rfl)) | refine Holds.reg ?_ | refine Holds.block ?_ | refine GS.nil ?_ | refine Gd.nil ?_ | (refine Holds.any mixed ?_ ?_; (· kernel_rfl)) | (refine GS.step (s' := ?_) ?_ ?_ ?_; rotate_left; (· exact rfl); (· (simp [go_sem, List.take_of_length_le, get_E hyj, hyj, hltj, nodeC, hltp, hpJ, get_E hsJ, hsJ, itemssC] <;> with_reducible rfl))) | (refine GS.skip ?_ ?_ ?_; (· exact rfl); (· exact rfl)) | (refine Gd.go (s' := ?_) ?_ ?_ ?_; rotate_left; (· exact rfl); (· (simp [go_sem, List.take_of_length_le, get_E hyj, hyj, hltj, nodeC, hltp, hpJ, get_E hsJ, hsJ, itemssC] <;> with_reducible rfl))) | (refine Gd.skip ?_ ?_ ?_; (· exact rfl); (· exact rfl)) | fail
          first | refine GS.cc (cp) rfl rfl rfl rfl (by simp [go_sem, List.take_of_length_le] <;> with_reducible rfl) rfl (by simp [go_sem, List.take_of_length_le]) ?_ | refine Gd.cc (cp) rfl rfl rfl rfl (by simp [go_sem, List.take_of_length_le] <;> with_reducible rfl) rfl (by simp [go_sem, List.take_of_length_le]) ?_
          cases moreJ with
          | true =>
            repeat' first | (refine Holds.condT ?_ ?_; (· (simp [go_sem, List.take_of_length_le, hltp, hpJ, hsJ] <;> with_reducible rfl))) | (refine Holds.condF ?_ ?_; (· (simp [go_sem, List.take_of_length_le, hltp, hpJ, hsJ] <;> with_reducible rfl))) | refine Holds.seq ?_ | refine Holds.skip ?_ | refine Holds.exit ?_ | refine Holds.ret ?_ | refine thenA_normal ?_ | refine thenA_exit ?_ | refine thenA_ret ?_ | refine inB_normal ?_ | refine inB_ret ?_ | refine inB_here ?_ | (refine inB_past ?_ ?_; (· exact rfl)) | refine Holds.reg ?_ | refine Holds.block ?_ | refine GS.nil ?_ | refine Gd.nil ?_ | (refine Holds.any mixed ?_ ?_; (· kernel_rfl)) | (refine GS.step (s' := ?_) ?_ ?_ ?_; rotate_left; (· exact rfl); (· (simp [go_sem, List.take_of_length_le, hltp, hpJ, hsJ] <;> with_reducible rfl))) | (refine GS.skip ?_ ?_ ?_; (· exact rfl); (· exact rfl)) | (refine Gd.go (s' := ?_) ?_ ?_ ?_; rotate_left; (· exact rfl); (· (simp [go_sem, List.take_of_length_le, hltp, hpJ, hsJ] <;> with_reducible rfl))) | (refine Gd.skip ?_ ?_ ?_; (· exact rfl); (· exact rfl)) | fail
            refine ⟨(j + 1, setsJ.set p S2, true), ⟨by dsimp only; omega, hP2, hT2, fun _ => rfl, hqJ2, by dsimp only; rw [hat2]; exact hyJ2⟩, by dsimp only; omega, ?_⟩
            rw [stepj]
            exact Cov.ofn (id) rfl (by simp [go_sem, List.take_of_length_le, ren, ren1, ren2, okr, okr1, okr2, ChkT, ChkN, BlkN, nf, grammarC, itemss_set, itemssC]) (by simp [go_sem, List.take_of_length_le, ren, ren1, ren2, okr, okr1, okr2, ChkT, ChkN, BlkN, nf, grammarC, itemss_set, itemssC])
          | false =>
            rw [Bool.false_or] at hP2
            repeat' first | (refine Holds.condT ?_ ?_; (· (simp [go_sem, List.take_of_length_le, hltp, hpJ, hsJ] <;> with_reducible rfl))) | (refine Holds.condF ?_ ?_; (· (simp [go_sem, List.take_of_length_le, hltp, hpJ, hsJ] <;> with_reducible rfl))) | refine Holds.seq ?_ | refine Holds.skip ?_ | refine Holds.exit ?_ | refine Holds.ret ?_ | refine thenA_normal ?_ | refine thenA_exit ?_ | refine thenA_ret ?_ | refine inB_normal ?_ | refine inB_ret ?_ | refine inB_here ?_ | (refine inB_past ?_ ?_; (· exact rfl)) | refine Holds.reg ?_ | refine Holds.block ?_ | refine GS.nil ?_ | refine Gd.nil ?_ | (refine Holds.any mixed ?_ ?_; (· kernel_rfl)) | (refine GS.step (s' := ?_) ?_ ?_ ?_; rotate_left; (· exact rfl); (· (simp [go_sem, List.take_of_length_le, hltp, hpJ, hsJ] <;> with_reducible rfl))) | (refine GS.skip ?_ ?_ ?_; (· exact rfl); (· exact rfl)) | (refine Gd.go (s' := ?_) ?_ ?_ ?_; rotate_left; (· exact rfl); (· (simp [go_sem, List.take_of_length_le, hltp, hpJ, hsJ] <;> with_reducible rfl))) | (refine Gd.skip ?_ ?_ ?_; (· exact rfl); (· exact rfl)) | fail
            refine ⟨(j + 1, setsJ.set p S2, fr), ⟨by dsimp only; omega, hP2, hT2, fun e => (by cases hmJ e), hqJ2, by dsimp only; rw [hat2]; exact hyJ2⟩, by dsimp only; omega, ?_⟩
            rw [stepj]
            exact Cov.ofn (id) rfl (by simp [go_sem, List.take_of_length_le, ren, ren1, ren2, okr, okr1, okr2, ChkT, ChkN, BlkN, nf, grammarC, itemss_set, itemssC]) (by simp [go_sem, List.take_of_length_le, ren, ren1, ren2, okr, okr1, okr2, ChkT, ChkN, BlkN, nf, grammarC, itemss_set, itemssC])
        · have hlej : j = ys.length := by simp at h; omega
          subst hlej
          rw [List.take_length] at hyJ
          have hnext := okR_clo hPJ (fun z e hz => by
            rw [hxk] at hz
            injection hz with hz
            subst hz
            have hmK : moreK = false := by
              cases hh : moreK with
              | false => rfl
              | true => have := hmJ hh; rw [e] at this; cases this
            have hfe : at3 setsJ (itemN r d f).2.2.toNat = at3 setsK (itemN r d f).2.2.toNat := by
              by_cases hfp : (itemN r d f).2.2.toNat = p
              · rw [hfp, (hPJ.no e).1, (hPK.no hmK).1]
              · exact hqJ _ hfp
            rw [moreL_same hfe, hys]
            exact hyJ)
          repeat' first | (refine Holds.condT ?_ ?_; (· (simp [go_sem, List.take_of_length_le] <;> with_reducible rfl))) | (refine Holds.condF ?_ ?_; (· (simp [go_sem, List.take_of_length_le] <;> with_reducible rfl))) | refine Holds.seq ?_ | refine Holds.skip ?_ | refine Holds.exit ?_ | refine Holds.ret ?_ | refine thenA_normal ?_ | refine thenA_exit ?_ | refine thenA_ret ?_ | refine inB_normal ?_ | refine inB_ret ?_ | refine inB_here ?_ | (refine inB_past ?_ ?_; (· exact rfl)) | refine Holds.reg ?_ | refine Holds.block ?_ | refine GS.nil ?_ | refine Gd.nil ?_ | (refine Holds.any mixed ?_ ?_; (· kernel_rfl)) | (refine GS.step (s' := ?_) ?_ ?_ ?_; rotate_left; (· exact rfl); (· (simp [go_sem, List.take_of_length_le] <;> with_reducible rfl))) | (refine GS.skip ?_ ?_ ?_; (· exact rfl); (· exact rfl)) | (refine Gd.go (s' := ?_) ?_ ?_ ?_; rotate_left; (· exact rfl); (· (simp [go_sem, List.take_of_length_le] <;> with_reducible rfl))) | (refine Gd.skip ?_ ?_ ?_; (· exact rfl); (· exact rfl)) | fail
          refine ⟨(k + 1, setsJ, moreJ), ⟨by dsimp only; omega, hnext, hTJ⟩, by dsimp only; omega, ?_⟩
          rw [stepk]
          exact Cov.ofn (id) rfl (by simp [go_sem, List.take_of_length_le, ren, ren1, ren2, okr, okr1, okr2, ChkT, ChkN, BlkN, nf, grammarC]) (by simp [go_sem, List.take_of_length_le, ren, ren1, ren2, okr, okr1, okr2, ChkT, ChkN, BlkN, nf, grammarC])
      · have hlek : k = C.length := by simp at h; omega
        subst hlek
        repeat' first | (refine Holds.condT ?_ ?_; (· (simp [go_sem, List.take_of_length_le] <;> with_reducible rfl))) | (refine Holds.condF ?_ ?_; (· (simp [go_sem, List.take_of_length_le] <;> with_reducible rfl))) | refine Holds.seq ?_ | refine Holds.skip ?_ | refine Holds.exit ?_ | refine Holds.ret ?_ | refine thenA_normal ?_ | refine thenA_exit ?_ | refine thenA_ret ?_ | refine inB_normal ?_ | refine inB_ret ?_ | refine inB_here ?_ | (refine inB_past ?_ ?_; (· exact rfl)) | refine Holds.reg ?_ | refine Holds.block ?_ | refine GS.nil ?_ | refine Gd.nil ?_ | (refine Holds.any mixed ?_ ?_; (· kernel_rfl)) | (refine GS.step (s' := ?_) ?_ ?_ ?_; rotate_left; (· exact rfl); (· (simp [go_sem, List.take_of_length_le] <;> with_reducible rfl))) | (refine GS.skip ?_ ?_ ?_; (· exact rfl); (· exact rfl)) | (refine Gd.go (s' := ?_) ?_ ?_ ?_; rotate_left; (· exact rfl); (· (simp [go_sem, List.take_of_length_le] <;> with_reducible rfl))) | (refine Gd.skip ?_ ?_ ?_; (· exact rfl); (· exact rfl)) | fail
        refine ⟨(setsK, moreK), ⟨hPK.snd, hTK, hPK.dn, fun e => by subst e; exact hPK.closed⟩, ?_, ?_⟩
        · dsimp only
          have hf1 := hPK.snd.few hg hw p
          cases moreK with
          | true => have := hPK.yes rfl; simp only [if_true]; omega
          | false => have := (hPK.no rfl).1; rw [this]; simp only [if_true, Bool.false_eq_true, if_false]; omega
        exact Cov.ofn (id) rfl (by simp [go_sem, List.take_of_length_le, ren, ren1, ren2, okr, okr1, okr2, ChkT, ChkN, BlkN, nf, grammarC]) (by simp [go_sem, List.take_of_length_le, ren, ren1, ren2, okr, okr1, okr2, ChkT, ChkN, BlkN, nf, grammarC])
    | false =>
      refine Holds.cond rfl (fun h => by cases h) (fun h => ?_)
      have hPp := hst rfl
      have hsp := at3_get hpl
      have hokS : ∀ x ∈ at3 setsC p, okI g w p x := fun x hx => hS.ok p x hx
      generalize hSS : at3 setsC p = S at hsp hPp hfew hokS
      have hSl : at3 setsC p = S := hSS
      repeat' first | (refine Holds.condT ?_ ?_; (· (simp [go_sem, List.take_of_length_le, hltp, hpl, get_E hsp, hsp, itemssC] <;> with_reducible rfl))) | (refine Holds.condF ?_ ?_; (· (simp [go_sem, List.take_of_length_le, hltp, hpl, get_E hsp, hsp, itemssC] <;> with_reducible rfl))) | refine Holds.seq ?_ | refine Holds.skip ?_ | refine Holds.exit ?_ | refine Holds.ret ?_ | refine thenA_normal ?_ | refine thenA_exit ?_ | refine thenA_ret ?_ | refine inB_normal ?_ | refine inB_ret ?_ | refine inB_here ?_ | (refine inB_past ?_ ?_; (· exact rfl)) | refine Holds.reg ?_ | refine Holds.block ?_ | refine GS.nil ?_ | refine Gd.nil ?_ | (refine Holds.any mixed ?_ ?_; (· kernel_rfl)) | (refine GS.step (s' := ?_) ?_ ?_ ?_; rotate_left; (· exact rfl); (· (simp [go_sem, List.take_of_length_le, hltp, hpl, get_E hsp, hsp, itemssC] <;> with_reducible rfl))) | (refine GS.skip ?_ ?_ ?_; (· exact rfl); (· exact rfl)) | (refine Gd.go (s' := ?_) ?_ ?_ ?_; rotate_left; (· exact rfl); (· (simp [go_sem, List.take_of_length_le, hltp, hpl, get_E hsp, hsp, itemssC] <;> with_reducible rfl))) | (refine Gd.skip ?_ ?_ ?_; (· exact rfl); (· exact rfl)) | fail
      refine Holds.loop (ι := Nat × Sets3) (fun i => ⟨[(1, .im 1 (ints w)), (2, .pb 0 3 0 0), (5, .own 1 1 0 N), (10, .v (.int .i64 p)), (49, .v (.int .i64 N)), (50, .v (.int .i64 p)), (97, .im 3 (nodes S)), (98, .v (.int .i64 S.length)), (99, .v (.int .i64 i.1))], [(1, ⟨39, 1, itemss i.2⟩), (0, ⟨31, 3, [grammarC g]⟩)], 2⟩)
        (fun i => i.1 ≤ S.length ∧ PassI g w p S i.2 false S.length ∧ Srt i.2 ∧ ∀ x ∈ S.take i.1, CloS g w p (at3 i.2 (p + 1)) x) (fun i => S.length - i.1) (0, setsC) ⟨Nat.zero_le _, hPp, hT, fun x hx => by cases hx⟩ ?_ ?_
      · exact Cov.ofn (id) rfl (by simp [go_sem, List.take_of_length_le, ren, ren1, ren2, okr, okr1, okr2, ChkT, ChkN, BlkN, nf, grammarC]) (by simp [go_sem, List.take_of_length_le, ren, ren1, ren2, okr, okr1, okr2, ChkT, ChkN, BlkN, nf, grammarC])
      rintro ⟨i, setsI⟩ ⟨hi, hPI, hTI, hCI⟩
      dsimp only at hi hPI hTI hCI ⊢
      have stepi : wr64 ((i : Int) + 1) = ((i + 1 : Nat) : Int) := wr64_id (by omega) (by omega)
      have hlI : setsI.length = N := by rw [hPI.snd.ln, hN]
      repeat' first | (refine Holds.condT ?_ ?_; (· (simp [go_sem, List.take_of_length_le] <;> with_reducible rfl))) | (refine Holds.condF ?_ ?_; (· (simp [go_sem, List.take_of_length_le] <;> with_reducible rfl))) | refine Holds.seq ?_ | refine Holds.skip ?_ | refine Holds.exit ?_ | refine Holds.ret ?_ | refine thenA_normal ?_ | refine thenA_exit ?_ | refine thenA_ret ?_ | refine inB_normal ?_ | refine inB_ret ?_ | refine inB_here ?_ | (refine inB_past ?_ ?_; (· exact rfl)) | refine Holds.reg ?_ | refine Holds.block ?_ | refine GS.nil ?_ | refine Gd.nil ?_ | (refine Holds.any mixed ?_ ?_; (· kernel_rfl)) | (refine GS.step (s' := ?_) ?_ ?_ ?_; rotate_left; (· exact rfl); (· (simp [go_sem, List.take_of_length_le] <;> with_reducible rfl))) | (refine GS.skip ?_ ?_ ?_; (· exact rfl); (· exact rfl)) | (refine Gd.go (s' := ?_) ?_ ?_ ?_; rotate_left; (· exact rfl); (· (simp [go_sem, List.take_of_length_le] <;> with_reducible rfl))) | (refine Gd.skip ?_ ?_ ?_; (· exact rfl); (· exact rfl)) | fail
      refine Holds.cond rfl (fun h => ?_) (fun h => ?_)
      · have hlti : i < S.length := by simp at h; omega
        have hxi : S[i]? = some S[i] := List.getElem?_eq_getElem hlti
        have hox := hokS _ (List.getElem_mem hlti)
        generalize S[i] = x at hxi hox
        obtain ⟨r, d, f, rfl, hEar⟩ := id hox
        have hb := hEar.bnd
        have ca := l13At g r d f hb.1 hb.2.1
        simp only [itemN, nodeC] at ca
        have snoc : ∀ {T : List Item3} (hc : ∀ z ∈ S.take i, CloS g w p T z), CloS g w p T (itemN r d f) → ∀ z ∈ S.take (i + 1), CloS g w p T z := fun hc h1 z hz => by
          rw [List.take_add_one, hxi] at hz
          rcases List.mem_append.1 hz with e | e
          · exact hc z e
          · simp at e; subst e; exact h1
        repeat' first | (refine Holds.condT ?_ ?_; (· (simp [go_sem, List.take_of_length_le, get_E hxi, hxi, hlti, nodeC, itemN, grammarC] <;> with_reducible rfl))) | (refine Holds.condF ?_ ?_; (· (simp [go_sem, List.take_of_length_le, get_E hxi, hxi, hlti, nodeC, itemN, grammarC] <;> with_reducible rfl))) | refine Holds.seq ?_ | refine Holds.skip ?_ | refine Holds.exit ?_ | refine Holds.ret ?_ | refine thenA_normal ?_ | refine thenA_exit ?_ | refine thenA_ret ?_ | refine inB_normal ?_ | refine inB_ret ?_ | refine inB_here ?_ | (refine inB_past ?_ ?_; (· exact rfl)) | refine Holds.reg ?_ | refine Holds.block ?_ | refine GS.nil ?_ | refine Gd.nil ?_ | (refine Holds.any mixed ?_ ?_; (· kernel_rfl)) | (refine GS.step (s' := ?_) ?_ ?_ ?_; rotate_left; (· exact rfl); (· (simp [go_sem, List.take_of_length_le, get_E hxi, hxi, hlti, nodeC, itemN, grammarC] <;> with_reducible rfl))) | (refine GS.skip ?_ ?_ ?_; (· exact rfl); (· exact rfl)) | (refine Gd.go (s' := ?_) ?_ ?_ ?_; rotate_left; (· exact rfl); (· (simp [go_sem, List.take_of_length_le, get_E hxi, hxi, hlti, nodeC, itemN, grammarC] <;> with_reducible rfl))) | (refine Gd.skip ?_ ?_ ?_; (· exact rfl); (· exact rfl)) | fail
        cases hsy : symAt g (itemN r d f) with
        | none =>
          rw [show symAt g (↑r, ↑d, ↑f) = none from hsy] at ca
          simp only [symV] at ca
          first | refine GS.cc (ca) rfl rfl rfl rfl (by simp [go_sem, List.take_of_length_le, grammarC] <;> with_reducible rfl) rfl (by simp [go_sem, List.take_of_length_le, grammarC]) ?_ | refine Gd.cc (ca) rfl rfl rfl rfl (by simp [go_sem, List.take_of_length_le, grammarC] <;> with_reducible rfl) rfl (by simp [go_sem, List.take_of_length_le, grammarC]) ?_
          repeat' first | (refine Holds.condT ?_ ?_; (· (simp [go_sem, List.take_of_length_le] <;> with_reducible rfl))) | (refine Holds.condF ?_ ?_; (· (simp [go_sem, List.take_of_length_le] <;> with_reducible rfl))) | refine Holds.seq ?_ | refine Holds.skip ?_ | refine Holds.exit ?_ | refine Holds.ret ?_ | refine thenA_normal ?_ | refine thenA_exit ?_ | refine thenA_ret ?_ | refine inB_normal ?_ | refine inB_ret ?_ | refine inB_here ?_ | (refine inB_past ?_ ?_; (· exact rfl)) | refine Holds.reg ?_ | refine Holds.block ?_ | refine GS.nil ?_ | refine Gd.nil ?_ | (refine Holds.any mixed ?_ ?_; (· kernel_rfl)) | (refine GS.step (s' := ?_) ?_ ?_ ?_; rotate_left; (· exact rfl); (· (simp [go_sem, List.take_of_length_le] <;> with_reducible rfl))) | (refine GS.skip ?_ ?_ ?_; (· exact rfl); (· exact rfl)) | (refine Gd.go (s' := ?_) ?_ ?_ ?_; rotate_left; (· exact rfl); (· (simp [go_sem, List.take_of_length_le] <;> with_reducible rfl))) | (refine Gd.skip ?_ ?_ ?_; (· exact rfl); (· exact rfl)) | fail
          refine ⟨(i + 1, setsI), ⟨by dsimp only; omega, hPI, hTI, snoc hCI (fun y hy => by rw [hsy] at hy; cases hy)⟩, by dsimp only; omega, ?_⟩
          rw [stepi]
          exact Cov.ofn (id) rfl (by simp [go_sem, List.take_of_length_le, ren, ren1, ren2, okr, okr1, okr2, ChkT, ChkN, BlkN, nf, grammarC]) (by simp [go_sem, List.take_of_length_le, ren, ren1, ren2, okr, okr1, okr2, ChkT, ChkN, BlkN, nf, grammarC])
        | some y =>
          rw [show symAt g (↑r, ↑d, ↑f) = some y from hsy] at ca
          simp only [symV] at ca
          first | refine GS.cc (ca) rfl rfl rfl rfl (by simp [go_sem, List.take_of_length_le, grammarC] <;> with_reducible rfl) rfl (by simp [go_sem, List.take_of_length_le, grammarC]) ?_ | refine Gd.cc (ca) rfl rfl rfl rfl (by simp [go_sem, List.take_of_length_le, grammarC] <;> with_reducible rfl) rfl (by simp [go_sem, List.take_of_length_le, grammarC]) ?_
          by_cases hy : y < 0
          · by_cases hpn : p < w.length
            · have hwp : w[p]? = some w[p] := List.getElem?_eq_getElem hpn
              generalize w[p] = t at hwp
              have hym : ∃ m : Int, wr64 (-1 - y) = m := ⟨_, rfl⟩
              have hR4 := hg4 r hb.1
              have hyb : -100 ≤ y := by
                rw [symAt_N] at hsy
                have := good_sym hg hb.1 (List.mem_of_getElem? hsy)
                omega
              have hwy : wr64 (-1 - y) = -1 - y := wr64_id (by omega) (by omega)
              have hwd : wr64 ((d : Int) + 1) = (d : Int) + 1 := wr64_id (by omega) (by omega)
              have hwp1 : wr64 ((p : Int) + 1) = ((p + 1 : Nat) : Int) := stepp
              by_cases hty : t = -1 - y
              · have hty' : (t == -1 - y) = true := by simp [hty]
                have hp1 : p + 1 < setsI.length := by omega
                have hs1 := at3_get hp1
                have hf1 := hPI.snd.few hg hw (p + 1)
                have hoa : okI g w (p + 1) (itemN r (d + 1) f) := ⟨r, d + 1, f, rfl, .scan p r d f y hEar (by rw [← symAt_N g r d f]; exact hsy) hy (by rw [hwp, hty])⟩
                have hR := putI_R (hTI (p + 1)) (itemN r (d + 1) f)
                have hP2 := hPI.putNext hp1 hoa hR
                have hT2 := hTI.put hp1 (itemN r (d + 1) f)
                have cp := l13Put (at3 setsI (p + 1)) (itemN r (d + 1) f) (by omega)
                have hat2 := at3_set hp1 (putI (at3 setsI (p + 1)) (itemN r (d + 1) f))
                have hC2 : ∀ z ∈ S.take (i + 1), CloS g w p (putI (at3 setsI (p + 1)) (itemN r (d + 1) f)) z := snoc (fun z hz a h1 h2 h3 => (hR.mem _).2 (.inr (hCI z hz a h1 h2 h3))) (fun a h1 h2 h3 => by rw [advI_N]; exact (hR.mem _).2 (.inl rfl))
                generalize putI (at3 setsI (p + 1)) (itemN r (d + 1) f) = S2 at cp hP2 hT2 hat2 hC2
                generalize (!metI (at3 setsI (p + 1)) (itemN r (d + 1) f)) = fr at cp
                generalize at3 setsI (p + 1) = S1 at hs1 cp
                have hd1 : ((d + 1 : Nat) : Int) = (d : Int) + 1 := by omega
                simp only [itemN, nodeC, hd1] at cp
                have hp1N : p + 1 < N := by omega
                have hp1i : ((p + 1 : Nat) : Int) = (p : Int) + 1 := by omega
                have hp1w : wr64 ((p : Int) + 1) = (p : Int) + 1 := by rw [hwp1]; omega
                have hp10 : (0 : Int) ≤ (p : Int) + 1 := by omega
                have hp1t : ((p : Int) + 1).toNat = p + 1 := by omega
                have hp1l : (p : Int) + 1 < N := by omega
                repeat' first | (refine Holds.condT ?_ ?_; (· (simp [go_sem, List.take_of_length_le, hy, hpn, get_E hwp, hwp, hwy, hty', hty, nodeC, itemN] <;> with_reducible rfl))) | (refine Holds.condF ?_ ?_; (· (simp [go_sem, List.take_of_length_le, hy, hpn, get_E hwp, hwp, hwy, hty', hty, nodeC, itemN] <;> with_reducible rfl))) | refine Holds.seq ?_ | refine Holds.skip ?_ | refine Holds.exit ?_ | refine Holds.ret ?_ | refine thenA_normal ?_ | refine thenA_exit ?_ | refine thenA_ret ?_ | refine inB_normal ?_ | refine inB_ret ?_ | refine inB_here ?_ | (refine inB_past ?_ ?_; (· exact rfl)) | refine Holds.reg ?_ | refine Holds.block ?_ | refine GS.nil ?_ | refine Gd.nil ?_ | (refine GS.step (s' := ?_) ?_ ?_ ?_; rotate_left; (· exact rfl); (· (simp [go_sem, List.take_of_length_le, hy, hpn, get_E hwp, hwp, hwy, hty', hty, nodeC, itemN] <;> with_reducible rfl))) | (refine GS.skip ?_ ?_ ?_; (· exact rfl); (· exact rfl)) | (refine Gd.go (s' := ?_) ?_ ?_ ?_; rotate_left; (· exact rfl); (· (simp [go_sem, List.take_of_length_le, hy, hpn, get_E hwp, hwp, hwy, hty', hty, nodeC, itemN] <;> with_reducible rfl))) | (refine Gd.skip ?_ ?_ ?_; (· exact rfl); (· exact rfl)) | fail
                refine Holds.anx [12] [0, 1, 2, 3, 4] (fun n => decide (3 ≤ n)) mixed ?_ ?_ ?_; (· kernel_rfl); (· kernel_rfl)
                repeat' first | (refine Holds.condT ?_ ?_; (· (simp [go_sem, List.take_of_length_le, hwd, hp1w, hp1N, hp1, get_E hs1, hs1, itemssC, nodeC, itemN, hp10, hp1t, hp1l] <;> with_reducible rfl))) | (refine Holds.condF ?_ ?_; (· (simp [go_sem, List.take_of_length_le, hwd, hp1w, hp1N, hp1, get_E hs1, hs1, itemssC, nodeC, itemN, hp10, hp1t, hp1l] <;> with_reducible rfl))) | refine Holds.seq ?_ | refine Holds.skip ?_ | refine Holds.exit ?_ | refine Holds.ret ?_ | refine thenA_normal ?_ | refine thenA_exit ?_ | refine thenA_ret ?_ | refine inB_normal ?_ | refine inB_ret ?_ | refine inB_here ?_ | (refine inB_past ?_ ?_; (· exact rfl)) | refine Holds.reg ?_ | refine Holds.block ?_ | refine GS.nil ?_ | refine Gd.nil ?_ | (refine GS.step (s' := ?_) ?_ ?_ ?_; rotate_left; (· exact rfl); (· (simp [go_sem, List.take_of_length_le, hwd, hp1w, hp1N, hp1, get_E hs1, hs1, itemssC, nodeC, itemN, hp10, hp1t, hp1l] <;> with_reducible rfl))) | (refine GS.skip ?_ ?_ ?_; (· exact rfl); (· exact rfl)) | (refine Gd.go (s' := ?_) ?_ ?_ ?_; rotate_left; (· exact rfl); (· (simp [go_sem, List.take_of_length_le, hwd, hp1w, hp1N, hp1, get_E hs1, hs1, itemssC, nodeC, itemN, hp10, hp1t, hp1l] <;> with_reducible rfl))) | (refine Gd.skip ?_ ?_ ?_; (· exact rfl); (· exact rfl)) | refine Gx.nil ?_ | (refine Gx.go (s' := ?_) rfl ?_ ?_ ?_; rotate_left; (· exact rfl); (· (simp [go_sem, List.take_of_length_le, hwd, hp1w, hp1N, hp1, get_E hs1, hs1, itemssC, nodeC, itemN, hp10, hp1t, hp1l] <;> with_reducible rfl))) | (refine Gx.skip rfl ?_ ?_ ?_; (· exact rfl); (· exact rfl)) | (refine Gx.skipO rfl ?_ ?_ ?_; (· exact rfl); (· exact rfl)) | (refine Gx.wo (s' := ?_) rfl ?_ ?_ ?_; rotate_left; (· exact rfl); (· (simp [go_sem, List.take_of_length_le, hwd, hp1w, hp1N, hp1, get_E hs1, hs1, itemssC, nodeC, itemN, hp10, hp1t, hp1l] <;> with_reducible rfl))) | (refine Gx.skipW rfl ?_ ?_ ?_; (· exact rfl); (· exact rfl)) | (refine Gx.skipH rfl ?_ ?_ ?_; (· exact rfl); (· exact rfl)) | (refine Gx.hid (r := ?_) rfl ?_ ?_ ?_ ?_; rotate_left; (· exact rfl); (· exact rfl); (· (simp [go_sem, List.take_of_length_le, hwd, hp1w, hp1N, hp1, get_E hs1, hs1, itemssC, nodeC, itemN, hp10, hp1t, hp1l] <;> with_reducible rfl))) | (refine Gx.wr (s' := ?_) rfl ?_ ?_ ?_ ?_; rotate_left; (· exact rfl); (· (simp [go_sem, List.take_of_length_le, hwd, hp1w, hp1N, hp1, get_E hs1, hs1, itemssC, nodeC, itemN, hp10, hp1t, hp1l] <;> with_reducible rfl)); (· (simp [go_sem, List.take_of_length_le, hwd, hp1w, hp1N, hp1, get_E hs1, hs1, itemssC, nodeC, itemN, hp10, hp1t, hp1l]))) | fail
                first | refine GS.cc (cp) rfl rfl rfl rfl (by simp [go_sem, List.take_of_length_le] <;> with_reducible rfl) rfl (by simp [go_sem, List.take_of_length_le]) ?_ | refine Gd.cc (cp) rfl rfl rfl rfl (by simp [go_sem, List.take_of_length_le] <;> with_reducible rfl) rfl (by simp [go_sem, List.take_of_length_le]) ?_ | refine Gx.cc (cp) rfl rfl rfl rfl rfl (by simp [go_sem, List.take_of_length_le] <;> with_reducible rfl) rfl (by simp [go_sem, List.take_of_length_le]) ?_
                repeat' first | (refine Holds.condT ?_ ?_; (· (simp [go_sem, List.take_of_length_le, hp1w, hp1N, hp1, hs1, hp10, hp1t, hp1l] <;> with_reducible rfl))) | (refine Holds.condF ?_ ?_; (· (simp [go_sem, List.take_of_length_le, hp1w, hp1N, hp1, hs1, hp10, hp1t, hp1l] <;> with_reducible rfl))) | refine Holds.seq ?_ | refine Holds.skip ?_ | refine Holds.exit ?_ | refine Holds.ret ?_ | refine thenA_normal ?_ | refine thenA_exit ?_ | refine thenA_ret ?_ | refine inB_normal ?_ | refine inB_ret ?_ | refine inB_here ?_ | (refine inB_past ?_ ?_; (· exact rfl)) | refine Holds.reg ?_ | refine Holds.block ?_ | refine GS.nil ?_ | refine Gd.nil ?_ | (refine GS.step (s' := ?_) ?_ ?_ ?_; rotate_left; (· exact rfl); (· (simp [go_sem, List.take_of_length_le, hp1w, hp1N, hp1, hs1, hp10, hp1t, hp1l] <;> with_reducible rfl))) | (refine GS.skip ?_ ?_ ?_; (· exact rfl); (· exact rfl)) | (refine Gd.go (s' := ?_) ?_ ?_ ?_; rotate_left; (· exact rfl); (· (simp [go_sem, List.take_of_length_le, hp1w, hp1N, hp1, hs1, hp10, hp1t, hp1l] <;> with_reducible rfl))) | (refine Gd.skip ?_ ?_ ?_; (· exact rfl); (· exact rfl)) | refine Gx.nil ?_ | (refine Gx.go (s' := ?_) rfl ?_ ?_ ?_; rotate_left; (· exact rfl); (· (simp [go_sem, List.take_of_length_le, hp1w, hp1N, hp1, hs1, hp10, hp1t, hp1l] <;> with_reducible rfl))) | (refine Gx.skip rfl ?_ ?_ ?_; (· exact rfl); (· exact rfl)) | (refine Gx.skipO rfl ?_ ?_ ?_; (· exact rfl); (· exact rfl)) | (refine Gx.wo (s' := ?_) rfl ?_ ?_ ?_; rotate_left; (· exact rfl); (· (simp [go_sem, List.take_of_length_le, hp1w, hp1N, hp1, hs1, hp10, hp1t, hp1l] <;> with_reducible rfl))) | (refine Gx.skipW rfl ?_ ?_ ?_; (· exact rfl); (· exact rfl)) | (refine Gx.skipH rfl ?_ ?_ ?_; (· exact rfl); (· exact rfl)) | (refine Gx.hid (r := ?_) rfl ?_ ?_ ?_ ?_; rotate_left; (· exact rfl); (· exact rfl); (· (simp [go_sem, List.take_of_length_le, hp1w, hp1N, hp1, hs1, hp10, hp1t, hp1l] <;> with_reducible rfl))) | (refine Gx.wr (s' := ?_) rfl ?_ ?_ ?_ ?_; rotate_left; (· exact rfl); (· (simp [go_sem, List.take_of_length_le, hp1w, hp1N, hp1, hs1, hp10, hp1t, hp1l] <;> with_reducible rfl)); (· (simp [go_sem, List.take_of_length_le, hp1w, hp1N, hp1, hs1, hp10, hp1t, hp1l]))) | fail
                refine ⟨(i + 1, setsI.set (p + 1) S2), ⟨by dsimp only; omega, hP2, hT2, by dsimp only; rw [hat2]; exact hC2⟩, by dsimp only; omega, ?_⟩
                rw [stepi]
                exact Cov.ofn (id) rfl (by simp [go_sem, List.take_of_length_le, ren, ren1, ren2, okr, okr1, okr2, ChkT, ChkN, BlkN, nf, grammarC, itemss_set, itemssC]) (by simp [go_sem, List.take_of_length_le, ren, ren1, ren2, okr, okr1, okr2, ChkT, ChkN, BlkN, nf, grammarC, itemss_set, itemssC])
              · have hty' : (t == -1 - y) = false := by simp [hty]
                repeat' first | (refine Holds.condT ?_ ?_; (· (simp [go_sem, List.take_of_length_le, hy, hpn, get_E hwp, hwp, hwy, hty', hty] <;> with_reducible rfl))) | (refine Holds.condF ?_ ?_; (· (simp [go_sem, List.take_of_length_le, hy, hpn, get_E hwp, hwp, hwy, hty', hty] <;> with_reducible rfl))) | refine Holds.seq ?_ | refine Holds.skip ?_ | refine Holds.exit ?_ | refine Holds.ret ?_ | refine thenA_normal ?_ | refine thenA_exit ?_ | refine thenA_ret ?_ | refine inB_normal ?_ | refine inB_ret ?_ | refine inB_here ?_ | (refine inB_past ?_ ?_; (· exact rfl)) | refine Holds.reg ?_ | refine Holds.block ?_ | refine GS.nil ?_ | refine Gd.nil ?_ | (refine Holds.any mixed ?_ ?_; (· kernel_rfl)) | (refine GS.step (s' := ?_) ?_ ?_ ?_; rotate_left; (· exact rfl); (· (simp [go_sem, List.take_of_length_le, hy, hpn, get_E hwp, hwp, hwy, hty', hty] <;> with_reducible rfl))) | (refine GS.skip ?_ ?_ ?_; (· exact rfl); (· exact rfl)) | (refine Gd.go (s' := ?_) ?_ ?_ ?_; rotate_left; (· exact rfl); (· (simp [go_sem, List.take_of_length_le, hy, hpn, get_E hwp, hwp, hwy, hty', hty] <;> with_reducible rfl))) | (refine Gd.skip ?_ ?_ ?_; (· exact rfl); (· exact rfl)) | refine Gx.nil ?_ | (refine Gx.go (s' := ?_) rfl ?_ ?_ ?_; rotate_left; (· exact rfl); (· (simp [go_sem, List.take_of_length_le, hy, hpn, get_E hwp, hwp, hwy, hty', hty] <;> with_reducible rfl))) | (refine Gx.skip rfl ?_ ?_ ?_; (· exact rfl); (· exact rfl)) | (refine Gx.skipO rfl ?_ ?_ ?_; (· exact rfl); (· exact rfl)) | (refine Gx.wo (s' := ?_) rfl ?_ ?_ ?_; rotate_left; (· exact rfl); (· (simp [go_sem, List.take_of_length_le, hy, hpn, get_E hwp, hwp, hwy, hty', hty] <;> with_reducible rfl))) | (refine Gx.skipW rfl ?_ ?_ ?_; (· exact rfl); (· exact rfl)) | (refine Gx.skipH rfl ?_ ?_ ?_; (· exact rfl); (· exact rfl)) | (refine Gx.hid (r := ?_) rfl ?_ ?_ ?_ ?_; rotate_left; (· exact rfl); (· exact rfl); (· (simp [go_sem, List.take_of_length_le, hy, hpn, get_E hwp, hwp, hwy, hty', hty] <;> with_reducible rfl))) | (refine Gx.wr (s' := ?_) rfl ?_ ?_ ?_ ?_; rotate_left; (· exact rfl); (· (simp [go_sem, List.take_of_length_le, hy, hpn, get_E hwp, hwp, hwy, hty', hty] <;> with_reducible rfl)); (· (simp [go_sem, List.take_of_length_le, hy, hpn, get_E hwp, hwp, hwy, hty', hty]))) | fail
                refine ⟨(i + 1, setsI), ⟨by dsimp only; omega, hPI, hTI, snoc hCI (fun a ha h0 hwa => by rw [hsy] at ha; injection ha with ha; subst ha; rw [hwp] at hwa; injection hwa with hwa; exact absurd hwa hty)⟩, by dsimp only; omega, ?_⟩
                rw [stepi]
                exact Cov.ofn (id) rfl (by simp [go_sem, List.take_of_length_le, ren, ren1, ren2, okr, okr1, okr2, ChkT, ChkN, BlkN, nf, grammarC]) (by simp [go_sem, List.take_of_length_le, ren, ren1, ren2, okr, okr1, okr2, ChkT, ChkN, BlkN, nf, grammarC])
            · repeat' first | (refine Holds.condT ?_ ?_; (· (simp [go_sem, List.take_of_length_le, hy, hpn] <;> with_reducible rfl))) | (refine Holds.condF ?_ ?_; (· (simp [go_sem, List.take_of_length_le, hy, hpn] <;> with_reducible rfl))) | refine Holds.seq ?_ | refine Holds.skip ?_ | refine Holds.exit ?_ | refine Holds.ret ?_ | refine thenA_normal ?_ | refine thenA_exit ?_ | refine thenA_ret ?_ | refine inB_normal ?_ | refine inB_ret ?_ | refine inB_here ?_ | (refine inB_past ?_ ?_; (· exact rfl)) | refine Holds.reg ?_ | refine Holds.block ?_ | refine GS.nil ?_ | refine Gd.nil ?_ | (refine Holds.any mixed ?_ ?_; (· kernel_rfl)) | (refine GS.step (s' := ?_) ?_ ?_ ?_; rotate_left; (· exact rfl); (· (simp [go_sem, List.take_of_length_le, hy, hpn] <;> with_reducible rfl))) | (refine GS.skip ?_ ?_ ?_; (· exact rfl); (· exact rfl)) | (refine Gd.go (s' := ?_) ?_ ?_ ?_; rotate_left; (· exact rfl); (· (simp [go_sem, List.take_of_length_le, hy, hpn] <;> with_reducible rfl))) | (refine Gd.skip ?_ ?_ ?_; (· exact rfl); (· exact rfl)) | refine Gx.nil ?_ | (refine Gx.go (s' := ?_) rfl ?_ ?_ ?_; rotate_left; (· exact rfl); (· (simp [go_sem, List.take_of_length_le, hy, hpn] <;> with_reducible rfl))) | (refine Gx.skip rfl ?_ ?_ ?_; (· exact rfl); (· exact rfl)) | (refine Gx.skipO rfl ?_ ?_ ?_; (· exact rfl); (· exact rfl)) | (refine Gx.wo (s' := ?_) rfl ?_ ?_ ?_; rotate_left; (· exact rfl); (· (simp [go_sem, List.take_of_length_le, hy, hpn] <;> with_reducible rfl))) | (refine Gx.skipW rfl ?_ ?_ ?_; (· exact rfl); (· exact rfl)) | (refine Gx.skipH rfl ?_ ?_ ?_; (· exact rfl); (· exact rfl)) | (refine Gx.hid (r := ?_) rfl ?_ ?_ ?_ ?_; rotate_left; (· exact rfl); (· exact rfl); (· (simp [go_sem, List.take_of_length_le, hy, hpn] <;> with_reducible rfl))) | (refine Gx.wr (s' := ?_) rfl ?_ ?_ ?_ ?_; rotate_left; (· exact rfl); (· (simp [go_sem, List.take_of_length_le, hy, hpn] <;> with_reducible rfl)); (· (simp [go_sem, List.take_of_length_le, hy, hpn]))) | fail
              refine ⟨(i + 1, setsI), ⟨by dsimp only; omega, hPI, hTI, snoc hCI (fun a ha h0 hwa => by rw [List.getElem?_eq_none (by omega)] at hwa; cases hwa)⟩, by dsimp only; omega, ?_⟩
              rw [stepi]
              exact Cov.ofn (id) rfl (by simp [go_sem, List.take_of_length_le, ren, ren1, ren2, okr, okr1, okr2, ChkT, ChkN, BlkN, nf, grammarC]) (by simp [go_sem, List.take_of_length_le, ren, ren1, ren2, okr, okr1, okr2, ChkT, ChkN, BlkN, nf, grammarC])
          · repeat' first | (refine Holds.condT ?_ ?_; (· (simp [go_sem, List.take_of_length_le, hy] <;> with_reducible rfl))) | (refine Holds.condF ?_ ?_; (· (simp [go_sem, List.take_of_length_le, hy] <;> with_reducible rfl))) | refine Holds.seq ?_ | refine Holds.skip ?_ | refine Holds.exit ?_ | refine Holds.ret ?_ | refine thenA_normal ?_ | refine thenA_exit ?_ | refine thenA_ret ?_ | refine inB_normal ?_ | refine inB_ret ?_ | refine inB_here ?_ | (refine inB_past ?_ ?_; (· exact rfl)) | refine Holds.reg ?_ | refine Holds.block ?_ | refine GS.nil ?_ | refine Gd.nil ?_ | (refine Holds.any mixed ?_ ?_; (· kernel_rfl)) | (refine GS.step (s' := ?_) ?_ ?_ ?_; rotate_left; (· exact rfl); (· (simp [go_sem, List.take_of_length_le, hy] <;> with_reducible rfl))) | (refine GS.skip ?_ ?_ ?_; (· exact rfl); (· exact rfl)) | (refine Gd.go (s' := ?_) ?_ ?_ ?_; rotate_left; (· exact rfl); (· (simp [go_sem, List.take_of_length_le, hy] <;> with_reducible rfl))) | (refine Gd.skip ?_ ?_ ?_; (· exact rfl); (· exact rfl)) | refine Gx.nil ?_ | (refine Gx.go (s' := ?_) rfl ?_ ?_ ?_; rotate_left; (· exact rfl); (· (simp [go_sem, List.take_of_length_le, hy] <;> with_reducible rfl))) | (refine Gx.skip rfl ?_ ?_ ?_; (· exact rfl); (· exact rfl)) | (refine Gx.skipO rfl ?_ ?_ ?_; (· exact rfl); (· exact rfl)) | (refine Gx.wo (s' := ?_) rfl ?_ ?_ ?_; rotate_left; (· exact rfl); (· (simp [go_sem, List.take_of_length_le, hy] <;> with_reducible rfl))) | (refine Gx.skipW rfl ?_ ?_ ?_; (· exact rfl); (· exact rfl)) | (refine Gx.skipH rfl ?_ ?_ ?_; (· exact rfl); (· exact rfl)) | (refine Gx.hid (r := ?_) rfl ?_ ?_ ?_ ?_; rotate_left; (· exact rfl); (· exact rfl); (· (simp [go_sem, List.take_of_length_le, hy] <;> with_reducible rfl))) | (refine Gx.wr (s' := ?_) rfl ?_ ?_ ?_ ?_; rotate_left; (· exact rfl); (· (simp [go_sem, List.take_of_length_le, hy] <;> with_reducible rfl)); (· (simp [go_sem, List.take_of_length_le, hy]))) | fail
            refine ⟨(i + 1, setsI), ⟨by dsimp only; omega, hPI, hTI, snoc hCI (fun a ha h0 hwa => by rw [hsy] at ha; injection ha with ha; subst ha; exact absurd h0 hy)⟩, by dsimp only; omega, ?_⟩
            rw [stepi]
            exact Cov.ofn (id) rfl (by simp [go_sem, List.take_of_length_le, ren, ren1, ren2, okr, okr1, okr2, ChkT, ChkN, BlkN, nf, grammarC]) (by simp [go_sem, List.take_of_length_le, ren, ren1, ren2, okr, okr1, okr2, ChkT, ChkN, BlkN, nf, grammarC])
      · have hlei : i = S.length := by simp at h; omega
        subst hlei
        rw [List.take_length] at hCI
        obtain ⟨e1, e2⟩ := hPI.stop (Nat.le_refl _)
        have hDn := hPI.dn.next e2 (fun x hx => hCI x (by rw [← e1]; exact hx))
        repeat' first | (refine Holds.condT ?_ ?_; (· (simp [go_sem, List.take_of_length_le] <;> with_reducible rfl))) | (refine Holds.condF ?_ ?_; (· (simp [go_sem, List.take_of_length_le] <;> with_reducible rfl))) | refine Holds.seq ?_ | refine Holds.skip ?_ | refine Holds.exit ?_ | refine Holds.ret ?_ | refine thenA_normal ?_ | refine thenA_exit ?_ | refine thenA_ret ?_ | refine inB_normal ?_ | refine inB_ret ?_ | refine inB_here ?_ | (refine inB_past ?_ ?_; (· exact rfl)) | refine Holds.reg ?_ | refine Holds.block ?_ | refine GS.nil ?_ | refine Gd.nil ?_ | (refine Holds.any mixed ?_ ?_; (· kernel_rfl)) | (refine GS.step (s' := ?_) ?_ ?_ ?_; rotate_left; (· exact rfl); (· (simp [go_sem, List.take_of_length_le] <;> with_reducible rfl))) | (refine GS.skip ?_ ?_ ?_; (· exact rfl); (· exact rfl)) | (refine Gd.go (s' := ?_) ?_ ?_ ?_; rotate_left; (· exact rfl); (· (simp [go_sem, List.take_of_length_le] <;> with_reducible rfl))) | (refine Gd.skip ?_ ?_ ?_; (· exact rfl); (· exact rfl)) | refine Gx.nil ?_ | (refine Gx.go (s' := ?_) rfl ?_ ?_ ?_; rotate_left; (· exact rfl); (· (simp [go_sem, List.take_of_length_le] <;> with_reducible rfl))) | (refine Gx.skip rfl ?_ ?_ ?_; (· exact rfl); (· exact rfl)) | (refine Gx.skipO rfl ?_ ?_ ?_; (· exact rfl); (· exact rfl)) | (refine Gx.wo (s' := ?_) rfl ?_ ?_ ?_; rotate_left; (· exact rfl); (· (simp [go_sem, List.take_of_length_le] <;> with_reducible rfl))) | (refine Gx.skipW rfl ?_ ?_ ?_; (· exact rfl); (· exact rfl)) | (refine Gx.skipH rfl ?_ ?_ ?_; (· exact rfl); (· exact rfl)) | (refine Gx.hid (r := ?_) rfl ?_ ?_ ?_ ?_; rotate_left; (· exact rfl); (· exact rfl); (· (simp [go_sem, List.take_of_length_le] <;> with_reducible rfl))) | (refine Gx.wr (s' := ?_) rfl ?_ ?_ ?_ ?_; rotate_left; (· exact rfl); (· (simp [go_sem, List.take_of_length_le] <;> with_reducible rfl)); (· (simp [go_sem, List.take_of_length_le]))) | fail
        refine ⟨(p + 1, setsI), ⟨by dsimp only; omega, hPI.snd, hTI, hDn⟩, by dsimp only; omega, ?_⟩
        rw [stepp]
        exact Cov.ofn (id) rfl (by simp [go_sem, List.take_of_length_le, ren, ren1, ren2, okr, okr1, okr2, ChkT, ChkN, BlkN, nf, grammarC]) (by simp [go_sem, List.take_of_length_le, ren, ren1, ren2, okr, okr1, okr2, ChkT, ChkN, BlkN, nf, grammarC])
  · have hle : p = N := by simp at h; omega
    subst hle
    rw [huni setsP ⟨hS, hT, by rw [hN]; exact hD⟩]
    repeat' first | (refine Holds.condT ?_ ?_; (· (simp [go_sem, List.take_of_length_le] <;> with_reducible rfl))) | (refine Holds.condF ?_ ?_; (· (simp [go_sem, List.take_of_length_le] <;> with_reducible rfl))) | refine Holds.seq ?_ | refine Holds.skip ?_ | refine Holds.exit ?_ | refine Holds.ret ?_ | refine thenA_normal ?_ | refine thenA_exit ?_ | refine thenA_ret ?_ | refine inB_normal ?_ | refine inB_ret ?_ | refine inB_here ?_ | (refine inB_past ?_ ?_; (· exact rfl)) | refine Holds.reg ?_ | refine Holds.block ?_ | refine GS.nil ?_ | refine Gd.nil ?_ | (refine Holds.any mixed ?_ ?_; (· kernel_rfl)) | (refine GS.step (s' := ?_) ?_ ?_ ?_; rotate_left; (· exact rfl); (· (simp [go_sem, List.take_of_length_le] <;> with_reducible rfl))) | (refine GS.skip ?_ ?_ ?_; (· exact rfl); (· exact rfl)) | (refine Gd.go (s' := ?_) ?_ ?_ ?_; rotate_left; (· exact rfl); (· (simp [go_sem, List.take_of_length_le] <;> with_reducible rfl))) | (refine Gd.skip ?_ ?_ ?_; (· exact rfl); (· exact rfl)) | refine Gx.nil ?_ | (refine Gx.go (s' := ?_) rfl ?_ ?_ ?_; rotate_left; (· exact rfl); (· (simp [go_sem, List.take_of_length_le] <;> with_reducible rfl))) | (refine Gx.skip rfl ?_ ?_ ?_; (· exact rfl); (· exact rfl)) | (refine Gx.skipO rfl ?_ ?_ ?_; (· exact rfl); (· exact rfl)) | (refine Gx.wo (s' := ?_) rfl ?_ ?_ ?_; rotate_left; (· exact rfl); (· (simp [go_sem, List.take_of_length_le] <;> with_reducible rfl))) | (refine Gx.skipW rfl ?_ ?_ ?_; (· exact rfl); (· exact rfl)) | (refine Gx.skipH rfl ?_ ?_ ?_; (· exact rfl); (· exact rfl)) | (refine Gx.hid (r := ?_) rfl ?_ ?_ ?_ ?_; rotate_left; (· exact rfl); (· exact rfl); (· (simp [go_sem, List.take_of_length_le] <;> with_reducible rfl))) | (refine Gx.wr (s' := ?_) rfl ?_ ?_ ?_ ?_; rotate_left; (· exact rfl); (· (simp [go_sem, List.take_of_length_le] <;> with_reducible rfl)); (· (simp [go_sem, List.take_of_length_le]))) | fail
    refine Out.mk (xs := ?_) ?_ ?_ (by first | exact .inr rfl | exact .inl rfl)
    rotate_left
    · simp [go_sem, List.take_of_length_le] <;> with_reducible rfl
    exact Fz.all rfl rfl (by simp [hlP]) rfl (itemss_ok _)
end Go.Proofs.Ytabdnpgahdbciaa.En
end
section
namespace Go.Proofs.Ytabdnpgahdbciaa.En
open Go.RowKit
set_option linter.unusedSimpArgs false
set_option linter.unusedVariables false
set_option maxHeartbeats 4000000
def putA (S : List Item3) (x : Item3) : List Item3 := if x ∈ S then S else S ++ [x]
theorem putA_R (S : List Item3) (x : Item3) : PutR S x (putA S x) := by
  unfold putA
  by_cases h : x ∈ S
  · rw [if_pos h]
    refine ⟨fun z => ⟨.inr, ?_⟩, id, fun _ => rfl, fun g => absurd h g⟩
    rintro (e | e)
    · rw [e]; exact h
    · exact e
  · rw [if_neg h]
    refine ⟨fun z => ?_, fun hn => ?_, fun g => absurd g h, fun _ => by simp⟩
    · simp only [List.mem_append, List.mem_singleton]
      constructor
      · rintro (e | e)
        · exact .inr e
        · exact .inl e
      · rintro (e | e)
        · exact .inr e
        · exact .inl e
    · refine List.pairwise_append.2 ⟨hn, by simp, fun a ha b hb => ?_⟩
      rw [List.mem_singleton] at hb; subst hb
      rintro rfl; exact h ha
theorem putA_pre {S : List Item3} {x y : Item3} {i : Nat} (h : S[i]? = some y) : (putA S x)[i]? = some y := by
  unfold putA
  split
  · exact h
  · rw [List.getElem?_append_left (List.getElem?_eq_some_iff.1 h).1, h]
def putAt (sets : Sets3) (p : Nat) (x : Item3) : Sets3 := sets.set p (putA (at3 sets p) x)
theorem putAt_len (sets : Sets3) (p : Nat) (x : Item3) : (putAt sets p x).length = sets.length := by simp [putAt]
def Grow (a b : Sets3) : Prop := a.length = b.length ∧ ∀ (q i : Nat) (y : Item3), (at3 a q)[i]? = some y → (at3 b q)[i]? = some y
theorem Grow.refl (a : Sets3) : Grow a a := ⟨rfl, fun _ _ _ h => h⟩
theorem Grow.trans {a b c : Sets3} (h : Grow a b) (k : Grow b c) : Grow a c := ⟨h.1.trans k.1, fun q i y e => k.2 q i y (h.2 q i y e)⟩
theorem Grow.put {sets : Sets3} {p : Nat} (hp : p < sets.length) (x : Item3) : Grow sets (putAt sets p x) := ⟨(putAt_len _ _ _).symm, fun q i y h => by
  by_cases e : p = q
  · subst e; rw [putAt, at3_set hp]; exact putA_pre h
  · rw [putAt, at3_ne e]; exact h⟩
theorem Grow.mem {a b : Sets3} (h : Grow a b) {q : Nat} {y : Item3} (hy : y ∈ at3 a q) : y ∈ at3 b q := by
  obtain ⟨i, hi, e⟩ := List.mem_iff_getElem.1 hy
  exact List.mem_of_getElem? (h.2 q i y (by rw [List.getElem?_eq_getElem hi, e]))
theorem Grow.len {a b : Sets3} (h : Grow a b) (q : Nat) : (at3 a q).length ≤ (at3 b q).length := by
  refine Nat.le_of_not_lt fun hl => ?_
  have := h.2 q (at3 b q).length _ (List.getElem?_eq_getElem hl)
  rw [List.getElem?_eq_none (Nat.le_refl _)] at this; cases this
structure PassA (g : GrammarT) (w : List Int) (p : Nat) (S0 : List Item3) (sets : Sets3) (again : Bool) (k : Nat) : Prop where
  ps : PassI g w p S0 sets again k
  kl : k ≤ (at3 sets p).length
  sc : ∀ (i : Nat) (x : Item3), i < k → (at3 sets p)[i]? = some x → CloS g w p (at3 sets (p + 1)) x
theorem PassA.put {g : GrammarT} {w : List Int} {p : Nat} {S0 : List Item3} {sets : Sets3} {again : Bool} {k : Nat} (h : PassA g w p S0 sets again k) (hp : p < sets.length) {x : Item3} (hx : okI g w p x) : PassA g w p S0 (putAt sets p x) (again || decide (x ∉ at3 sets p)) k := by
  have hgr := Grow.put hp x
  refine ⟨h.ps.put hp hx (putA_R _ _), Nat.le_trans h.kl (hgr.len p), fun i y hi hy => ?_⟩
  have hlt : i < (at3 sets p).length := by have := h.kl; omega
  have e := hgr.2 p i _ (List.getElem?_eq_getElem hlt)
  rw [hy] at e
  injection e with e
  have hc := h.sc i y hi (by rw [List.getElem?_eq_getElem hlt, e])
  exact fun a h1 h2 h3 => hgr.mem (hc a h1 h2 h3)
theorem PassA.putNext {g : GrammarT} {w : List Int} {p : Nat} {S0 : List Item3} {sets : Sets3} {again : Bool} {k : Nat} (h : PassA g w p S0 sets again k) (hp : p + 1 < sets.length) {x : Item3} (hx : okI g w (p + 1) x) : PassA g w p S0 (putAt sets (p + 1) x) again k := by
  have hgr := Grow.put hp x
  have he : at3 (putAt sets (p + 1) x) p = at3 sets p := at3_ne (by omega) _
  refine ⟨h.ps.putNext hp hx (putA_R _ _), by rw [he]; exact h.kl, fun i y hi hy => ?_⟩
  rw [he] at hy
  have hc := h.sc i y hi hy
  exact fun a h1 h2 h3 => hgr.mem (hc a h1 h2 h3)
theorem PassA.next {g : GrammarT} {w : List Int} {p : Nat} {S0 : List Item3} {sets : Sets3} {again : Bool} {k : Nat} (h : PassA g w p S0 sets again k) {x : Item3} (hx : (at3 sets p)[k]? = some x) (hc : CloP g p (at3 sets p) x ∧ CloC g (at3 sets x.2.2.toNat) (at3 sets p) x) (hs : CloS g w p (at3 sets (p + 1)) x) : PassA g w p S0 sets again (k + 1) := by
  refine ⟨h.ps.next fun y e hy => ?_, (List.getElem?_eq_some_iff.1 hx).1, fun i y hi hy => ?_⟩
  · rw [← (h.ps.no e).1] at hy ⊢
    rw [hx] at hy
    injection hy with hy
    subst hy
    exact hc
  · by_cases hik : i = k
    · subst hik; rw [hx] at hy; injection hy with hy; subst hy; exact hs
    · exact h.sc i y (by omega) hy
theorem PassA.start {g : GrammarT} {w : List Int} {p : Nat} {sets : Sets3} (hs : Snd g w sets) (hd : DoneI g w sets p) : PassA g w p (at3 sets p) sets false 0 :=
  ⟨⟨hs, hd, Nat.le_refl _, fun e => (by cases e), fun _ => ⟨rfl, fun i x hi => absurd hi (Nat.not_lt_zero i)⟩⟩, Nat.zero_le _, fun i x hi => absurd hi (Nat.not_lt_zero i)⟩
theorem PassA.done {g : GrammarT} {w : List Int} {p : Nat} {S0 : List Item3} {sets : Sets3} {k : Nat} (h : PassA g w p S0 sets false k) (hk : (at3 sets p).length ≤ k) : DoneI g w sets (p + 1) := by
  have e := (h.ps.no rfl).1
  obtain ⟨_, h2⟩ := h.ps.stop (by rw [← e]; exact hk)
  refine h.ps.dn.next h2 fun x hx => ?_
  obtain ⟨i, hi, e2⟩ := List.mem_iff_getElem.1 hx
  exact h.sc i x (by omega) (by rw [List.getElem?_eq_getElem hi, e2])
def begF (g : GrammarT) (p : Nat) (non : Int) (sets : Sets3) : Nat → Sets3 × Bool
  | 0 => (sets, false)
  | i + 1 => if (ruleN g i).1 = non then (putAt (begF g p non sets i).1 p (itemN i 0 p), (begF g p non sets i).2 || decide (itemN i 0 p ∉ at3 (begF g p non sets i).1 p)) else begF g p non sets i
theorem begF_len (g : GrammarT) (p : Nat) (non : Int) (sets : Sets3) : ∀ i, (begF g p non sets i).1.length = sets.length
  | 0 => rfl
  | i + 1 => by
    unfold begF
    split
    · rw [putAt_len]; exact begF_len g p non sets i
    · exact begF_len g p non sets i
theorem begF_ok {g : GrammarT} {w : List Int} {p : Nat} {non : Int} {sets : Sets3} (hp : p < sets.length) : ∀ i, Grow sets (begF g p non sets i).1 ∧ (∀ r, r < i → (ruleN g r).1 = non → itemN r 0 p ∈ at3 (begF g p non sets i).1 p) ∧
    ∀ {S0 : List Item3} {again : Bool} {k : Nat}, PassA g w p S0 sets again k → (∀ r, r < i → (ruleN g r).1 = non → okI g w p (itemN r 0 p)) → PassA g w p S0 (begF g p non sets i).1 (again || (begF g p non sets i).2) k
  | 0 => ⟨Grow.refl _, fun r hr => absurd hr (Nat.not_lt_zero r), fun h _ => by simpa [begF] using h⟩
  | i + 1 => by
    obtain ⟨h1, h2, h3⟩ := begF_ok (w := w) (g := g) (non := non) hp i
    have hp1 : p < (begF g p non sets i).1.length := by rw [begF_len]; exact hp
    unfold begF
    by_cases hl : (ruleN g i).1 = non
    · rw [if_pos hl]
      have hgr := Grow.put hp1 (itemN i 0 p)
      refine ⟨h1.trans hgr, fun r hr hrl => ?_, fun h hok => ?_⟩
      · by_cases e : r = i
        · subst e
          dsimp only
          rw [putAt, at3_set hp1]
          exact ((putA_R _ _).mem _).2 (.inl rfl)
        · exact hgr.mem (h2 r (by omega) hrl)
      · have := (h3 h (fun r hr hrl => hok r (by omega) hrl)).put hp1 (hok i (by omega) hl)
        rw [Bool.or_assoc] at this
        exact this
    · rw [if_neg hl]
      refine ⟨h1, fun r hr hrl => ?_, fun h hok => h3 h fun r hr hrl => hok r (by omega) hrl⟩
      by_cases e : r = i
      · subst e; exact absurd hrl hl
      · exact h2 r (by omega) hrl
theorem begin_ok (g : GrammarT) (w : List Int) : Snd g w (begF g 0 0 (List.replicate (w.length + 1) []) g.2.2.length).1 ∧ DoneI g w (begF g 0 0 (List.replicate (w.length + 1) []) g.2.2.length).1 0 := by
  have h0 : ∀ q, at3 (List.replicate (w.length + 1) ([] : List Item3)) q = [] := fun q => by
    rw [at3, List.getD_eq_getElem?_getD, List.getElem?_replicate]
    split <;> rfl
  have H : ∀ i, i ≤ g.2.2.length → (∀ q, ∀ x ∈ at3 (begF g 0 0 (List.replicate (w.length + 1) []) i).1 q, okI g w q x) ∧ (∀ q, (at3 (begF g 0 0 (List.replicate (w.length + 1) []) i).1 q).Nodup) := by
    intro i
    induction i with
    | zero => intro _; exact ⟨fun q x hx => (by rw [begF, h0] at hx; cases hx), fun q => by rw [begF, h0]; exact List.nodup_nil⟩
    | succ i ih =>
      intro hi
      obtain ⟨h1, h2⟩ := ih (by omega)
      have hl := begF_len g 0 0 (List.replicate (w.length + 1) []) i
      unfold begF
      by_cases hr : (ruleN g i).1 = 0
      · rw [if_pos hr]
        generalize (begF g 0 0 (List.replicate (w.length + 1) []) i).1 = T at h1 h2 hl
        have hp : 0 < T.length := by rw [hl]; simp
        have hR := putA_R (at3 T 0) (itemN i 0 0)
        refine ⟨fun q x hx => ?_, fun q => ?_⟩
        · dsimp only at hx
          by_cases e : 0 = q
          · subst e
            rw [putAt, at3_set hp] at hx
            rcases (hR.mem x).1 hx with e | e
            · subst e; exact ⟨i, 0, 0, rfl, .start i (by omega) hr⟩
            · exact h1 0 x e
          · rw [putAt, at3_ne e] at hx; exact h1 q x hx
        · dsimp only
          by_cases e : 0 = q
          · subst e; rw [putAt, at3_set hp]; exact hR.nd (h2 0)
          · rw [putAt, at3_ne e]; exact h2 q
      · rw [if_neg hr]; exact ⟨h1, h2⟩
  obtain ⟨h1, h2⟩ := H g.2.2.length (Nat.le_refl _)
  obtain ⟨_, h3, _⟩ := begF_ok (w := w) (g := g) (non := 0) (p := 0) (sets := List.replicate (w.length + 1) []) (by simp) g.2.2.length
  exact ⟨⟨by rw [begF_len]; simp, h1, h2, fun r hr hl => h3 r hr hl⟩, fun q hq => absurd hq (Nat.not_lt_zero q)⟩
def itemO (s : List Item3) : List AV := [.ow 56 3 (nodes s)]
def itemssO (sets : Sets3) : List (List AV) := sets.map itemO
@[simp] theorem itemssO_len (xs : Sets3) : (itemssO xs).length = xs.length := by simp [itemssO]
@[simp] theorem itemssO_get (xs : Sets3) (i : Nat) : (itemssO xs)[i]? = (xs[i]?).map itemO := by simp [itemssO]
@[simp] theorem itemssO_gE (xs : Sets3) (i : Nat) (h : i < (itemssO xs).length) : (itemssO xs)[i] = itemO (xs[i]'(by simpa using h)) := by simp [itemssO]
theorem iPut (xs : Sets3) (i : Nat) (s : List Item3) : (itemssO xs).set i [.ow 56 3 (nodes s)] = itemssO (xs.set i s) := by simp [itemssO, itemO, List.map_set]
theorem iGet {xs : Sets3} {i : Nat} {s : List Item3} (h : xs[i]? = some s) : (itemssO xs)[i]? = some [.ow 56 3 (nodes s)] := by simp [h, itemO]
theorem set_self {α : Type} {xs : List α} {i : Nat} {s : α} (h : xs[i]? = some s) : xs.set i s = xs := by
  obtain ⟨hi, e⟩ := List.getElem?_eq_some_iff.1 h
  refine List.ext_getElem? fun k => ?_
  by_cases hk : i = k
  · subst hk; rw [List.getElem?_set_self hi, h]
  · rw [List.getElem?_set_ne hk]
theorem iSet {xs : Sets3} {i : Nat} {s : List Item3} (h : xs[i]? = some s) : (itemssO xs).set i [.ow 56 3 (nodes s)] = itemssO xs := by rw [iPut, set_self h]
@[simp] theorem nfr_itemssO (xs : Sets3) : nfr (itemssO xs) := by
  intro row hr x hx
  simp only [itemssO, List.mem_map] at hr
  obtain ⟨s, _, rfl⟩ := hr
  simp only [itemO, List.mem_singleton] at hx
  subst hx
  rfl
theorem ony_nodes (s : List Node3) : onyR (nodes s) := by
  intro row hr x hx
  simp only [nodes, List.mem_map] at hr
  obtain ⟨n, _, rfl⟩ := hr
  simp only [nodeC, List.mem_cons, List.not_mem_nil, or_false] at hx
  rcases hx with rfl | rfl | rfl <;> exact .v _
@[simp] theorem ony_itemssO (xs : Sets3) : onyR (itemssO xs) := by
  intro row hr x hx
  simp only [itemssO, List.mem_map] at hr
  obtain ⟨s, _, rfl⟩ := hr
  simp only [itemO, List.mem_singleton] at hx
  subst hx
  exact .ow _ _ _ (ony_nodes s)
end Go.Proofs.Ytabdnpgahdbciaa.En
end
section
namespace Go.Proofs.Ytabdnpgahdbciaa.En
open Go.RowKit
set_option linter.unusedSimpArgs false
set_option linter.unusedVariables false
set_option maxHeartbeats 8000000
theorem indexItem (ns : List Node3) (x : Node3) (hx : ns.length < 4611686018427387904) : Pure Try.prog 97 [.im 3 (nodes ns), .ag (nodeC x)] (.v (.int .i64 (fstX ns x 0))) := by
  refine Pure.mk (rs := [.tmp 4]) (nt := 19) Try.func97 (by kernel_rfl) rfl rfl rfl (by simp) ?_
  simp only [sl, nodeC]
  repeat' first | (refine Holds.condT ?_ ?_; (· (simp [go_sem, List.take_of_length_le] <;> with_reducible rfl))) | (refine Holds.condF ?_ ?_; (· (simp [go_sem, List.take_of_length_le] <;> with_reducible rfl))) | refine Holds.seq ?_ | refine Holds.skip ?_ | refine Holds.exit ?_ | refine Holds.ret ?_ | refine thenA_normal ?_ | refine thenA_exit ?_ | refine thenA_ret ?_ | refine inB_normal ?_ | refine inB_ret ?_ | refine inB_here ?_ | (refine inB_past ?_ ?_; (· exact rfl)) | refine Holds.reg ?_ | refine Holds.block ?_ | refine GS.nil ?_ | refine Gd.nil ?_ | (refine Holds.any mixed ?_ ?_; (· kernel_rfl)) | (refine GS.step (s' := ?_) ?_ ?_ ?_; rotate_left; (· exact rfl); (· (simp [go_sem, List.take_of_length_le] <;> with_reducible rfl))) | (refine GS.skip ?_ ?_ ?_; (· exact rfl); (· exact rfl)) | (refine Gd.go (s' := ?_) ?_ ?_ ?_; rotate_left; (· exact rfl); (· (simp [go_sem, List.take_of_length_le] <;> with_reducible rfl))) | (refine Gd.skip ?_ ?_ ?_; (· exact rfl); (· exact rfl)) | fail
  refine Holds.loop (ι := Nat) (fun i => ⟨[(0, .im 3 (nodes ns)), (3, .pb 0 3 0 0), (7, .v (.int .i64 ns.length)), (8, .v (.int .i64 i))], [(0, ⟨56, 3, [nodeC x]⟩)], 1⟩) (fun i => i ≤ ns.length ∧ ∀ j, j < i → ∀ y, ns[j]? = some y → y ≠ x) (fun i => ns.length - i) 0 ⟨Nat.zero_le _, fun j hj => absurd hj (Nat.not_lt_zero j)⟩ ?_ ?_
  · exact Cov.ofn (id) rfl (by simp [go_sem, List.take_of_length_le, ren, ren1, ren2, okr, okr1, okr2, ChkT, ChkN, BlkN, nf, nodeC]) (by simp [go_sem, List.take_of_length_le, ren, ren1, ren2, okr, okr1, okr2, ChkT, ChkN, BlkN, nf, nodeC])
  rintro i ⟨hi, hno⟩
  repeat' first | (refine Holds.condT ?_ ?_; (· (simp [go_sem, List.take_of_length_le] <;> with_reducible rfl))) | (refine Holds.condF ?_ ?_; (· (simp [go_sem, List.take_of_length_le] <;> with_reducible rfl))) | refine Holds.seq ?_ | refine Holds.skip ?_ | refine Holds.exit ?_ | refine Holds.ret ?_ | refine thenA_normal ?_ | refine thenA_exit ?_ | refine thenA_ret ?_ | refine inB_normal ?_ | refine inB_ret ?_ | refine inB_here ?_ | (refine inB_past ?_ ?_; (· exact rfl)) | refine Holds.reg ?_ | refine Holds.block ?_ | refine GS.nil ?_ | refine Gd.nil ?_ | (refine Holds.any mixed ?_ ?_; (· kernel_rfl)) | (refine GS.step (s' := ?_) ?_ ?_ ?_; rotate_left; (· exact rfl); (· (simp [go_sem, List.take_of_length_le] <;> with_reducible rfl))) | (refine GS.skip ?_ ?_ ?_; (· exact rfl); (· exact rfl)) | (refine Gd.go (s' := ?_) ?_ ?_ ?_; rotate_left; (· exact rfl); (· (simp [go_sem, List.take_of_length_le] <;> with_reducible rfl))) | (refine Gd.skip ?_ ?_ ?_; (· exact rfl); (· exact rfl)) | fail
  refine Holds.cond rfl (fun hl => ?_) (fun hl => ?_)
  · have hlt : i < ns.length := by simpa using hl
    have hxi : ns[i]? = some ns[i] := List.getElem?_eq_getElem hlt
    generalize ns[i] = y at hxi
    repeat' first | (refine Holds.condT ?_ ?_; (· (simp [go_sem, List.take_of_length_le, hxi, nodeC] <;> with_reducible rfl))) | (refine Holds.condF ?_ ?_; (· (simp [go_sem, List.take_of_length_le, hxi, nodeC] <;> with_reducible rfl))) | refine Holds.seq ?_ | refine Holds.skip ?_ | refine Holds.exit ?_ | refine Holds.ret ?_ | refine thenA_normal ?_ | refine thenA_exit ?_ | refine thenA_ret ?_ | refine inB_normal ?_ | refine inB_ret ?_ | refine inB_here ?_ | (refine inB_past ?_ ?_; (· exact rfl)) | refine Holds.reg ?_ | refine Holds.block ?_ | refine GS.nil ?_ | refine Gd.nil ?_ | (refine Holds.any mixed ?_ ?_; (· kernel_rfl)) | (refine GS.step (s' := ?_) ?_ ?_ ?_; rotate_left; (· exact rfl); (· (simp [go_sem, List.take_of_length_le, hxi, nodeC] <;> with_reducible rfl))) | (refine GS.skip ?_ ?_ ?_; (· exact rfl); (· exact rfl)) | (refine Gd.go (s' := ?_) ?_ ?_ ?_; rotate_left; (· exact rfl); (· (simp [go_sem, List.take_of_length_le, hxi, nodeC] <;> with_reducible rfl))) | (refine Gd.skip ?_ ?_ ?_; (· exact rfl); (· exact rfl)) | fail
    refine Gd.calm rfl rfl (.eqS (n := 3) (xs := [x.1, x.2.1, x.2.2]) (ys := [y.1, y.2.1, y.2.2]) rfl eqItem3 rfl rfl rfl rfl rfl) ?_
    repeat' first | refine Holds.seq ?_ | refine Holds.skip ?_ | refine Holds.exit ?_ | refine Holds.ret ?_ | refine thenA_normal ?_ | refine thenA_exit ?_ | refine thenA_ret ?_ | refine inB_normal ?_ | refine inB_ret ?_ | refine inB_here ?_ | (refine inB_past ?_ ?_; (· exact rfl)) | refine Holds.reg ?_ | refine Holds.block ?_ | refine GS.nil ?_ | refine Gd.nil ?_ | (refine Holds.any mixed ?_ ?_; (· kernel_rfl)) | (refine GS.step (s' := ?_) ?_ ?_ ?_; rotate_left; (· exact rfl); (· (simp [go_sem, List.take_of_length_le] <;> with_reducible rfl))) | (refine GS.skip ?_ ?_ ?_; (· exact rfl); (· exact rfl)) | (refine Gd.go (s' := ?_) ?_ ?_ ?_; rotate_left; (· exact rfl); (· (simp [go_sem, List.take_of_length_le] <;> with_reducible rfl))) | (refine Gd.skip ?_ ?_ ?_; (· exact rfl); (· exact rfl)) | fail
    refine Holds.cond rfl (fun hl => ?_) (fun hl => ?_)
    · have he : x = y := node_ext (by simpa using hl)
      rw [fstX_at ns i 0 (hxi.trans (by rw [he])) hno, Nat.zero_add]
      repeat' first | (refine Holds.condT ?_ ?_; (· (simp [go_sem, List.take_of_length_le] <;> with_reducible rfl))) | (refine Holds.condF ?_ ?_; (· (simp [go_sem, List.take_of_length_le] <;> with_reducible rfl))) | refine Holds.seq ?_ | refine Holds.skip ?_ | refine Holds.exit ?_ | refine Holds.ret ?_ | refine thenA_normal ?_ | refine thenA_exit ?_ | refine thenA_ret ?_ | refine inB_normal ?_ | refine inB_ret ?_ | refine inB_here ?_ | (refine inB_past ?_ ?_; (· exact rfl)) | refine Holds.reg ?_ | refine Holds.block ?_ | refine GS.nil ?_ | refine Gd.nil ?_ | (refine Holds.any mixed ?_ ?_; (· kernel_rfl)) | (refine GS.step (s' := ?_) ?_ ?_ ?_; rotate_left; (· exact rfl); (· (simp [go_sem, List.take_of_length_le] <;> with_reducible rfl))) | (refine GS.skip ?_ ?_ ?_; (· exact rfl); (· exact rfl)) | (refine Gd.go (s' := ?_) ?_ ?_ ?_; rotate_left; (· exact rfl); (· (simp [go_sem, List.take_of_length_le] <;> with_reducible rfl))) | (refine Gd.skip ?_ ?_ ?_; (· exact rfl); (· exact rfl)) | fail
      refine Out.mk (xs := ?_) ?_ ?_ (by first | exact .inr rfl | exact .inl rfl)
      rotate_left
      · simp [go_sem, List.take_of_length_le] <;> with_reducible rfl
      exact .v _
    · have he : ¬ y = x := by rintro rfl; simp at hl
      repeat' first | (refine Holds.condT ?_ ?_; (· (simp [go_sem, List.take_of_length_le] <;> with_reducible rfl))) | (refine Holds.condF ?_ ?_; (· (simp [go_sem, List.take_of_length_le] <;> with_reducible rfl))) | refine Holds.seq ?_ | refine Holds.skip ?_ | refine Holds.exit ?_ | refine Holds.ret ?_ | refine thenA_normal ?_ | refine thenA_exit ?_ | refine thenA_ret ?_ | refine inB_normal ?_ | refine inB_ret ?_ | refine inB_here ?_ | (refine inB_past ?_ ?_; (· exact rfl)) | refine Holds.reg ?_ | refine Holds.block ?_ | refine GS.nil ?_ | refine Gd.nil ?_ | (refine Holds.any mixed ?_ ?_; (· kernel_rfl)) | (refine GS.step (s' := ?_) ?_ ?_ ?_; rotate_left; (· exact rfl); (· (simp [go_sem, List.take_of_length_le] <;> with_reducible rfl))) | (refine GS.skip ?_ ?_ ?_; (· exact rfl); (· exact rfl)) | (refine Gd.go (s' := ?_) ?_ ?_ ?_; rotate_left; (· exact rfl); (· (simp [go_sem, List.take_of_length_le] <;> with_reducible rfl))) | (refine Gd.skip ?_ ?_ ?_; (· exact rfl); (· exact rfl)) | fail
      refine ⟨i + 1, ⟨by omega, fun j hj z hxj => ?_⟩, by omega, ?_⟩
      · by_cases e : j = i
        · subst e; rw [hxi] at hxj; cases hxj; exact he
        · exact hno j (by omega) z hxj
      rw [wr64_id (by omega) (by omega)]
      exact Cov.ofn (id) rfl (by simp [go_sem, List.take_of_length_le, ren, ren1, ren2, okr, okr1, okr2, ChkT, ChkN, BlkN, nf, nodeC]) (by simp [go_sem, List.take_of_length_le, ren, ren1, ren2, okr, okr1, okr2, ChkT, ChkN, BlkN, nf, nodeC])
  · have hle : i = ns.length := by
      have : ¬ i < ns.length := by simpa using hl
      omega
    rw [fstX_no ns 0 (not_memX fun j z hj => hno j (by have := (List.getElem?_eq_some_iff.1 hj).1; omega) z hj)]
    repeat' first | (refine Holds.condT ?_ ?_; (· (simp [go_sem, List.take_of_length_le] <;> with_reducible rfl))) | (refine Holds.condF ?_ ?_; (· (simp [go_sem, List.take_of_length_le] <;> with_reducible rfl))) | refine Holds.seq ?_ | refine Holds.skip ?_ | refine Holds.exit ?_ | refine Holds.ret ?_ | refine thenA_normal ?_ | refine thenA_exit ?_ | refine thenA_ret ?_ | refine inB_normal ?_ | refine inB_ret ?_ | refine inB_here ?_ | (refine inB_past ?_ ?_; (· exact rfl)) | refine Holds.reg ?_ | refine Holds.block ?_ | refine GS.nil ?_ | refine Gd.nil ?_ | (refine Holds.any mixed ?_ ?_; (· kernel_rfl)) | (refine GS.step (s' := ?_) ?_ ?_ ?_; rotate_left; (· exact rfl); (· (simp [go_sem, List.take_of_length_le] <;> with_reducible rfl))) | (refine GS.skip ?_ ?_ ?_; (· exact rfl); (· exact rfl)) | (refine Gd.go (s' := ?_) ?_ ?_ ?_; rotate_left; (· exact rfl); (· (simp [go_sem, List.take_of_length_le] <;> with_reducible rfl))) | (refine Gd.skip ?_ ?_ ?_; (· exact rfl); (· exact rfl)) | fail
    refine Out.mk (xs := ?_) ?_ ?_ (by first | exact .inr rfl | exact .inl rfl)
    rotate_left
    · simp [go_sem, List.take_of_length_le] <;> with_reducible rfl
    exact .v _
theorem containsItem (ns : List Node3) (x : Node3) (hx : ns.length < 4611686018427387904) : Pure Try.prog 66 [.im 3 (nodes ns), .ag (nodeC x)] (.v (.bool (decide (x ∈ ns)))) := by
  refine Pure.mk (rs := [.tmp 4]) (nt := 9) Try.func66 (by kernel_rfl) rfl rfl rfl (by simp) ?_
  simp only [sl, nodeC]
  have ci := indexItem ns x hx
  have hd : decide (fstX ns x 0 ≥ 0) = decide (x ∈ ns) := by
    rw [decide_eq_decide]
    by_cases h : x ∈ ns
    · have : 0 ≤ fstX ns x 0 := by
        refine Int.not_lt.1 fun hn => ?_
        have h1 := fstX_in x ns 0
        obtain ⟨i, ⟨hi, hmin⟩⟩ := least (fun i => ns[i]? = some x) (by
          obtain ⟨i, hi, e⟩ := List.mem_iff_getElem.1 h
          exact ⟨i, by rw [List.getElem?_eq_getElem hi, e]⟩)
        have := fstX_at ns i 0 hi (fun j hj y hy e => by subst e; have := hmin j hy; omega)
        omega
      simp [h, this]
    · rw [fstX_no ns 0 h]; simp [h]
  rw [← hd]
  generalize fstX ns x 0 = q at ci
  simp only [nodeC] at ci
  repeat' first | (refine Holds.condT ?_ ?_; (· (simp [go_sem, List.take_of_length_le, nodeC] <;> with_reducible rfl))) | (refine Holds.condF ?_ ?_; (· (simp [go_sem, List.take_of_length_le, nodeC] <;> with_reducible rfl))) | refine Holds.seq ?_ | refine Holds.skip ?_ | refine Holds.exit ?_ | refine Holds.ret ?_ | refine thenA_normal ?_ | refine thenA_exit ?_ | refine thenA_ret ?_ | refine inB_normal ?_ | refine inB_ret ?_ | refine inB_here ?_ | (refine inB_past ?_ ?_; (· exact rfl)) | refine Holds.reg ?_ | refine Holds.block ?_ | refine GS.nil ?_ | (refine GS.step (s' := ?_) ?_ ?_ ?_; rotate_left; (· exact rfl); (· (simp [go_sem, List.take_of_length_le, nodeC] <;> with_reducible rfl))) | (refine GS.skip ?_ ?_ ?_; (· exact rfl); (· exact rfl)) | fail
  refine GS.cc (ci) rfl rfl rfl rfl (by simp [go_sem, List.take_of_length_le, nodeC] <;> with_reducible rfl) rfl (by simp [go_sem, List.take_of_length_le, nodeC]) ?_
  repeat' first | (refine Holds.condT ?_ ?_; (· (simp [go_sem, List.take_of_length_le] <;> with_reducible rfl))) | (refine Holds.condF ?_ ?_; (· (simp [go_sem, List.take_of_length_le] <;> with_reducible rfl))) | refine Holds.seq ?_ | refine Holds.skip ?_ | refine Holds.exit ?_ | refine Holds.ret ?_ | refine thenA_normal ?_ | refine thenA_exit ?_ | refine thenA_ret ?_ | refine inB_normal ?_ | refine inB_ret ?_ | refine inB_here ?_ | (refine inB_past ?_ ?_; (· exact rfl)) | refine Holds.reg ?_ | refine Holds.block ?_ | refine GS.nil ?_ | (refine GS.step (s' := ?_) ?_ ?_ ?_; rotate_left; (· exact rfl); (· (simp [go_sem, List.take_of_length_le] <;> with_reducible rfl))) | (refine GS.skip ?_ ?_ ?_; (· exact rfl); (· exact rfl)) | fail
  refine Out.mk (xs := ?_) ?_ ?_ (by first | exact .inr rfl | exact .inl rfl)
  rotate_left
  · simp [go_sem, List.take_of_length_le] <;> with_reducible rfl
  exact .v _
theorem nodes_snoc0 (l : List Node3) (x : Node3) : nodes l ++ [[.v (.int .i64 x.1), .v (.int .i64 x.2.1), .v (.int .i64 x.2.2)]] = nodes (l ++ [x]) := by simp [nodes, nodeC]
theorem put1 (sets : Sets3) (p : Nat) (x : Item3) (hp : p < sets.length) (hl : (at3 sets p).length ≤ 4000) : Fn Try.prog 65 2 [.v (.int .i64 p), .ag (nodeC x), .pb 0 1 0 0] [(0, ⟨57, 1, [[.own 1 1 0 sets.length]]⟩), (1, ⟨39, 1, itemssO sets⟩)] (.v (.bool (decide (x ∉ at3 sets p)))) 2 [(0, ⟨57, 1, [[.own 1 1 0 sets.length]]⟩), (1, ⟨39, 1, itemssO (putAt sets p x)⟩)] := by
  have hs := at3_get hp
  have cc := containsItem (at3 sets p) x (by omega)
  have hb : ((at3 sets p).length + 1) * 24 ≤ 140737488355328 := by omega
  unfold putAt putA
  generalize at3 sets p = S at hs hl cc hb ⊢
  simp only [nodeC] at cc
  refine Fn.mk (rs := [.tmp 5]) (nt := 22) Try.func65 (by kernel_rfl) rfl rfl rfl (by simp) ?_
  simp only [sl, nodeC]
  repeat' first | (refine Holds.condT ?_ ?_; (· (simp [go_sem, List.take_of_length_le] <;> with_reducible rfl))) | (refine Holds.condF ?_ ?_; (· (simp [go_sem, List.take_of_length_le] <;> with_reducible rfl))) | refine Holds.seq ?_ | refine Holds.skip ?_ | refine Holds.exit ?_ | refine Holds.ret ?_ | refine thenA_normal ?_ | refine thenA_exit ?_ | refine thenA_ret ?_ | refine inB_normal ?_ | refine inB_ret ?_ | refine inB_here ?_ | (refine inB_past ?_ ?_; (· exact rfl)) | refine Holds.reg ?_ | refine Holds.block ?_ | refine GS.nil ?_ | refine Gd.nil ?_ | (refine GS.step (s' := ?_) ?_ ?_ ?_; rotate_left; (· exact rfl); (· (simp [go_sem, List.take_of_length_le] <;> with_reducible rfl))) | (refine GS.skip ?_ ?_ ?_; (· exact rfl); (· exact rfl)) | (refine Gd.go (s' := ?_) ?_ ?_ ?_; rotate_left; (· exact rfl); (· (simp [go_sem, List.take_of_length_le] <;> with_reducible rfl))) | (refine Gd.skip ?_ ?_ ?_; (· exact rfl); (· exact rfl)) | fail
  refine Holds.open 1 p 0 rfl (iGet hs) rfl rfl ?_
  (refine Holds.any mixed ?_ ?_; (· kernel_rfl))
  repeat' first | (refine Holds.condT ?_ ?_; (· (simp [go_sem, List.take_of_length_le, hp] <;> with_reducible rfl))) | (refine Holds.condF ?_ ?_; (· (simp [go_sem, List.take_of_length_le, hp] <;> with_reducible rfl))) | refine Holds.seq ?_ | refine Holds.skip ?_ | refine Holds.exit ?_ | refine Holds.ret ?_ | refine thenA_normal ?_ | refine thenA_exit ?_ | refine thenA_ret ?_ | refine inB_normal ?_ | refine inB_ret ?_ | refine inB_here ?_ | (refine inB_past ?_ ?_; (· exact rfl)) | refine Holds.reg ?_ | refine Holds.block ?_ | refine GS.nil ?_ | refine Gd.nil ?_ | (refine GS.step (s' := ?_) ?_ ?_ ?_; rotate_left; (· exact rfl); (· (simp [go_sem, List.take_of_length_le, hp] <;> with_reducible rfl))) | (refine GS.skip ?_ ?_ ?_; (· exact rfl); (· exact rfl)) | (refine Gd.go (s' := ?_) ?_ ?_ ?_; rotate_left; (· exact rfl); (· (simp [go_sem, List.take_of_length_le, hp] <;> with_reducible rfl))) | (refine Gd.skip ?_ ?_ ?_; (· exact rfl); (· exact rfl)) | fail
  first | refine GS.cd (cc) rfl rfl rfl rfl (by simp [go_sem, List.take_of_length_le] <;> with_reducible rfl) rfl (by exact .cons (Fz.all rfl rfl (by simp) rfl (nodes_ok _)) (.cons (Fz.cl rfl) .nil)) rfl ?_ | refine Gd.cd (cc) rfl rfl rfl rfl (by simp [go_sem, List.take_of_length_le] <;> with_reducible rfl) rfl (by exact .cons (Fz.all rfl rfl (by simp) rfl (nodes_ok _)) (.cons (Fz.cl rfl) .nil)) rfl ?_
  by_cases hm : x ∈ S
  · have e1 : decide (x ∈ S) = true := decide_eq_true hm
    have e2 : decide (x ∉ S) = false := by simp [hm]
    rw [e1, e2, if_pos hm, set_self hs]
    repeat' first | (refine Holds.condT ?_ ?_; (· (simp [go_sem, List.take_of_length_le] <;> with_reducible rfl))) | (refine Holds.condF ?_ ?_; (· (simp [go_sem, List.take_of_length_le] <;> with_reducible rfl))) | refine Holds.seq ?_ | refine Holds.skip ?_ | refine Holds.exit ?_ | refine Holds.ret ?_ | refine thenA_normal ?_ | refine thenA_exit ?_ | refine thenA_ret ?_ | refine inB_normal ?_ | refine inB_ret ?_ | refine inB_here ?_ | (refine inB_past ?_ ?_; (· exact rfl)) | refine Holds.reg ?_ | refine Holds.block ?_ | refine GS.nil ?_ | refine Gd.nil ?_ | (refine GS.step (s' := ?_) ?_ ?_ ?_; rotate_left; (· exact rfl); (· (simp [go_sem, List.take_of_length_le] <;> with_reducible rfl))) | (refine GS.skip ?_ ?_ ?_; (· exact rfl); (· exact rfl)) | (refine Gd.go (s' := ?_) ?_ ?_ ?_; rotate_left; (· exact rfl); (· (simp [go_sem, List.take_of_length_le] <;> with_reducible rfl))) | (refine Gd.skip ?_ ?_ ?_; (· exact rfl); (· exact rfl)) | fail
    refine OutF.cov (Cov.close 1 p 0 rfl (set_get (iGet hs)) rfl rfl rfl rfl (by simp) (by simp)) ?_
    simp only [rm, st, List.set_set]
    refine OutF.mkn (xs := ?_) (nm [0, 1]) ?_ ?_ ?_ ?_ ?_ (by first | exact .inr rfl | exact .inl rfl)
    rotate_left
    · simp [go_sem, List.take_of_length_le, iSet hs] <;> with_reducible rfl
    · simp [go_sem, List.take_of_length_le, ren, ren1, ren2, okr, okr1, okr2, ChkN, BlkN, List.range_succ, nf, iSet hs]
    · simp [go_sem, List.take_of_length_le, ren, ren1, ren2, okr, okr1, okr2, ChkN, BlkN, List.range_succ, nf, iSet hs]
    · simp [go_sem, List.take_of_length_le, ren, ren1, ren2, okr, okr1, okr2, ChkN, BlkN, List.range_succ, nf, iSet hs]
    · rfl
  · have e1 : decide (x ∈ S) = false := decide_eq_false hm
    have e2 : decide (x ∉ S) = true := by simp [hm]
    rw [e1, e2, if_neg hm]
    repeat' first | (refine Holds.condT ?_ ?_; (· (simp [go_sem, List.take_of_length_le] <;> with_reducible rfl))) | (refine Holds.condF ?_ ?_; (· (simp [go_sem, List.take_of_length_le] <;> with_reducible rfl))) | refine Holds.seq ?_ | refine Holds.skip ?_ | refine Holds.exit ?_ | refine Holds.ret ?_ | refine thenA_normal ?_ | refine thenA_exit ?_ | refine thenA_ret ?_ | refine inB_normal ?_ | refine inB_ret ?_ | refine inB_here ?_ | (refine inB_past ?_ ?_; (· exact rfl)) | refine Holds.reg ?_ | refine Holds.block ?_ | refine GS.nil ?_ | refine Gd.nil ?_ | (refine GS.step (s' := ?_) ?_ ?_ ?_; rotate_left; (· exact rfl); (· (simp [go_sem, List.take_of_length_le] <;> with_reducible rfl))) | (refine GS.skip ?_ ?_ ?_; (· exact rfl); (· exact rfl)) | (refine Gd.go (s' := ?_) ?_ ?_ ?_; rotate_left; (· exact rfl); (· (simp [go_sem, List.take_of_length_le] <;> with_reducible rfl))) | (refine Gd.skip ?_ ?_ ?_; (· exact rfl); (· exact rfl)) | fail
    refine Holds.anx [7, 8, 1010] [0, 1, 2, 3, 4, 5, 6] (fun n => decide (3 ≤ n)) mixed ?_ ?_ ?_; (· kernel_rfl); (· kernel_rfl)
    repeat' first | (refine Holds.condT ?_ ?_; (· (simp [go_sem, List.take_of_length_le, hp, nodeC, hb] <;> with_reducible rfl))) | (refine Holds.condF ?_ ?_; (· (simp [go_sem, List.take_of_length_le, hp, nodeC, hb] <;> with_reducible rfl))) | refine Holds.seq ?_ | refine Holds.skip ?_ | refine Holds.exit ?_ | refine Holds.ret ?_ | refine thenA_normal ?_ | refine thenA_exit ?_ | refine thenA_ret ?_ | refine inB_normal ?_ | refine inB_ret ?_ | refine inB_here ?_ | (refine inB_past ?_ ?_; (· exact rfl)) | refine Holds.reg ?_ | refine Holds.block ?_ | refine GS.nil ?_ | refine Gd.nil ?_ | (refine GS.step (s' := ?_) ?_ ?_ ?_; rotate_left; (· exact rfl); (· (simp [go_sem, List.take_of_length_le, hp, nodeC, hb] <;> with_reducible rfl))) | (refine GS.skip ?_ ?_ ?_; (· exact rfl); (· exact rfl)) | (refine Gd.go (s' := ?_) ?_ ?_ ?_; rotate_left; (· exact rfl); (· (simp [go_sem, List.take_of_length_le, hp, nodeC, hb] <;> with_reducible rfl))) | (refine Gd.skip ?_ ?_ ?_; (· exact rfl); (· exact rfl)) | refine Gx.nil ?_ | (refine Gx.go (s' := ?_) rfl ?_ ?_ ?_; rotate_left; (· exact rfl); (· (simp [go_sem, List.take_of_length_le, hp, nodeC, hb] <;> with_reducible rfl))) | (refine Gx.skip rfl ?_ ?_ ?_; (· exact rfl); (· exact rfl)) | (refine Gx.skipO rfl ?_ ?_ ?_; (· exact rfl); (· exact rfl)) | (refine Gx.wo (s' := ?_) rfl ?_ ?_ ?_; rotate_left; (· exact rfl); (· (simp [go_sem, List.take_of_length_le, hp, nodeC, hb] <;> with_reducible rfl))) | (refine Gx.skipW rfl ?_ ?_ ?_; (· exact rfl); (· exact rfl)) | (refine Gx.skipH rfl ?_ ?_ ?_; (· exact rfl); (· exact rfl)) | (refine Gx.hid (r := ?_) rfl ?_ ?_ ?_ ?_; rotate_left; (· exact rfl); (· exact rfl); (· (simp [go_sem, List.take_of_length_le, hp, nodeC, hb] <;> with_reducible rfl))) | (refine Gx.wr (s' := ?_) rfl ?_ ?_ ?_ ?_; rotate_left; (· exact rfl); (· (simp [go_sem, List.take_of_length_le, hp, nodeC, hb] <;> with_reducible rfl)); (· (simp [go_sem, List.take_of_length_le, hp, nodeC, hb]))) | fail
    refine OutF.cov (Cov.close 1 p 0 rfl (set_get (iGet hs)) rfl rfl rfl rfl (by simp) (by simp [nf])) ?_
    simp only [rm, st, List.set_set]
    refine OutF.mkn (xs := ?_) (nm [0, 1]) ?_ ?_ ?_ ?_ ?_ (by first | exact .inr rfl | exact .inl rfl)
    rotate_left
    · simp [go_sem, List.take_of_length_le, iPut, nodes_snoc0] <;> with_reducible rfl
    · simp [go_sem, List.take_of_length_le, ren, ren1, ren2, okr, okr1, okr2, ChkN, BlkN, List.range_succ, nf, iPut, nodes_snoc0]
    · simp [go_sem, List.take_of_length_le, ren, ren1, ren2, okr, okr1, okr2, ChkN, BlkN, List.range_succ, nf, iPut, nodes_snoc0]
    · simp [go_sem, List.take_of_length_le, ren, ren1, ren2, okr, okr1, okr2, ChkN, BlkN, List.range_succ, nf, iPut, nodes_snoc0]
    · rfl
end Go.Proofs.Ytabdnpgahdbciaa.En
end
section
namespace Go.Proofs.Ytabdnpgahdbciaa.En
open Go.RowKit
set_option linter.unusedSimpArgs false
set_option linter.unusedVariables false
set_option maxHeartbeats 8000000
theorem begF_at (g : GrammarT) {p : Nat} (non : Int) {sets : Sets3} (hp : p < sets.length) : ∀ i, (at3 (begF g p non sets i).1 p).length ≤ (at3 sets p).length + i
  | 0 => Nat.le_refl _
  | i + 1 => by
    have ih := begF_at g non hp i
    have hl := begF_len g p non sets i
    unfold begF
    split
    · dsimp only
      rw [putAt, at3_set (by rw [hl]; exact hp)]
      unfold putA
      split
      · omega
      · simp; omega
    · omega
theorem beg1 (g : GrammarT) (hg : g.2.2.length ≤ 16) (sets : Sets3) (p : Nat) (non : Int) (hp : p < sets.length) (hl : (at3 sets p).length ≤ 880) : Fn Try.prog 67 4 [.v (.int .i64 p), .v (.int .i64 non), .pb 0 3 0 0, .pb 1 1 0 0]
    [(0, ⟨31, 3, [grammarC g]⟩), (1, ⟨87, 1, [[.fn 65 [.pb 2 1 0 0]]]⟩), (2, ⟨57, 1, [[.own 3 1 0 sets.length]]⟩), (3, ⟨39, 1, itemssO sets⟩)] (.v (.bool (begF g p non sets g.2.2.length).2)) 4
    [(0, ⟨31, 3, [grammarC g]⟩), (1, ⟨87, 1, [[.fn 65 [.pb 2 1 0 0]]]⟩), (2, ⟨57, 1, [[.own 3 1 0 sets.length]]⟩), (3, ⟨39, 1, itemssO (begF g p non sets g.2.2.length).1⟩)] := by
  refine Fn.mk (rs := [.tmp 6]) (nt := 32) Try.func67 (by kernel_rfl) rfl rfl rfl (by simp) ?_
  simp only [sl, grammarC]
  repeat' first | (refine Holds.condT ?_ ?_; (· (simp [go_sem, List.take_of_length_le, grammarC] <;> with_reducible rfl))) | (refine Holds.condF ?_ ?_; (· (simp [go_sem, List.take_of_length_le, grammarC] <;> with_reducible rfl))) | refine Holds.seq ?_ | refine Holds.skip ?_ | refine Holds.exit ?_ | refine Holds.ret ?_ | refine thenA_normal ?_ | refine thenA_exit ?_ | refine thenA_ret ?_ | refine inB_normal ?_ | refine inB_ret ?_ | refine inB_here ?_ | (refine inB_past ?_ ?_; (· exact rfl)) | refine Holds.reg ?_ | refine Holds.block ?_ | refine GS.nil ?_ | (refine GS.step (s' := ?_) ?_ ?_ ?_; rotate_left; (· exact rfl); (· (simp [go_sem, List.take_of_length_le, grammarC] <;> with_reducible rfl))) | (refine GS.skip ?_ ?_ ?_; (· exact rfl); (· exact rfl)) | fail
  refine Holds.loop (ι := Nat) (fun i => ⟨[(0, .v (.int .i64 p)), (1, .v (.int .i64 non)), (3, .pb 1 1 0 0), (7, .v (.bool (begF g p non sets i).2)), (11, .im 2 (rules g.2.2)), (12, .v (.int .i64 g.2.2.length)), (13, .v (.int .i64 i))],
      [(0, ⟨31, 3, [grammarC g]⟩), (1, ⟨87, 1, [[.fn 65 [.pb 2 1 0 0]]]⟩), (2, ⟨57, 1, [[.own 3 1 0 sets.length]]⟩), (3, ⟨39, 1, itemssO (begF g p non sets i).1⟩)], 4⟩)
    (fun i => i ≤ g.2.2.length) (fun i => g.2.2.length - i) 0 (Nat.zero_le _) ?_ ?_
  · exact Cov.ofn (nm [0, 1, 2, 3]) rfl (by simp [go_sem, List.take_of_length_le, ren, ren1, ren2, okr, okr1, okr2, ChkT, ChkN, BlkN, nf, grammarC, begF]) (by simp [go_sem, List.take_of_length_le, ren, ren1, ren2, okr, okr1, okr2, ChkT, ChkN, BlkN, nf, grammarC, begF])
  intro i hi
  have stepi : wr64 ((i : Int) + 1) = ((i + 1 : Nat) : Int) := wr64_id (by omega) (by omega)
  have hil := begF_len g p non sets i
  have hia := begF_at g non hp i
  repeat' first | (refine Holds.condT ?_ ?_; (· (simp [go_sem, List.take_of_length_le] <;> with_reducible rfl))) | (refine Holds.condF ?_ ?_; (· (simp [go_sem, List.take_of_length_le] <;> with_reducible rfl))) | refine Holds.seq ?_ | refine Holds.skip ?_ | refine Holds.exit ?_ | refine Holds.ret ?_ | refine thenA_normal ?_ | refine thenA_exit ?_ | refine thenA_ret ?_ | refine inB_normal ?_ | refine inB_ret ?_ | refine inB_here ?_ | (refine inB_past ?_ ?_; (· exact rfl)) | refine Holds.reg ?_ | refine Holds.block ?_ | refine GS.nil ?_ | (refine GS.step (s' := ?_) ?_ ?_ ?_; rotate_left; (· exact rfl); (· (simp [go_sem, List.take_of_length_le] <;> with_reducible rfl))) | (refine GS.skip ?_ ?_ ?_; (· exact rfl); (· exact rfl)) | fail
  refine Holds.cond rfl (fun h => ?_) (fun h => ?_)
  · have hlt : i < g.2.2.length := by simp at h; omega
    have hxi := ruleN_at hlt
    have hnx : begF g p non sets (i + 1) = if (ruleN g i).1 = non then (putAt (begF g p non sets i).1 p (itemN i 0 p), (begF g p non sets i).2 || decide (itemN i 0 p ∉ at3 (begF g p non sets i).1 p)) else begF g p non sets i := rfl
    generalize ruleN g i = R at hxi hnx
    generalize begF g p non sets i = T at hil hia hnx ⊢
    obtain ⟨T, b⟩ := T
    dsimp only at hil hia hnx ⊢
    have cp := put1 T p (itemN i 0 p) (by omega) (by omega)
    rw [hil] at cp
    generalize decide (itemN i 0 p ∉ at3 T p) = fr at cp hnx
    simp only [nodeC, itemN] at cp
    by_cases hc : R.1 = non
    · have hc' : (R.1 == non) = true := by simp [hc]
      rw [if_pos hc] at hnx
      repeat' first | (refine Holds.condT ?_ ?_; (· (simp [go_sem, List.take_of_length_le, get_E hxi, hxi, hlt, ruleC, hc'] <;> with_reducible rfl))) | (refine Holds.condF ?_ ?_; (· (simp [go_sem, List.take_of_length_le, get_E hxi, hxi, hlt, ruleC, hc'] <;> with_reducible rfl))) | refine Holds.seq ?_ | refine Holds.skip ?_ | refine Holds.exit ?_ | refine Holds.ret ?_ | refine thenA_normal ?_ | refine thenA_exit ?_ | refine thenA_ret ?_ | refine inB_normal ?_ | refine inB_ret ?_ | refine inB_here ?_ | (refine inB_past ?_ ?_; (· exact rfl)) | refine Holds.reg ?_ | refine Holds.block ?_ | refine GS.nil ?_ | (refine GS.step (s' := ?_) ?_ ?_ ?_; rotate_left; (· exact rfl); (· (simp [go_sem, List.take_of_length_le, get_E hxi, hxi, hlt, ruleC, hc'] <;> with_reducible rfl))) | (refine GS.skip ?_ ?_ ?_; (· exact rfl); (· exact rfl)) | fail
      refine GS.fnn [2, 3] (cp) rfl rfl rfl rfl (by simp [go_sem, List.take_of_length_le, ren, ren1, ren2, okr, okr1, okr2, ChkN, BlkN, List.range_succ, nf] <;> with_reducible rfl) (by simp [go_sem, List.take_of_length_le, ren, ren1, ren2, okr, okr1, okr2, ChkN, BlkN, List.range_succ, nf]) (by simp [go_sem, List.take_of_length_le, ren, ren1, ren2, okr, okr1, okr2, ChkN, BlkN, List.range_succ, nf]) (by simp [List.range_succ, lb]) (ChkN.toB (by simp [go_sem, List.take_of_length_le, ren, ren1, ren2, okr, okr1, okr2, ChkN, BlkN, List.range_succ, nf])) (by decide) (by simp) rfl (.okw (by simp [okr, okr1]) (.nfr (by simp) .nil)) (by simp [go_sem, List.take_of_length_le, ren, ren1, ren2, okr, okr1, okr2, ChkN, BlkN, List.range_succ, nf] <;> with_reducible rfl) ?_
      cases fr with
      | true =>
        rw [Bool.or_true] at hnx
        repeat' first | (refine Holds.condT ?_ ?_; (· (simp [go_sem, List.take_of_length_le] <;> with_reducible rfl))) | (refine Holds.condF ?_ ?_; (· (simp [go_sem, List.take_of_length_le] <;> with_reducible rfl))) | refine Holds.seq ?_ | refine Holds.skip ?_ | refine Holds.exit ?_ | refine Holds.ret ?_ | refine thenA_normal ?_ | refine thenA_exit ?_ | refine thenA_ret ?_ | refine inB_normal ?_ | refine inB_ret ?_ | refine inB_here ?_ | (refine inB_past ?_ ?_; (· exact rfl)) | refine Holds.reg ?_ | refine Holds.block ?_ | refine GS.nil ?_ | (refine GS.step (s' := ?_) ?_ ?_ ?_; rotate_left; (· exact rfl); (· (simp [go_sem, List.take_of_length_le] <;> with_reducible rfl))) | (refine GS.skip ?_ ?_ ?_; (· exact rfl); (· exact rfl)) | fail
        refine ⟨i + 1, by omega, by omega, ?_⟩
        rw [stepi, hnx]
        exact Cov.ofn (nm [0, 1, 2, 3]) rfl (by simp [go_sem, List.take_of_length_le, ren, ren1, ren2, okr, okr1, okr2, ChkT, ChkN, BlkN, nf, grammarC, itemN]) (by simp [go_sem, List.take_of_length_le, ren, ren1, ren2, okr, okr1, okr2, ChkT, ChkN, BlkN, nf, grammarC, itemN])
      | false =>
        rw [Bool.or_false] at hnx
        repeat' first | (refine Holds.condT ?_ ?_; (· (simp [go_sem, List.take_of_length_le] <;> with_reducible rfl))) | (refine Holds.condF ?_ ?_; (· (simp [go_sem, List.take_of_length_le] <;> with_reducible rfl))) | refine Holds.seq ?_ | refine Holds.skip ?_ | refine Holds.exit ?_ | refine Holds.ret ?_ | refine thenA_normal ?_ | refine thenA_exit ?_ | refine thenA_ret ?_ | refine inB_normal ?_ | refine inB_ret ?_ | refine inB_here ?_ | (refine inB_past ?_ ?_; (· exact rfl)) | refine Holds.reg ?_ | refine Holds.block ?_ | refine GS.nil ?_ | (refine GS.step (s' := ?_) ?_ ?_ ?_; rotate_left; (· exact rfl); (· (simp [go_sem, List.take_of_length_le] <;> with_reducible rfl))) | (refine GS.skip ?_ ?_ ?_; (· exact rfl); (· exact rfl)) | fail
        refine ⟨i + 1, by omega, by omega, ?_⟩
        rw [stepi, hnx]
        exact Cov.ofn (nm [0, 1, 2, 3]) rfl (by simp [go_sem, List.take_of_length_le, ren, ren1, ren2, okr, okr1, okr2, ChkT, ChkN, BlkN, nf, grammarC, itemN]) (by simp [go_sem, List.take_of_length_le, ren, ren1, ren2, okr, okr1, okr2, ChkT, ChkN, BlkN, nf, grammarC, itemN])
    · have hc' : (R.1 == non) = false := by simp [hc]
      rw [if_neg hc] at hnx
      repeat' first | (refine Holds.condT ?_ ?_; (· (simp [go_sem, List.take_of_length_le, get_E hxi, hxi, hlt, ruleC, hc'] <;> with_reducible rfl))) | (refine Holds.condF ?_ ?_; (· (simp [go_sem, List.take_of_length_le, get_E hxi, hxi, hlt, ruleC, hc'] <;> with_reducible rfl))) | refine Holds.seq ?_ | refine Holds.skip ?_ | refine Holds.exit ?_ | refine Holds.ret ?_ | refine thenA_normal ?_ | refine thenA_exit ?_ | refine thenA_ret ?_ | refine inB_normal ?_ | refine inB_ret ?_ | refine inB_here ?_ | (refine inB_past ?_ ?_; (· exact rfl)) | refine Holds.reg ?_ | refine Holds.block ?_ | refine GS.nil ?_ | (refine GS.step (s' := ?_) ?_ ?_ ?_; rotate_left; (· exact rfl); (· (simp [go_sem, List.take_of_length_le, get_E hxi, hxi, hlt, ruleC, hc'] <;> with_reducible rfl))) | (refine GS.skip ?_ ?_ ?_; (· exact rfl); (· exact rfl)) | fail
      refine ⟨i + 1, by omega, by omega, ?_⟩
      rw [stepi, hnx]
      exact Cov.ofn (nm [0, 1, 2, 3]) rfl (by simp [go_sem, List.take_of_length_le, ren, ren1, ren2, okr, okr1, okr2, ChkT, ChkN, BlkN, nf, grammarC]) (by simp [go_sem, List.take_of_length_le, ren, ren1, ren2, okr, okr1, okr2, ChkT, ChkN, BlkN, nf, grammarC])
  · have hle : i = g.2.2.length := by simp at h; omega
    subst hle
    generalize begF g p non sets g.2.2.length = T
    repeat' first | (refine Holds.condT ?_ ?_; (· (simp [go_sem, List.take_of_length_le] <;> with_reducible rfl))) | (refine Holds.condF ?_ ?_; (· (simp [go_sem, List.take_of_length_le] <;> with_reducible rfl))) | refine Holds.seq ?_ | refine Holds.skip ?_ | refine Holds.exit ?_ | refine Holds.ret ?_ | refine thenA_normal ?_ | refine thenA_exit ?_ | refine thenA_ret ?_ | refine inB_normal ?_ | refine inB_ret ?_ | refine inB_here ?_ | (refine inB_past ?_ ?_; (· exact rfl)) | refine Holds.reg ?_ | refine Holds.block ?_ | refine GS.nil ?_ | (refine GS.step (s' := ?_) ?_ ?_ ?_; rotate_left; (· exact rfl); (· (simp [go_sem, List.take_of_length_le] <;> with_reducible rfl))) | (refine GS.skip ?_ ?_ ?_; (· exact rfl); (· exact rfl)) | fail
    refine OutF.mkn (xs := ?_) (nm [0, 1, 2, 3]) ?_ ?_ ?_ ?_ ?_ (by first | exact .inr rfl | exact .inl rfl)
    rotate_left
    · simp [go_sem, List.take_of_length_le, grammarC] <;> with_reducible rfl
    · simp [go_sem, List.take_of_length_le, ren, ren1, ren2, okr, okr1, okr2, ChkN, BlkN, List.range_succ, nf, grammarC]
    · simp [go_sem, List.take_of_length_le, ren, ren1, ren2, okr, okr1, okr2, ChkN, BlkN, List.range_succ, nf, grammarC]
    · simp [go_sem, List.take_of_length_le, ren, ren1, ren2, okr, okr1, okr2, ChkN, BlkN, List.range_succ, nf, grammarC]
    · rfl
end Go.Proofs.Ytabdnpgahdbciaa.En
end
section
namespace Go.Proofs.Ytabdnpgahdbciaa.En
open Go.RowKit
set_option linter.unusedSimpArgs false
set_option linter.unusedVariables false
set_option maxHeartbeats 16000000
theorem symbolOfE (x : Int) (h0 : -100 ≤ x) (h1 : x ≤ 100) : Pure Try.prog 51 [.v (.int .i64 x)] (.v (.int .i64 (-1 - x))) := by
  refine Pure.mk (rs := [.tmp 2]) (nt := 5) Try.func51 (by kernel_rfl) rfl rfl rfl (by simp) ?_
  simp only [sl]
  have hw : wr64 (-1 - x) = -1 - x := wr64_id (by omega) (by omega)
  repeat' first | refine Holds.seq ?_ | refine Holds.skip ?_ | refine Holds.exit ?_ | refine Holds.ret ?_ | refine thenA_normal ?_ | refine thenA_exit ?_ | refine thenA_ret ?_ | refine inB_normal ?_ | refine inB_ret ?_ | refine inB_here ?_ | (refine inB_past ?_ ?_; (· exact rfl)) | refine Holds.reg ?_ | refine Holds.block ?_ | refine GS.nil ?_ | (refine GS.step (s' := ?_) ?_ ?_ ?_; rotate_left; (· exact rfl); (· (simp [go_sem, List.take_of_length_le, hw] <;> with_reducible rfl))) | (refine GS.skip ?_ ?_ ?_; (· exact rfl); (· exact rfl)) | fail
  refine Out.mk (xs := ?_) ?_ ?_ (by first | exact .inr rfl | exact .inl rfl)
  rotate_left
  · simp [go_sem, List.take_of_length_le] <;> with_reducible rfl
  exact .v _
theorem implItems (g : GrammarT) (hg : goodG g = true) (w : List Int) (hw : w.length ≤ 10) (hwt : ∀ t ∈ w, 0 ≤ t ∧ t ≤ 3) : FnX (α := Sets3) Try.prog 36 [.ag (grammarC g), .im 1 (ints w)] (fun _ => .own 0 1 0 (w.length + 1)) 1 (fun sets => [(0, ⟨39, 1, itemssO sets⟩)]) (fun sets => Snd g w sets ∧ DoneI g w sets (w.length + 1)) := by
  have hG : g.2.2.length ≤ 16 := by simp only [goodG, Bool.and_eq_true, decide_eq_true_eq] at hg; exact hg.1.2
  have hg4 : ∀ r, r < g.2.2.length → (ruleN g r).2.length ≤ 4 := fun r hr => (good_r3 hg hr).2
  have hb0 := begin_ok g w
  have hbl := begF_len g 0 0 (List.replicate (w.length + 1) []) g.2.2.length
  refine FnX.mk (rs := [.tmp 4]) (nt := 164) Try.func36 (by kernel_rfl) rfl rfl rfl (by simp) ?_
  simp only [sl, grammarC]
  have hn1 : wr64 ((w.length : Int) + 1) = ((w.length + 1 : Nat) : Int) := wr64_id (by omega) (by omega)
  generalize hN : w.length + 1 = N at hn1 hb0 hbl ⊢
  have cb0 := beg1 g hG (List.replicate N []) 0 0 (by simp; omega) (by rw [at3, List.getD_eq_getElem?_getD, List.getElem?_replicate]; split <;> simp)
  rw [List.length_replicate] at cb0 hbl
  have hn0 : (0 : Int) ≤ (N : Int) := by omega
  have hn24 : (24 : Int) * N ≤ 281474976710656 := by omega
  have hnn : (N : Int) ≤ 281474976710656 := by omega
  have hO0 : List.replicate N ([.ow 56 3 []] : List AV) = itemssO (List.replicate N []) := by simp [itemssO, itemO, nodes]
  repeat' first | (refine Holds.condT ?_ ?_; (· (simp [go_sem, List.take_of_length_le, hn1, hn0, hn24, hnn, grammarC] <;> with_reducible rfl))) | (refine Holds.condF ?_ ?_; (· (simp [go_sem, List.take_of_length_le, hn1, hn0, hn24, hnn, grammarC] <;> with_reducible rfl))) | refine Holds.seq ?_ | refine Holds.skip ?_ | refine Holds.exit ?_ | refine Holds.ret ?_ | refine thenA_normal ?_ | refine thenA_exit ?_ | refine thenA_ret ?_ | refine inB_normal ?_ | refine inB_ret ?_ | refine inB_here ?_ | (refine inB_past ?_ ?_; (· exact rfl)) | refine Holds.reg ?_ | refine Holds.block ?_ | refine GS.nil ?_ | refine Gd.nil ?_ | (refine Holds.any mixed ?_ ?_; (· kernel_rfl)) | (refine GS.stepD 21 (s' := ?_) rfl ?_ ?_ ?_; rotate_left; (· exact rfl); (· (simp [go_sem, List.take_of_length_le, hn1, hn0, hn24, hnn, grammarC] <;> with_reducible rfl))) | (refine GS.skip ?_ ?_ ?_; (· exact rfl); (· exact rfl)) | (refine Gd.go (s' := ?_) ?_ ?_ ?_; rotate_left; (· exact rfl); (· (simp [go_sem, List.take_of_length_le, hn1, hn0, hn24, hnn, grammarC] <;> with_reducible rfl))) | (refine Gd.skip ?_ ?_ ?_; (· exact rfl); (· exact rfl)) | fail
  refine GS.cov (Cov.nilO (n := 1) (m := N) (e1 := 56) (z := 3) rfl) ?_
  simp only [st]
  rw [hO0]
  repeat' first | (refine Holds.condT ?_ ?_; (· (simp [go_sem, List.take_of_length_le, grammarC] <;> with_reducible rfl))) | (refine Holds.condF ?_ ?_; (· (simp [go_sem, List.take_of_length_le, grammarC] <;> with_reducible rfl))) | refine Holds.seq ?_ | refine Holds.skip ?_ | refine Holds.exit ?_ | refine Holds.ret ?_ | refine thenA_normal ?_ | refine thenA_exit ?_ | refine thenA_ret ?_ | refine inB_normal ?_ | refine inB_ret ?_ | refine inB_here ?_ | (refine inB_past ?_ ?_; (· exact rfl)) | refine Holds.reg ?_ | refine Holds.block ?_ | refine GS.nil ?_ | refine Gd.nil ?_ | (refine Holds.any mixed ?_ ?_; (· kernel_rfl)) | (refine GS.step (s' := ?_) ?_ ?_ ?_; rotate_left; (· exact rfl); (· (simp [go_sem, List.take_of_length_le, grammarC] <;> with_reducible rfl))) | (refine GS.skip ?_ ?_ ?_; (· exact rfl); (· exact rfl)) | (refine Gd.go (s' := ?_) ?_ ?_ ?_; rotate_left; (· exact rfl); (· (simp [go_sem, List.take_of_length_le, grammarC] <;> with_reducible rfl))) | (refine Gd.skip ?_ ?_ ?_; (· exact rfl); (· exact rfl)) | fail
  simp only [grammarC] at cb0
  refine GS.fnn [0, 3, 2, 1] (cb0) rfl rfl rfl rfl (by simp [go_sem, List.take_of_length_le, ren, ren1, ren2, okr, okr1, okr2, ChkN, BlkN, List.range_succ, nf] <;> with_reducible rfl) (by simp [go_sem, List.take_of_length_le, ren, ren1, ren2, okr, okr1, okr2, ChkN, BlkN, List.range_succ, nf]) (by simp [go_sem, List.take_of_length_le, ren, ren1, ren2, okr, okr1, okr2, ChkN, BlkN, List.range_succ, nf]) (by simp [List.range_succ, lb]) (ChkN.toB (by simp [go_sem, List.take_of_length_le, ren, ren1, ren2, okr, okr1, okr2, ChkN, BlkN, List.range_succ, nf])) (by decide) (by simp) rfl (.nfr (by simp [nf]) (.okw (by simp [okr, okr1]) (.okw (by simp [okr, okr1]) (.nfr (by simp) .nil)))) (by simp [go_sem, List.take_of_length_le, ren, ren1, ren2, okr, okr1, okr2, ChkN, BlkN, List.range_succ, nf] <;> with_reducible rfl) ?_
  generalize hB : begF g 0 0 (List.replicate N []) g.2.2.length = B at hb0 hbl ⊢
  obtain ⟨sets1, b1⟩ := B
  dsimp only at hb0 hbl ⊢
  repeat' first | (refine Holds.condT ?_ ?_; (· (simp [go_sem, List.take_of_length_le] <;> with_reducible rfl))) | (refine Holds.condF ?_ ?_; (· (simp [go_sem, List.take_of_length_le] <;> with_reducible rfl))) | refine Holds.seq ?_ | refine Holds.skip ?_ | refine Holds.exit ?_ | refine Holds.ret ?_ | refine thenA_normal ?_ | refine thenA_exit ?_ | refine thenA_ret ?_ | refine inB_normal ?_ | refine inB_ret ?_ | refine inB_here ?_ | (refine inB_past ?_ ?_; (· exact rfl)) | refine Holds.reg ?_ | refine Holds.block ?_ | refine GS.nil ?_ | refine Gd.nil ?_ | (refine Holds.any mixed ?_ ?_; (· kernel_rfl)) | (refine GS.step (s' := ?_) ?_ ?_ ?_; rotate_left; (· exact rfl); (· (simp [go_sem, List.take_of_length_le] <;> with_reducible rfl))) | (refine GS.skip ?_ ?_ ?_; (· exact rfl); (· exact rfl)) | (refine Gd.go (s' := ?_) ?_ ?_ ?_; rotate_left; (· exact rfl); (· (simp [go_sem, List.take_of_length_le] <;> with_reducible rfl))) | (refine Gd.skip ?_ ?_ ?_; (· exact rfl); (· exact rfl)) | fail
  refine Holds.loop (ι := Nat × Sets3) (fun i => ⟨[(1, .im 1 (ints w)), (2, .pb 0 3 0 0), (5, .pb 2 1 0 0), (6, .pb 3 1 0 0), (7, .fn 67 [.pb 0 3 0 0, .pb 3 1 0 0]), (26, .v (.int .i64 N)), (27, .v (.int .i64 i.1))], [(0, ⟨31, 3, [grammarC g]⟩), (1, ⟨39, 1, itemssO i.2⟩), (2, ⟨57, 1, [[.own 1 1 0 N]]⟩), (3, ⟨87, 1, [[.fn 65 [.pb 2 1 0 0]]]⟩)], 4⟩)
    (fun i => i.1 ≤ N ∧ Snd g w i.2 ∧ DoneI g w i.2 i.1) (fun i => N - i.1) (0, sets1) ⟨Nat.zero_le _, hb0.1, hb0.2⟩ ?_ ?_
  · exact Cov.ofn (nm [0, 1, 2, 3]) rfl (by simp [go_sem, List.take_of_length_le, ren, ren1, ren2, okr, okr1, okr2, ChkT, ChkN, BlkN, nf, grammarC]) (by simp [go_sem, List.take_of_length_le, ren, ren1, ren2, okr, okr1, okr2, ChkT, ChkN, BlkN, nf, grammarC])
  clear hb0 hbl hB cb0 b1 sets1
  rintro ⟨p, setsP⟩ ⟨hp, hS, hD⟩
  dsimp only at hp hS hD ⊢
  have hlP : setsP.length = N := by rw [hS.ln, hN]
  have stepp : wr64 ((p : Int) + 1) = ((p + 1 : Nat) : Int) := wr64_id (by omega) (by omega)
  repeat' first | (refine Holds.condT ?_ ?_; (· (simp [go_sem, List.take_of_length_le] <;> with_reducible rfl))) | (refine Holds.condF ?_ ?_; (· (simp [go_sem, List.take_of_length_le] <;> with_reducible rfl))) | refine Holds.seq ?_ | refine Holds.skip ?_ | refine Holds.exit ?_ | refine Holds.ret ?_ | refine thenA_normal ?_ | refine thenA_exit ?_ | refine thenA_ret ?_ | refine inB_normal ?_ | refine inB_ret ?_ | refine inB_here ?_ | (refine inB_past ?_ ?_; (· exact rfl)) | refine Holds.reg ?_ | refine Holds.block ?_ | refine GS.nil ?_ | refine Gd.nil ?_ | (refine Holds.any mixed ?_ ?_; (· kernel_rfl)) | (refine GS.step (s' := ?_) ?_ ?_ ?_; rotate_left; (· exact rfl); (· (simp [go_sem, List.take_of_length_le] <;> with_reducible rfl))) | (refine GS.skip ?_ ?_ ?_; (· exact rfl); (· exact rfl)) | (refine Gd.go (s' := ?_) ?_ ?_ ?_; rotate_left; (· exact rfl); (· (simp [go_sem, List.take_of_length_le] <;> with_reducible rfl))) | (refine Gd.skip ?_ ?_ ?_; (· exact rfl); (· exact rfl)) | fail
  refine Holds.cond rfl (fun h => ?_) (fun h => ?_)
  · have hltp : p < N := by simp at h; omega
    have hpw : p ≤ w.length := by omega
    repeat' first | (refine Holds.condT ?_ ?_; (· (simp [go_sem, List.take_of_length_le] <;> with_reducible rfl))) | (refine Holds.condF ?_ ?_; (· (simp [go_sem, List.take_of_length_le] <;> with_reducible rfl))) | refine Holds.seq ?_ | refine Holds.skip ?_ | refine Holds.exit ?_ | refine Holds.ret ?_ | refine thenA_normal ?_ | refine thenA_exit ?_ | refine thenA_ret ?_ | refine inB_normal ?_ | refine inB_ret ?_ | refine inB_here ?_ | (refine inB_past ?_ ?_; (· exact rfl)) | refine Holds.reg ?_ | refine Holds.block ?_ | refine GS.nil ?_ | refine Gd.nil ?_ | (refine Holds.any mixed ?_ ?_; (· kernel_rfl)) | (refine GS.step (s' := ?_) ?_ ?_ ?_; rotate_left; (· exact rfl); (· (simp [go_sem, List.take_of_length_le] <;> with_reducible rfl))) | (refine GS.skip ?_ ?_ ?_; (· exact rfl); (· exact rfl)) | (refine Gd.go (s' := ?_) ?_ ?_ ?_; rotate_left; (· exact rfl); (· (simp [go_sem, List.take_of_length_le] <;> with_reducible rfl))) | (refine Gd.skip ?_ ?_ ?_; (· exact rfl); (· exact rfl)) | fail
    refine Holds.loop (ι := Sets3 × Bool) (fun i => ⟨[(1, .im 1 (ints w)), (2, .pb 0 3 0 0), (5, .pb 2 1 0 0), (6, .pb 3 1 0 0), (7, .fn 67 [.pb 0 3 0 0, .pb 3 1 0 0]), (26, .v (.int .i64 N)), (27, .v (.int .i64 p)), (8, .v (.int .i64 p)), (9, .v (.bool i.2))], [(0, ⟨31, 3, [grammarC g]⟩), (1, ⟨39, 1, itemssO i.1⟩), (2, ⟨57, 1, [[.own 1 1 0 N]]⟩), (3, ⟨87, 1, [[.fn 65 [.pb 2 1 0 0]]]⟩)], 4⟩)
      (fun i => Snd g w i.1 ∧ DoneI g w i.1 p ∧ (i.2 = false → DoneI g w i.1 (p + 1))) (fun i => 2 * (880 - (at3 i.1 p).length) + (if i.2 then 1 else 0)) (setsP, true) ⟨hS, hD, fun e => by cases e⟩ ?_ ?_
    · exact Cov.ofn (nm [0, 1, 2, 3]) rfl (by simp [go_sem, List.take_of_length_le, ren, ren1, ren2, okr, okr1, okr2, ChkT, ChkN, BlkN, nf, grammarC]) (by simp [go_sem, List.take_of_length_le, ren, ren1, ren2, okr, okr1, okr2, ChkT, ChkN, BlkN, nf, grammarC])
    clear hlP hS hD setsP
    rintro ⟨setsC, again0⟩ ⟨hS, hD, hst⟩
    dsimp only at hS hD hst ⊢
    repeat' first | (refine Holds.condT ?_ ?_; (· (simp [go_sem, List.take_of_length_le] <;> with_reducible rfl))) | (refine Holds.condF ?_ ?_; (· (simp [go_sem, List.take_of_length_le] <;> with_reducible rfl))) | refine Holds.seq ?_ | refine Holds.skip ?_ | refine Holds.exit ?_ | refine Holds.ret ?_ | refine thenA_normal ?_ | refine thenA_exit ?_ | refine thenA_ret ?_ | refine inB_normal ?_ | refine inB_ret ?_ | refine inB_here ?_ | (refine inB_past ?_ ?_; (· exact rfl)) | refine Holds.reg ?_ | refine Holds.block ?_ | refine GS.nil ?_ | refine Gd.nil ?_ | (refine Holds.any mixed ?_ ?_; (· kernel_rfl)) | (refine GS.step (s' := ?_) ?_ ?_ ?_; rotate_left; (· exact rfl); (· (simp [go_sem, List.take_of_length_le] <;> with_reducible rfl))) | (refine GS.skip ?_ ?_ ?_; (· exact rfl); (· exact rfl)) | (refine Gd.go (s' := ?_) ?_ ?_ ?_; rotate_left; (· exact rfl); (· (simp [go_sem, List.take_of_length_le] <;> with_reducible rfl))) | (refine Gd.skip ?_ ?_ ?_; (· exact rfl); (· exact rfl)) | fail
    cases again0 with
    | true =>
      refine Holds.cond rfl (fun h => ?_) (fun h => by cases h)
      have hlC : setsC.length = N := by rw [hS.ln, hN]
      have hA0 := PassA.start hS hD
      have hfC := hS.few hg hw p
      generalize at3 setsC p = S0 at hA0 hfC ⊢
      repeat' first | (refine Holds.condT ?_ ?_; (· (simp [go_sem, List.take_of_length_le] <;> with_reducible rfl))) | (refine Holds.condF ?_ ?_; (· (simp [go_sem, List.take_of_length_le] <;> with_reducible rfl))) | refine Holds.seq ?_ | refine Holds.skip ?_ | refine Holds.exit ?_ | refine Holds.ret ?_ | refine thenA_normal ?_ | refine thenA_exit ?_ | refine thenA_ret ?_ | refine inB_normal ?_ | refine inB_ret ?_ | refine inB_here ?_ | (refine inB_past ?_ ?_; (· exact rfl)) | refine Holds.reg ?_ | refine Holds.block ?_ | refine GS.nil ?_ | refine Gd.nil ?_ | (refine Holds.any mixed ?_ ?_; (· kernel_rfl)) | (refine GS.step (s' := ?_) ?_ ?_ ?_; rotate_left; (· exact rfl); (· (simp [go_sem, List.take_of_length_le] <;> with_reducible rfl))) | (refine GS.skip ?_ ?_ ?_; (· exact rfl); (· exact rfl)) | (refine Gd.go (s' := ?_) ?_ ?_ ?_; rotate_left; (· exact rfl); (· (simp [go_sem, List.take_of_length_le] <;> with_reducible rfl))) | (refine Gd.skip ?_ ?_ ?_; (· exact rfl); (· exact rfl)) | fail
      refine Holds.loop (ι := Nat × Sets3 × Bool) (fun i => ⟨[(1, .im 1 (ints w)), (2, .pb 0 3 0 0), (5, .pb 2 1 0 0), (6, .pb 3 1 0 0), (7, .fn 67 [.pb 0 3 0 0, .pb 3 1 0 0]), (26, .v (.int .i64 N)), (27, .v (.int .i64 p)), (8, .v (.int .i64 p)), (9, .v (.bool i.2.2)), (10, .v (.int .i64 i.1))], [(0, ⟨31, 3, [grammarC g]⟩), (1, ⟨39, 1, itemssO i.2.1⟩), (2, ⟨57, 1, [[.own 1 1 0 N]]⟩), (3, ⟨87, 1, [[.fn 65 [.pb 2 1 0 0]]]⟩)], 4⟩)
        (fun i => PassA g w p S0 i.2.1 i.2.2 i.1) (fun i => 880 - i.1) (0, setsC, false) hA0 ?_ ?_
      · exact Cov.ofn (nm [0, 1, 2, 3]) rfl (by simp [go_sem, List.take_of_length_le, ren, ren1, ren2, okr, okr1, okr2, ChkT, ChkN, BlkN, nf, grammarC]) (by simp [go_sem, List.take_of_length_le, ren, ren1, ren2, okr, okr1, okr2, ChkT, ChkN, BlkN, nf, grammarC])
      rintro ⟨k, sets, again⟩ hA
      dsimp only at hA ⊢
      have stepk : wr64 ((k : Int) + 1) = ((k + 1 : Nat) : Int) := wr64_id (by have := hA.kl; omega) (by have := hA.kl; have := hA.ps.snd.few hg hw p; omega)
      have hl : sets.length = N := by rw [hA.ps.snd.ln, hN]
      have hpl : p < sets.length := by omega
      have hs := at3_get hpl
      have hfew := hA.ps.snd.few hg hw p
      have hkl := hA.kl
      have hokS : ∀ x ∈ at3 sets p, okI g w p x := fun x hx => hA.ps.snd.ok p x hx
      repeat' first | (refine Holds.condT ?_ ?_; (· (simp [go_sem, List.take_of_length_le, hltp, hpl, get_E hs, hs, itemO] <;> with_reducible rfl))) | (refine Holds.condF ?_ ?_; (· (simp [go_sem, List.take_of_length_le, hltp, hpl, get_E hs, hs, itemO] <;> with_reducible rfl))) | refine Holds.seq ?_ | refine Holds.skip ?_ | refine Holds.exit ?_ | refine Holds.ret ?_ | refine thenA_normal ?_ | refine thenA_exit ?_ | refine thenA_ret ?_ | refine inB_normal ?_ | refine inB_ret ?_ | refine inB_here ?_ | (refine inB_past ?_ ?_; (· exact rfl)) | refine Holds.reg ?_ | refine Holds.block ?_ | refine GS.nil ?_ | refine Gd.nil ?_ | (refine Holds.any mixed ?_ ?_; (· kernel_rfl)) | (refine GS.step (s' := ?_) ?_ ?_ ?_; rotate_left; (· exact rfl); (· (simp [go_sem, List.take_of_length_le, hltp, hpl, get_E hs, hs, itemO] <;> with_reducible rfl))) | (refine GS.skip ?_ ?_ ?_; (· exact rfl); (· exact rfl)) | (refine Gd.go (s' := ?_) ?_ ?_ ?_; rotate_left; (· exact rfl); (· (simp [go_sem, List.take_of_length_le, hltp, hpl, get_E hs, hs, itemO] <;> with_reducible rfl))) | (refine Gd.skip ?_ ?_ ?_; (· exact rfl); (· exact rfl)) | fail
      refine Holds.cond rfl (fun h => ?_) (fun h => ?_)
      · have hltk : k < (at3 sets p).length := by simp at h; omega
        first | (refine Holds.close 1 p 0 (s' := ?_) rfl (set_get (iGet hs)) rfl rfl rfl rfl (by simp) (by simp [nf]) ?_ ?_; rotate_left; (· (simp [go_sem, List.take_of_length_le, List.set_set, iSet hs] <;> with_reducible rfl))) | (refine GS.close 1 p 0 (s' := ?_) rfl (set_get (iGet hs)) rfl rfl (by exact rfl) (by exact rfl) (by simp) (by simp [nf]) ?_ ?_; rotate_left; (· (simp [go_sem, List.take_of_length_le, List.set_set, iSet hs] <;> with_reducible rfl)))
        have hxk : (at3 sets p)[k]? = some (at3 sets p)[k] := List.getElem?_eq_getElem hltk
        have hox := hokS _ (List.getElem_mem hltk)
        generalize (at3 sets p)[k] = x at hxk hox
        obtain ⟨r, d, f, rfl, hEar⟩ := id hox
        have hb := hEar.bnd
        have hfl : f < sets.length := by omega
        have hxf : (itemN r d f).2.2.toNat = f := by simp [itemN]
        have hR4 := hg4 r hb.1
        have hrr := ruleN_at hb.1
        have hwd : wr64 ((d : Int) + 1) = (d : Int) + 1 := wr64_id (by omega) (by omega)
        have hxs : ∀ T : List Item3, T[k]? = some (itemN r d f) → T[k]? = some ((r : Int), (d : Int), (f : Int)) := fun T h => h
        have hxk2 := hxs _ hxk
        have hsym := symAt_N g r d f
        have hrg : (itemN r d f).1.toNat = r := by simp [itemN]
        generalize hSS : at3 sets p = S at hs hxk hxk2 hltk hfew hokS ⊢
        repeat' first | (refine Holds.condT ?_ ?_; (· (simp [go_sem, List.take_of_length_le, hltp, hpl, get_E hs, hs, itemO, get_E hxk2, hxk2, hltk, nodeC] <;> with_reducible rfl))) | (refine Holds.condF ?_ ?_; (· (simp [go_sem, List.take_of_length_le, hltp, hpl, get_E hs, hs, itemO, get_E hxk2, hxk2, hltk, nodeC] <;> with_reducible rfl))) | refine Holds.seq ?_ | refine Holds.skip ?_ | refine Holds.exit ?_ | refine Holds.ret ?_ | refine thenA_normal ?_ | refine thenA_exit ?_ | refine thenA_ret ?_ | refine inB_normal ?_ | refine inB_ret ?_ | refine inB_here ?_ | (refine inB_past ?_ ?_; (· exact rfl)) | refine Holds.reg ?_ | refine Holds.block ?_ | refine GS.nil ?_ | refine Gd.nil ?_ | (refine Holds.any mixed ?_ ?_; (· kernel_rfl)) | (refine GS.stepD 47 (s' := ?_) rfl ?_ ?_ ?_; rotate_left; (· exact rfl); (· (simp [go_sem, List.take_of_length_le, hltp, hpl, get_E hs, hs, itemO, get_E hxk2, hxk2, hltk, nodeC] <;> with_reducible rfl))) | (refine GS.skip ?_ ?_ ?_; (· exact rfl); (· exact rfl)) | (refine Gd.go (s' := ?_) ?_ ?_ ?_; rotate_left; (· exact rfl); (· (simp [go_sem, List.take_of_length_le, hltp, hpl, get_E hs, hs, itemO, get_E hxk2, hxk2, hltk, nodeC] <;> with_reducible rfl))) | (refine Gd.skip ?_ ?_ ?_; (· exact rfl); (· exact rfl)) | fail
        first | (refine Holds.close 1 p 0 (s' := ?_) rfl (set_get (iGet hs)) rfl rfl rfl rfl (by simp) (by simp [nf]) ?_ ?_; rotate_left; (· (simp [go_sem, List.take_of_length_le, List.set_set, iSet hs] <;> with_reducible rfl))) | (refine GS.close 1 p 0 (s' := ?_) rfl (set_get (iGet hs)) rfl rfl (by exact rfl) (by exact rfl) (by simp) (by simp [nf]) ?_ ?_; rotate_left; (· (simp [go_sem, List.take_of_length_le, List.set_set, iSet hs] <;> with_reducible rfl)))
        repeat' first | (refine Holds.condT ?_ ?_; (· (simp [go_sem, List.take_of_length_le, get_E hrr, hrr, hb.1, ruleC, hwd, nodeC, grammarC] <;> with_reducible rfl))) | (refine Holds.condF ?_ ?_; (· (simp [go_sem, List.take_of_length_le, get_E hrr, hrr, hb.1, ruleC, hwd, nodeC, grammarC] <;> with_reducible rfl))) | refine Holds.seq ?_ | refine Holds.skip ?_ | refine Holds.exit ?_ | refine Holds.ret ?_ | refine thenA_normal ?_ | refine thenA_exit ?_ | refine thenA_ret ?_ | refine inB_normal ?_ | refine inB_ret ?_ | refine inB_here ?_ | (refine inB_past ?_ ?_; (· exact rfl)) | refine Holds.reg ?_ | refine Holds.block ?_ | refine GS.nil ?_ | refine Gd.nil ?_ | (refine Holds.any mixed ?_ ?_; (· kernel_rfl)) | (refine GS.step (s' := ?_) ?_ ?_ ?_; rotate_left; (· exact rfl); (· (simp [go_sem, List.take_of_length_le, get_E hrr, hrr, hb.1, ruleC, hwd, nodeC, grammarC] <;> with_reducible rfl))) | (refine GS.skip ?_ ?_ ?_; (· exact rfl); (· exact rfl)) | (refine Gd.go (s' := ?_) ?_ ?_ ?_; rotate_left; (· exact rfl); (· (simp [go_sem, List.take_of_length_le, get_E hrr, hrr, hb.1, ruleC, hwd, nodeC, grammarC] <;> with_reducible rfl))) | (refine Gd.skip ?_ ?_ ?_; (· exact rfl); (· exact rfl)) | fail
        by_cases hdl : d = (ruleN g r).2.length
        · have hdl' : ((d : Int) == ((ruleN g r).2.length : Int)) = true := by simp; omega
          have hdl2 : (d : Int) = ((ruleN g r).2.length : Int) := by omega
          have hnone : symAt g (itemN r d f) = none := by rw [hsym]; exact List.getElem?_eq_none (by omega)
          subst hSS
          repeat' first | (refine Holds.condT ?_ ?_; (· (simp [go_sem, List.take_of_length_le, hdl, hdl', hdl2] <;> with_reducible rfl))) | (refine Holds.condF ?_ ?_; (· (simp [go_sem, List.take_of_length_le, hdl, hdl', hdl2] <;> with_reducible rfl))) | refine Holds.seq ?_ | refine Holds.skip ?_ | refine Holds.exit ?_ | refine Holds.ret ?_ | refine thenA_normal ?_ | refine thenA_exit ?_ | refine thenA_ret ?_ | refine inB_normal ?_ | refine inB_ret ?_ | refine inB_here ?_ | (refine inB_past ?_ ?_; (· exact rfl)) | refine Holds.reg ?_ | refine Holds.block ?_ | refine GS.nil ?_ | refine Gd.nil ?_ | (refine Holds.any mixed ?_ ?_; (· kernel_rfl)) | (refine GS.step (s' := ?_) ?_ ?_ ?_; rotate_left; (· exact rfl); (· (simp [go_sem, List.take_of_length_le, hdl, hdl', hdl2] <;> with_reducible rfl))) | (refine GS.skip ?_ ?_ ?_; (· exact rfl); (· exact rfl)) | (refine Gd.go (s' := ?_) ?_ ?_ ?_; rotate_left; (· exact rfl); (· (simp [go_sem, List.take_of_length_le, hdl, hdl', hdl2] <;> with_reducible rfl))) | (refine Gd.skip ?_ ?_ ?_; (· exact rfl); (· exact rfl)) | fail
          refine Holds.loop (ι := Nat × Sets3 × Bool) (fun i => ⟨[(1, .im 1 (ints w)), (2, .pb 0 3 0 0), (5, .pb 2 1 0 0), (6, .pb 3 1 0 0), (7, .fn 67 [.pb 0 3 0 0, .pb 3 1 0 0]), (26, .v (.int .i64 N)), (27, .v (.int .i64 p)), (8, .v (.int .i64 p)), (9, .v (.bool i.2.2)), (10, .v (.int .i64 k)), (11, .pb 4 3 0 0), (12, .pb 5 2 0 0), (14, .v (.int .i64 i.1))], [(0, ⟨31, 3, [grammarC g]⟩), (1, ⟨39, 1, itemssO i.2.1⟩), (2, ⟨57, 1, [[.own 1 1 0 N]]⟩), (3, ⟨87, 1, [[.fn 65 [.pb 2 1 0 0]]]⟩), (4, ⟨56, 3, [nodeC (itemN r d f)]⟩), (5, ⟨60, 2, [ruleC (ruleN g r)]⟩)], 6⟩)
            (fun i => PassA g w p S0 i.2.1 i.2.2 k ∧ (at3 i.2.1 p)[k]? = some (itemN r d f) ∧ i.1 ≤ (at3 i.2.1 f).length ∧ ∀ (j : Nat) (z : Item3), j < i.1 → (at3 i.2.1 f)[j]? = some z → symAt g z = some (ruleN g r).1 → advI z ∈ at3 i.2.1 p) (fun i => 880 - i.1) (0, sets, again) ⟨hA, hxk, Nat.zero_le _, fun j z hj => absurd hj (Nat.not_lt_zero j)⟩ ?_ ?_
          · exact Cov.ofn (nm [0, 1, 2, 3, 6, 7]) rfl (by simp [go_sem, List.take_of_length_le, ren, ren1, ren2, okr, okr1, okr2, ChkT, ChkN, BlkN, nf, grammarC, nodeC, itemN, ruleC, hdl2]) (by simp [go_sem, List.take_of_length_le, ren, ren1, ren2, okr, okr1, okr2, ChkT, ChkN, BlkN, nf, grammarC, nodeC, itemN, ruleC, hdl2])
          rintro ⟨m, setsM, againM⟩ ⟨hM, hxM, hmM, hzM⟩
          dsimp only at hM hxM hmM hzM ⊢
          have hlM : setsM.length = N := by rw [hM.ps.snd.ln, hN]
          have hfM : f < setsM.length := by omega
          have hfN : f < N := by omega
          have hpM : p < setsM.length := by omega
          have hsM := at3_get hfM
          have hfewM := hM.ps.snd.few hg hw f
          have hfewP := hM.ps.snd.few hg hw p
          have stepm : wr64 ((m : Int) + 1) = ((m + 1 : Nat) : Int) := wr64_id (by omega) (by omega)
          have hokM : ∀ z ∈ at3 setsM f, okI g w f z := fun z hz => hM.ps.snd.ok f z hz
          have hoxM : okI g w p (itemN r d f) := ⟨r, d, f, rfl, hEar⟩
          repeat' first | (refine Holds.condT ?_ ?_; (· (simp [go_sem, List.take_of_length_le, hfN, hfM, get_E hsM, hsM, itemO, nodeC, itemN] <;> with_reducible rfl))) | (refine Holds.condF ?_ ?_; (· (simp [go_sem, List.take_of_length_le, hfN, hfM, get_E hsM, hsM, itemO, nodeC, itemN] <;> with_reducible rfl))) | refine Holds.seq ?_ | refine Holds.skip ?_ | refine Holds.exit ?_ | refine Holds.ret ?_ | refine thenA_normal ?_ | refine thenA_exit ?_ | refine thenA_ret ?_ | refine inB_normal ?_ | refine inB_ret ?_ | refine inB_here ?_ | (refine inB_past ?_ ?_; (· exact rfl)) | refine Holds.reg ?_ | refine Holds.block ?_ | refine GS.nil ?_ | refine Gd.nil ?_ | (refine Holds.any mixed ?_ ?_; (· kernel_rfl)) | (refine GS.step (s' := ?_) ?_ ?_ ?_; rotate_left; (· exact rfl); (· (simp [go_sem, List.take_of_length_le, hfN, hfM, get_E hsM, hsM, itemO, nodeC, itemN] <;> with_reducible rfl))) | (refine GS.skip ?_ ?_ ?_; (· exact rfl); (· exact rfl)) | (refine Gd.go (s' := ?_) ?_ ?_ ?_; rotate_left; (· exact rfl); (· (simp [go_sem, List.take_of_length_le, hfN, hfM, get_E hsM, hsM, itemO, nodeC, itemN] <;> with_reducible rfl))) | (refine Gd.skip ?_ ?_ ?_; (· exact rfl); (· exact rfl)) | fail
          refine Holds.cond rfl (fun h => ?_) (fun h => ?_)
          · have hltm : m < (at3 setsM f).length := by simp at h; omega
            first | (refine Holds.close 1 f 0 (s' := ?_) rfl (set_get (iGet hsM)) rfl rfl rfl rfl (by simp) (by simp [nf]) ?_ ?_; rotate_left; (· (simp [go_sem, List.take_of_length_le, List.set_set, iSet hsM] <;> with_reducible rfl))) | (refine GS.close 1 f 0 (s' := ?_) rfl (set_get (iGet hsM)) rfl rfl (by exact rfl) (by exact rfl) (by simp) (by simp [nf]) ?_ ?_; rotate_left; (· (simp [go_sem, List.take_of_length_le, List.set_set, iSet hsM] <;> with_reducible rfl)))
            have hym : (at3 setsM f)[m]? = some (at3 setsM f)[m] := List.getElem?_eq_getElem hltm
            have hoy := hokM _ (List.getElem_mem hltm)
            generalize (at3 setsM f)[m] = y at hym hoy
            obtain ⟨r2, d2, f2, rfl, hEar2⟩ := id hoy
            have hb2 := hEar2.bnd
            have hrr2 := ruleN_at hb2.1
            have hR24 := hg4 r2 hb2.1
            have hwd2 : wr64 ((d2 : Int) + 1) = (d2 : Int) + 1 := wr64_id (by omega) (by omega)
            have hym2 : (at3 setsM f)[m]? = some ((r2 : Int), (d2 : Int), (f2 : Int)) := hym
            have hsym2 := symAt_N g r2 d2 f2
            have snoc : ∀ {T : List Item3}, (∀ (j : Nat) (z : Item3), j < m → (at3 setsM f)[j]? = some z → symAt g z = some (ruleN g r).1 → advI z ∈ T) → (symAt g (itemN r2 d2 f2) = some (ruleN g r).1 → advI (itemN r2 d2 f2) ∈ T) → ∀ (j : Nat) (z : Item3), j < m + 1 → (at3 setsM f)[j]? = some z → symAt g z = some (ruleN g r).1 → advI z ∈ T := fun hc h1 j z hj hz hsz => by
              by_cases e : j = m
              · subst e; rw [hym] at hz; injection hz with hz; subst hz; exact h1 hsz
              · exact hc j z (by omega) hz hsz
            have hm880 : m < 880 := by omega
            have hlm1 : m + 1 ≤ (at3 setsM f).length := hltm
            generalize hFF : at3 setsM f = F at hsM hym hym2 hltm
            repeat' first | (refine Holds.condT ?_ ?_; (· (simp [go_sem, List.take_of_length_le, hfN, hfM, get_E hsM, hsM, itemO, get_E hym2, hym2, hltm, nodeC, itemN] <;> with_reducible rfl))) | (refine Holds.condF ?_ ?_; (· (simp [go_sem, List.take_of_length_le, hfN, hfM, get_E hsM, hsM, itemO, get_E hym2, hym2, hltm, nodeC, itemN] <;> with_reducible rfl))) | refine Holds.seq ?_ | refine Holds.skip ?_ | refine Holds.exit ?_ | refine Holds.ret ?_ | refine thenA_normal ?_ | refine thenA_exit ?_ | refine thenA_ret ?_ | refine inB_normal ?_ | refine inB_ret ?_ | refine inB_here ?_ | (refine inB_past ?_ ?_; (· exact rfl)) | refine Holds.reg ?_ | refine Holds.block ?_ | refine GS.nil ?_ | refine Gd.nil ?_ | (refine Holds.any mixed ?_ ?_; (· kernel_rfl)) | (refine GS.stepD 86 (s' := ?_) rfl ?_ ?_ ?_; rotate_left; (· exact rfl); (· (simp [go_sem, List.take_of_length_le, hfN, hfM, get_E hsM, hsM, itemO, get_E hym2, hym2, hltm, nodeC, itemN] <;> with_reducible rfl))) | (refine GS.skip ?_ ?_ ?_; (· exact rfl); (· exact rfl)) | (refine Gd.go (s' := ?_) ?_ ?_ ?_; rotate_left; (· exact rfl); (· (simp [go_sem, List.take_of_length_le, hfN, hfM, get_E hsM, hsM, itemO, get_E hym2, hym2, hltm, nodeC, itemN] <;> with_reducible rfl))) | (refine Gd.skip ?_ ?_ ?_; (· exact rfl); (· exact rfl)) | fail
            first | (refine Holds.close 1 f 0 (s' := ?_) rfl (set_get (iGet hsM)) rfl rfl rfl rfl (by simp) (by simp [nf]) ?_ ?_; rotate_left; (· (simp [go_sem, List.take_of_length_le, List.set_set, iSet hsM] <;> with_reducible rfl))) | (refine GS.close 1 f 0 (s' := ?_) rfl (set_get (iGet hsM)) rfl rfl (by exact rfl) (by exact rfl) (by simp) (by simp [nf]) ?_ ?_; rotate_left; (· (simp [go_sem, List.take_of_length_le, List.set_set, iSet hsM] <;> with_reducible rfl)))
            by_cases hd2 : d2 < (ruleN g r2).2.length
            · have hd2' : (d2 : Int) < ((ruleN g r2).2.length : Int) := by omega
              have hsx : (ruleN g r2).2[d2]? = some (ruleN g r2).2[d2] := List.getElem?_eq_getElem hd2
              generalize (ruleN g r2).2[d2] = sy at hsx
              rw [hsx] at hsym2
              by_cases hsl : sy = (ruleN g r).1
              · have hsl' : (sy == (ruleN g r).1) = true := by simp [hsl]
                have hoa : okI g w p (itemN r2 (d2 + 1) f2) := ⟨r2, d2 + 1, f2, rfl, .comp p r d f r2 d2 f2 hEar hdl.symm hEar2 (by rw [hsx, hsl])⟩
                have cp := put1 setsM p (itemN r2 (d2 + 1) f2) hpM (by omega)
                rw [hlM] at cp
                have hM2 := hM.put hpM hoa
                have hgr := Grow.put hpM (itemN r2 (d2 + 1) f2)
                have hin : itemN r2 (d2 + 1) f2 ∈ at3 (putAt setsM p (itemN r2 (d2 + 1) f2)) p := by rw [putAt, at3_set hpM]; exact ((putA_R _ _).mem _).2 (.inl rfl)
                have hx2 := hgr.2 p k _ hxM
                have hz2 : ∀ (j : Nat) (z : Item3), j < m + 1 → (at3 (putAt setsM p (itemN r2 (d2 + 1) f2)) f)[j]? = some z → symAt g z = some (ruleN g r).1 → advI z ∈ at3 (putAt setsM p (itemN r2 (d2 + 1) f2)) p := fun j z hj hz hsz => by
                  have hlt2 : j < (at3 setsM f).length := by omega
                  have e := hgr.2 f j _ (List.getElem?_eq_getElem hlt2)
                  rw [hz] at e
                  injection e with e
                  refine snoc (T := at3 (putAt setsM p (itemN r2 (d2 + 1) f2)) p) (fun j z hj hz hsz => hgr.mem (hzM j z hj hz hsz)) (fun _ => by rw [advI_N]; exact hin) j z hj ?_ hsz
                  rw [List.getElem?_eq_getElem hlt2, e]
                have hlen2 : m + 1 ≤ (at3 (putAt setsM p (itemN r2 (d2 + 1) f2)) f).length := by have := hgr.len f; omega
                generalize hfr : decide (itemN r2 (d2 + 1) f2 ∉ at3 setsM p) = fr at cp hM2
                generalize putAt setsM p (itemN r2 (d2 + 1) f2) = sets2 at cp hM2 hx2 hz2 hlen2
                have hd1 : ((d2 + 1 : Nat) : Int) = (d2 : Int) + 1 := by omega
                simp only [itemN, nodeC, hd1] at cp
                repeat' first | (refine Holds.condT ?_ ?_; (· (simp [go_sem, List.take_of_length_le, get_E hrr2, hrr2, hb2.1, ruleC, nodeC, itemN, grammarC] <;> with_reducible rfl))) | (refine Holds.condF ?_ ?_; (· (simp [go_sem, List.take_of_length_le, get_E hrr2, hrr2, hb2.1, ruleC, nodeC, itemN, grammarC] <;> with_reducible rfl))) | refine Holds.seq ?_ | refine Holds.skip ?_ | refine Holds.exit ?_ | refine Holds.ret ?_ | refine thenA_normal ?_ | refine thenA_exit ?_ | refine thenA_ret ?_ | refine inB_normal ?_ | refine inB_ret ?_ | refine inB_here ?_ | (refine inB_past ?_ ?_; (· exact rfl)) | refine Holds.reg ?_ | refine Holds.block ?_ | refine GS.nil ?_ | refine Gd.nil ?_ | (refine GS.step (s' := ?_) ?_ ?_ ?_; rotate_left; (· exact rfl); (· (simp [go_sem, List.take_of_length_le, get_E hrr2, hrr2, hb2.1, ruleC, nodeC, itemN, grammarC] <;> with_reducible rfl))) | (refine GS.skip ?_ ?_ ?_; (· exact rfl); (· exact rfl)) | (refine Gd.go (s' := ?_) ?_ ?_ ?_; rotate_left; (· exact rfl); (· (simp [go_sem, List.take_of_length_le, get_E hrr2, hrr2, hb2.1, ruleC, nodeC, itemN, grammarC] <;> with_reducible rfl))) | (refine Gd.skip ?_ ?_ ?_; (· exact rfl); (· exact rfl)) | fail
                refine Holds.anx [25, 1026] [16, 17] (fun n => decide (7 ≤ n)) mixed ?_ ?_ ?_; (· kernel_rfl); (· kernel_rfl)
                repeat' first | (refine Holds.condT ?_ ?_; (· (simp [go_sem, List.take_of_length_le, hd2, hd2', get_E hsx, hsx, hsl', hwd2, ruleC, nodeC, itemN] <;> with_reducible rfl))) | (refine Holds.condF ?_ ?_; (· (simp [go_sem, List.take_of_length_le, hd2, hd2', get_E hsx, hsx, hsl', hwd2, ruleC, nodeC, itemN] <;> with_reducible rfl))) | refine Holds.seq ?_ | refine Holds.skip ?_ | refine Holds.exit ?_ | refine Holds.ret ?_ | refine thenA_normal ?_ | refine thenA_exit ?_ | refine thenA_ret ?_ | refine inB_normal ?_ | refine inB_ret ?_ | refine inB_here ?_ | (refine inB_past ?_ ?_; (· exact rfl)) | refine Holds.reg ?_ | refine Holds.block ?_ | refine GS.nil ?_ | refine Gd.nil ?_ | (refine GS.step (s' := ?_) ?_ ?_ ?_; rotate_left; (· exact rfl); (· (simp [go_sem, List.take_of_length_le, hd2, hd2', get_E hsx, hsx, hsl', hwd2, ruleC, nodeC, itemN] <;> with_reducible rfl))) | (refine GS.skip ?_ ?_ ?_; (· exact rfl); (· exact rfl)) | (refine Gd.go (s' := ?_) ?_ ?_ ?_; rotate_left; (· exact rfl); (· (simp [go_sem, List.take_of_length_le, hd2, hd2', get_E hsx, hsx, hsl', hwd2, ruleC, nodeC, itemN] <;> with_reducible rfl))) | (refine Gd.skip ?_ ?_ ?_; (· exact rfl); (· exact rfl)) | refine Gx.nil ?_ | (refine Gx.go (s' := ?_) rfl ?_ ?_ ?_; rotate_left; (· exact rfl); (· (simp [go_sem, List.take_of_length_le, hd2, hd2', get_E hsx, hsx, hsl', hwd2, ruleC, nodeC, itemN] <;> with_reducible rfl))) | (refine Gx.skip rfl ?_ ?_ ?_; (· exact rfl); (· exact rfl)) | (refine Gx.skipO rfl ?_ ?_ ?_; (· exact rfl); (· exact rfl)) | (refine Gx.wo (s' := ?_) rfl ?_ ?_ ?_; rotate_left; (· exact rfl); (· (simp [go_sem, List.take_of_length_le, hd2, hd2', get_E hsx, hsx, hsl', hwd2, ruleC, nodeC, itemN] <;> with_reducible rfl))) | (refine Gx.skipW rfl ?_ ?_ ?_; (· exact rfl); (· exact rfl)) | (refine Gx.skipH rfl ?_ ?_ ?_; (· exact rfl); (· exact rfl)) | (refine Gx.hid (r := ?_) rfl ?_ ?_ ?_ ?_; rotate_left; (· exact rfl); (· exact rfl); (· (simp [go_sem, List.take_of_length_le, hd2, hd2', get_E hsx, hsx, hsl', hwd2, ruleC, nodeC, itemN] <;> with_reducible rfl))) | (refine Gx.wr (s' := ?_) rfl ?_ ?_ ?_ ?_; rotate_left; (· exact rfl); (· (simp [go_sem, List.take_of_length_le, hd2, hd2', get_E hsx, hsx, hsl', hwd2, ruleC, nodeC, itemN] <;> with_reducible rfl)); (· (simp [go_sem, List.take_of_length_le, hd2, hd2', get_E hsx, hsx, hsl', hwd2, ruleC, nodeC, itemN]))) | fail
                first | refine GS.fnn [2, 1] (cp) rfl rfl rfl rfl (by simp [go_sem, List.take_of_length_le, ren, ren1, ren2, okr, okr1, okr2, ChkN, BlkN, List.range_succ, nf] <;> with_reducible rfl) (by simp [go_sem, List.take_of_length_le, ren, ren1, ren2, okr, okr1, okr2, ChkN, BlkN, List.range_succ, nf]) (by simp [go_sem, List.take_of_length_le, ren, ren1, ren2, okr, okr1, okr2, ChkN, BlkN, List.range_succ, nf]) (by simp [List.range_succ, lb]) (ChkN.toB (by simp [go_sem, List.take_of_length_le, ren, ren1, ren2, okr, okr1, okr2, ChkN, BlkN, List.range_succ, nf])) (by decide) (by simp) rfl (.okw (by simp [okr, okr1]) (.nfr (by simp) .nil)) (by simp [go_sem, List.take_of_length_le, ren, ren1, ren2, okr, okr1, okr2, ChkN, BlkN, List.range_succ, nf] <;> with_reducible rfl) ?_ | refine Gx.fnn [2, 1] (cp) rfl rfl rfl rfl rfl (by simp [go_sem, List.take_of_length_le, ren, ren1, ren2, okr, okr1, okr2, ChkN, BlkN, List.range_succ, nf] <;> with_reducible rfl) (by simp [go_sem, List.take_of_length_le, ren, ren1, ren2, okr, okr1, okr2, ChkN, BlkN, List.range_succ, nf]) (by simp [go_sem, List.take_of_length_le, ren, ren1, ren2, okr, okr1, okr2, ChkN, BlkN, List.range_succ, nf]) (by simp [List.range_succ, lb]) (ChkN.toB (by simp [go_sem, List.take_of_length_le, ren, ren1, ren2, okr, okr1, okr2, ChkN, BlkN, List.range_succ, nf])) (by decide) (by simp) rfl (.okw (by simp [okr, okr1]) (.nfr (by simp) .nil)) (by simp [go_sem, List.take_of_length_le, ren, ren1, ren2, okr, okr1, okr2, ChkN, BlkN, List.range_succ, nf]) (by simp [go_sem, List.take_of_length_le, ren, ren1, ren2, okr, okr1, okr2, ChkN, BlkN, List.range_succ, nf] <;> with_reducible rfl) ?_ | refine Gx.fnno [2, 1] (cp) rfl rfl rfl rfl rfl (by simp [go_sem, List.take_of_length_le, ren, ren1, ren2, okr, okr1, okr2, ChkN, BlkN, List.range_succ, nf] <;> with_reducible rfl) (by simp [go_sem, List.take_of_length_le, ren, ren1, ren2, okr, okr1, okr2, ChkN, BlkN, List.range_succ, nf]) (by simp [go_sem, List.take_of_length_le, ren, ren1, ren2, okr, okr1, okr2, ChkN, BlkN, List.range_succ, nf]) (by simp [List.range_succ, lb]) (ChkN.toB (by simp [go_sem, List.take_of_length_le, ren, ren1, ren2, okr, okr1, okr2, ChkN, BlkN, List.range_succ, nf])) (by decide) (by simp) rfl (.okw (by simp [okr, okr1]) (.nfr (by simp) .nil)) (by simp [go_sem, List.take_of_length_le, ren, ren1, ren2, okr, okr1, okr2, ChkN, BlkN, List.range_succ, nf] <;> with_reducible rfl) ?_
                cases fr with
                | true =>
                  rw [Bool.or_true] at hM2
                  repeat' first | (refine Holds.condT ?_ ?_; (· (simp [go_sem, List.take_of_length_le] <;> with_reducible rfl))) | (refine Holds.condF ?_ ?_; (· (simp [go_sem, List.take_of_length_le] <;> with_reducible rfl))) | refine Holds.seq ?_ | refine Holds.skip ?_ | refine Holds.exit ?_ | refine Holds.ret ?_ | refine thenA_normal ?_ | refine thenA_exit ?_ | refine thenA_ret ?_ | refine inB_normal ?_ | refine inB_ret ?_ | refine inB_here ?_ | (refine inB_past ?_ ?_; (· exact rfl)) | refine Holds.reg ?_ | refine Holds.block ?_ | refine GS.nil ?_ | refine Gd.nil ?_ | (refine GS.step (s' := ?_) ?_ ?_ ?_; rotate_left; (· exact rfl); (· (simp [go_sem, List.take_of_length_le] <;> with_reducible rfl))) | (refine GS.skip ?_ ?_ ?_; (· exact rfl); (· exact rfl)) | (refine Gd.go (s' := ?_) ?_ ?_ ?_; rotate_left; (· exact rfl); (· (simp [go_sem, List.take_of_length_le] <;> with_reducible rfl))) | (refine Gd.skip ?_ ?_ ?_; (· exact rfl); (· exact rfl)) | refine Gx.nil ?_ | (refine Gx.go (s' := ?_) rfl ?_ ?_ ?_; rotate_left; (· exact rfl); (· (simp [go_sem, List.take_of_length_le] <;> with_reducible rfl))) | (refine Gx.skip rfl ?_ ?_ ?_; (· exact rfl); (· exact rfl)) | (refine Gx.skipO rfl ?_ ?_ ?_; (· exact rfl); (· exact rfl)) | (refine Gx.wo (s' := ?_) rfl ?_ ?_ ?_; rotate_left; (· exact rfl); (· (simp [go_sem, List.take_of_length_le] <;> with_reducible rfl))) | (refine Gx.skipW rfl ?_ ?_ ?_; (· exact rfl); (· exact rfl)) | (refine Gx.skipH rfl ?_ ?_ ?_; (· exact rfl); (· exact rfl)) | (refine Gx.hid (r := ?_) rfl ?_ ?_ ?_ ?_; rotate_left; (· exact rfl); (· exact rfl); (· (simp [go_sem, List.take_of_length_le] <;> with_reducible rfl))) | (refine Gx.wr (s' := ?_) rfl ?_ ?_ ?_ ?_; rotate_left; (· exact rfl); (· (simp [go_sem, List.take_of_length_le] <;> with_reducible rfl)); (· (simp [go_sem, List.take_of_length_le]))) | fail
                  refine ⟨(m + 1, sets2, true), ⟨hM2, hx2, hlen2, hz2⟩, by dsimp only; omega, ?_⟩
                  rw [stepm]
                  exact Cov.ofn (nm [0, 1, 2, 3, 4, 5]) rfl (by simp [go_sem, List.take_of_length_le, ren, ren1, ren2, okr, okr1, okr2, ChkT, ChkN, BlkN, nf, grammarC, nodeC, itemN, ruleC]) (by simp [go_sem, List.take_of_length_le, ren, ren1, ren2, okr, okr1, okr2, ChkT, ChkN, BlkN, nf, grammarC, nodeC, itemN, ruleC])
                | false =>
                  rw [Bool.or_false] at hM2
                  repeat' first | (refine Holds.condT ?_ ?_; (· (simp [go_sem, List.take_of_length_le] <;> with_reducible rfl))) | (refine Holds.condF ?_ ?_; (· (simp [go_sem, List.take_of_length_le] <;> with_reducible rfl))) | refine Holds.seq ?_ | refine Holds.skip ?_ | refine Holds.exit ?_ | refine Holds.ret ?_ | refine thenA_normal ?_ | refine thenA_exit ?_ | refine thenA_ret ?_ | refine inB_normal ?_ | refine inB_ret ?_ | refine inB_here ?_ | (refine inB_past ?_ ?_; (· exact rfl)) | refine Holds.reg ?_ | refine Holds.block ?_ | refine GS.nil ?_ | refine Gd.nil ?_ | (refine GS.step (s' := ?_) ?_ ?_ ?_; rotate_left; (· exact rfl); (· (simp [go_sem, List.take_of_length_le] <;> with_reducible rfl))) | (refine GS.skip ?_ ?_ ?_; (· exact rfl); (· exact rfl)) | (refine Gd.go (s' := ?_) ?_ ?_ ?_; rotate_left; (· exact rfl); (· (simp [go_sem, List.take_of_length_le] <;> with_reducible rfl))) | (refine Gd.skip ?_ ?_ ?_; (· exact rfl); (· exact rfl)) | refine Gx.nil ?_ | (refine Gx.go (s' := ?_) rfl ?_ ?_ ?_; rotate_left; (· exact rfl); (· (simp [go_sem, List.take_of_length_le] <;> with_reducible rfl))) | (refine Gx.skip rfl ?_ ?_ ?_; (· exact rfl); (· exact rfl)) | (refine Gx.skipO rfl ?_ ?_ ?_; (· exact rfl); (· exact rfl)) | (refine Gx.wo (s' := ?_) rfl ?_ ?_ ?_; rotate_left; (· exact rfl); (· (simp [go_sem, List.take_of_length_le] <;> with_reducible rfl))) | (refine Gx.skipW rfl ?_ ?_ ?_; (· exact rfl); (· exact rfl)) | (refine Gx.skipH rfl ?_ ?_ ?_; (· exact rfl); (· exact rfl)) | (refine Gx.hid (r := ?_) rfl ?_ ?_ ?_ ?_; rotate_left; (· exact rfl); (· exact rfl); (· (simp [go_sem, List.take_of_length_le] <;> with_reducible rfl))) | (refine Gx.wr (s' := ?_) rfl ?_ ?_ ?_ ?_; rotate_left; (· exact rfl); (· (simp [go_sem, List.take_of_length_le] <;> with_reducible rfl)); (· (simp [go_sem, List.take_of_length_le]))) | fail
                  refine ⟨(m + 1, sets2, againM), ⟨hM2, hx2, hlen2, hz2⟩, by dsimp only; omega, ?_⟩
                  rw [stepm]
                  exact Cov.ofn (nm [0, 1, 2, 3, 4, 5]) rfl (by simp [go_sem, List.take_of_length_le, ren, ren1, ren2, okr, okr1, okr2, ChkT, ChkN, BlkN, nf, grammarC, nodeC, itemN, ruleC]) (by simp [go_sem, List.take_of_length_le, ren, ren1, ren2, okr, okr1, okr2, ChkT, ChkN, BlkN, nf, grammarC, nodeC, itemN, ruleC])
              · have hsl' : (sy == (ruleN g r).1) = false := by simp [hsl]
                have hz2 := snoc hzM (fun e => by rw [hsym2] at e; injection e with e; exact absurd e hsl)
                repeat' first | (refine Holds.condT ?_ ?_; (· (simp [go_sem, List.take_of_length_le, get_E hrr2, hrr2, hb2.1, ruleC, nodeC, itemN, grammarC] <;> with_reducible rfl))) | (refine Holds.condF ?_ ?_; (· (simp [go_sem, List.take_of_length_le, get_E hrr2, hrr2, hb2.1, ruleC, nodeC, itemN, grammarC] <;> with_reducible rfl))) | refine Holds.seq ?_ | refine Holds.skip ?_ | refine Holds.exit ?_ | refine Holds.ret ?_ | refine thenA_normal ?_ | refine thenA_exit ?_ | refine thenA_ret ?_ | refine inB_normal ?_ | refine inB_ret ?_ | refine inB_here ?_ | (refine inB_past ?_ ?_; (· exact rfl)) | refine Holds.reg ?_ | refine Holds.block ?_ | refine GS.nil ?_ | refine Gd.nil ?_ | (refine GS.step (s' := ?_) ?_ ?_ ?_; rotate_left; (· exact rfl); (· (simp [go_sem, List.take_of_length_le, get_E hrr2, hrr2, hb2.1, ruleC, nodeC, itemN, grammarC] <;> with_reducible rfl))) | (refine GS.skip ?_ ?_ ?_; (· exact rfl); (· exact rfl)) | (refine Gd.go (s' := ?_) ?_ ?_ ?_; rotate_left; (· exact rfl); (· (simp [go_sem, List.take_of_length_le, get_E hrr2, hrr2, hb2.1, ruleC, nodeC, itemN, grammarC] <;> with_reducible rfl))) | (refine Gd.skip ?_ ?_ ?_; (· exact rfl); (· exact rfl)) | refine Gx.nil ?_ | (refine Gx.go (s' := ?_) rfl ?_ ?_ ?_; rotate_left; (· exact rfl); (· (simp [go_sem, List.take_of_length_le, get_E hrr2, hrr2, hb2.1, ruleC, nodeC, itemN, grammarC] <;> with_reducible rfl))) | (refine Gx.skip rfl ?_ ?_ ?_; (· exact rfl); (· exact rfl)) | (refine Gx.skipO rfl ?_ ?_ ?_; (· exact rfl); (· exact rfl)) | (refine Gx.wo (s' := ?_) rfl ?_ ?_ ?_; rotate_left; (· exact rfl); (· (simp [go_sem, List.take_of_length_le, get_E hrr2, hrr2, hb2.1, ruleC, nodeC, itemN, grammarC] <;> with_reducible rfl))) | (refine Gx.skipW rfl ?_ ?_ ?_; (· exact rfl); (· exact rfl)) | (refine Gx.skipH rfl ?_ ?_ ?_; (· exact rfl); (· exact rfl)) | (refine Gx.hid (r := ?_) rfl ?_ ?_ ?_ ?_; rotate_left; (· exact rfl); (· exact rfl); (· (simp [go_sem, List.take_of_length_le, get_E hrr2, hrr2, hb2.1, ruleC, nodeC, itemN, grammarC] <;> with_reducible rfl))) | (refine Gx.wr (s' := ?_) rfl ?_ ?_ ?_ ?_; rotate_left; (· exact rfl); (· (simp [go_sem, List.take_of_length_le, get_E hrr2, hrr2, hb2.1, ruleC, nodeC, itemN, grammarC] <;> with_reducible rfl)); (· (simp [go_sem, List.take_of_length_le, get_E hrr2, hrr2, hb2.1, ruleC, nodeC, itemN, grammarC]))) | fail
                (refine Holds.any mixed ?_ ?_; (· kernel_rfl))
                repeat' first | (refine Holds.condT ?_ ?_; (· (simp [go_sem, List.take_of_length_le, hd2, hd2', get_E hsx, hsx, hsl', hwd2, ruleC, nodeC, itemN] <;> with_reducible rfl))) | (refine Holds.condF ?_ ?_; (· (simp [go_sem, List.take_of_length_le, hd2, hd2', get_E hsx, hsx, hsl', hwd2, ruleC, nodeC, itemN] <;> with_reducible rfl))) | refine Holds.seq ?_ | refine Holds.skip ?_ | refine Holds.exit ?_ | refine Holds.ret ?_ | refine thenA_normal ?_ | refine thenA_exit ?_ | refine thenA_ret ?_ | refine inB_normal ?_ | refine inB_ret ?_ | refine inB_here ?_ | (refine inB_past ?_ ?_; (· exact rfl)) | refine Holds.reg ?_ | refine Holds.block ?_ | refine GS.nil ?_ | refine Gd.nil ?_ | (refine GS.step (s' := ?_) ?_ ?_ ?_; rotate_left; (· exact rfl); (· (simp [go_sem, List.take_of_length_le, hd2, hd2', get_E hsx, hsx, hsl', hwd2, ruleC, nodeC, itemN] <;> with_reducible rfl))) | (refine GS.skip ?_ ?_ ?_; (· exact rfl); (· exact rfl)) | (refine Gd.go (s' := ?_) ?_ ?_ ?_; rotate_left; (· exact rfl); (· (simp [go_sem, List.take_of_length_le, hd2, hd2', get_E hsx, hsx, hsl', hwd2, ruleC, nodeC, itemN] <;> with_reducible rfl))) | (refine Gd.skip ?_ ?_ ?_; (· exact rfl); (· exact rfl)) | refine Gx.nil ?_ | (refine Gx.go (s' := ?_) rfl ?_ ?_ ?_; rotate_left; (· exact rfl); (· (simp [go_sem, List.take_of_length_le, hd2, hd2', get_E hsx, hsx, hsl', hwd2, ruleC, nodeC, itemN] <;> with_reducible rfl))) | (refine Gx.skip rfl ?_ ?_ ?_; (· exact rfl); (· exact rfl)) | (refine Gx.skipO rfl ?_ ?_ ?_; (· exact rfl); (· exact rfl)) | (refine Gx.wo (s' := ?_) rfl ?_ ?_ ?_; rotate_left; (· exact rfl); (· (simp [go_sem, List.take_of_length_le, hd2, hd2', get_E hsx, hsx, hsl', hwd2, ruleC, nodeC, itemN] <;> with_reducible rfl))) | (refine Gx.skipW rfl ?_ ?_ ?_; (· exact rfl); (· exact rfl)) | (refine Gx.skipH rfl ?_ ?_ ?_; (· exact rfl); (· exact rfl)) | (refine Gx.hid (r := ?_) rfl ?_ ?_ ?_ ?_; rotate_left; (· exact rfl); (· exact rfl); (· (simp [go_sem, List.take_of_length_le, hd2, hd2', get_E hsx, hsx, hsl', hwd2, ruleC, nodeC, itemN] <;> with_reducible rfl))) | (refine Gx.wr (s' := ?_) rfl ?_ ?_ ?_ ?_; rotate_left; (· exact rfl); (· (simp [go_sem, List.take_of_length_le, hd2, hd2', get_E hsx, hsx, hsl', hwd2, ruleC, nodeC, itemN] <;> with_reducible rfl)); (· (simp [go_sem, List.take_of_length_le, hd2, hd2', get_E hsx, hsx, hsl', hwd2, ruleC, nodeC, itemN]))) | fail
                refine ⟨(m + 1, setsM, againM), ⟨hM, hxM, hlm1, hz2⟩, by dsimp only; omega, ?_⟩
                rw [stepm]
                exact Cov.ofn (nm [0, 1, 2, 3, 4, 5]) rfl (by simp [go_sem, List.take_of_length_le, ren, ren1, ren2, okr, okr1, okr2, ChkT, ChkN, BlkN, nf, grammarC, nodeC, itemN, ruleC]) (by simp [go_sem, List.take_of_length_le, ren, ren1, ren2, okr, okr1, okr2, ChkT, ChkN, BlkN, nf, grammarC, nodeC, itemN, ruleC])
            · have hd2' : ¬ (d2 : Int) < ((ruleN g r2).2.length : Int) := by omega
              rw [List.getElem?_eq_none (by omega)] at hsym2
              have hz2 := snoc hzM (fun e => by rw [hsym2] at e; cases e)
              repeat' first | (refine Holds.condT ?_ ?_; (· (simp [go_sem, List.take_of_length_le, get_E hrr2, hrr2, hb2.1, ruleC, nodeC, itemN, grammarC] <;> with_reducible rfl))) | (refine Holds.condF ?_ ?_; (· (simp [go_sem, List.take_of_length_le, get_E hrr2, hrr2, hb2.1, ruleC, nodeC, itemN, grammarC] <;> with_reducible rfl))) | refine Holds.seq ?_ | refine Holds.skip ?_ | refine Holds.exit ?_ | refine Holds.ret ?_ | refine thenA_normal ?_ | refine thenA_exit ?_ | refine thenA_ret ?_ | refine inB_normal ?_ | refine inB_ret ?_ | refine inB_here ?_ | (refine inB_past ?_ ?_; (· exact rfl)) | refine Holds.reg ?_ | refine Holds.block ?_ | refine GS.nil ?_ | refine Gd.nil ?_ | (refine GS.step (s' := ?_) ?_ ?_ ?_; rotate_left; (· exact rfl); (· (simp [go_sem, List.take_of_length_le, get_E hrr2, hrr2, hb2.1, ruleC, nodeC, itemN, grammarC] <;> with_reducible rfl))) | (refine GS.skip ?_ ?_ ?_; (· exact rfl); (· exact rfl)) | (refine Gd.go (s' := ?_) ?_ ?_ ?_; rotate_left; (· exact rfl); (· (simp [go_sem, List.take_of_length_le, get_E hrr2, hrr2, hb2.1, ruleC, nodeC, itemN, grammarC] <;> with_reducible rfl))) | (refine Gd.skip ?_ ?_ ?_; (· exact rfl); (· exact rfl)) | refine Gx.nil ?_ | (refine Gx.go (s' := ?_) rfl ?_ ?_ ?_; rotate_left; (· exact rfl); (· (simp [go_sem, List.take_of_length_le, get_E hrr2, hrr2, hb2.1, ruleC, nodeC, itemN, grammarC] <;> with_reducible rfl))) | (refine Gx.skip rfl ?_ ?_ ?_; (· exact rfl); (· exact rfl)) | (refine Gx.skipO rfl ?_ ?_ ?_; (· exact rfl); (· exact rfl)) | (refine Gx.wo (s' := ?_) rfl ?_ ?_ ?_; rotate_left; (· exact rfl); (· (simp [go_sem, List.take_of_length_le, get_E hrr2, hrr2, hb2.1, ruleC, nodeC, itemN, grammarC] <;> with_reducible rfl))) | (refine Gx.skipW rfl ?_ ?_ ?_; (· exact rfl); (· exact rfl)) | (refine Gx.skipH rfl ?_ ?_ ?_; (· exact rfl); (· exact rfl)) | (refine Gx.hid (r := ?_) rfl ?_ ?_ ?_ ?_; rotate_left; (· exact rfl); (· exact rfl); (· (simp [go_sem, List.take_of_length_le, get_E hrr2, hrr2, hb2.1, ruleC, nodeC, itemN, grammarC] <;> with_reducible rfl))) | (refine Gx.wr (s' := ?_) rfl ?_ ?_ ?_ ?_; rotate_left; (· exact rfl); (· (simp [go_sem, List.take_of_length_le, get_E hrr2, hrr2, hb2.1, ruleC, nodeC, itemN, grammarC] <;> with_reducible rfl)); (· (simp [go_sem, List.take_of_length_le, get_E hrr2, hrr2, hb2.1, ruleC, nodeC, itemN, grammarC]))) | fail
              (refine Holds.any mixed ?_ ?_; (· kernel_rfl))
              repeat' first | (refine Holds.condT ?_ ?_; (· (simp [go_sem, List.take_of_length_le, hd2, hd2', ruleC, nodeC, itemN] <;> with_reducible rfl))) | (refine Holds.condF ?_ ?_; (· (simp [go_sem, List.take_of_length_le, hd2, hd2', ruleC, nodeC, itemN] <;> with_reducible rfl))) | refine Holds.seq ?_ | refine Holds.skip ?_ | refine Holds.exit ?_ | refine Holds.ret ?_ | refine thenA_normal ?_ | refine thenA_exit ?_ | refine thenA_ret ?_ | refine inB_normal ?_ | refine inB_ret ?_ | refine inB_here ?_ | (refine inB_past ?_ ?_; (· exact rfl)) | refine Holds.reg ?_ | refine Holds.block ?_ | refine GS.nil ?_ | refine Gd.nil ?_ | (refine GS.step (s' := ?_) ?_ ?_ ?_; rotate_left; (· exact rfl); (· (simp [go_sem, List.take_of_length_le, hd2, hd2', ruleC, nodeC, itemN] <;> with_reducible rfl))) | (refine GS.skip ?_ ?_ ?_; (· exact rfl); (· exact rfl)) | (refine Gd.go (s' := ?_) ?_ ?_ ?_; rotate_left; (· exact rfl); (· (simp [go_sem, List.take_of_length_le, hd2, hd2', ruleC, nodeC, itemN] <;> with_reducible rfl))) | (refine Gd.skip ?_ ?_ ?_; (· exact rfl); (· exact rfl)) | refine Gx.nil ?_ | (refine Gx.go (s' := ?_) rfl ?_ ?_ ?_; rotate_left; (· exact rfl); (· (simp [go_sem, List.take_of_length_le, hd2, hd2', ruleC, nodeC, itemN] <;> with_reducible rfl))) | (refine Gx.skip rfl ?_ ?_ ?_; (· exact rfl); (· exact rfl)) | (refine Gx.skipO rfl ?_ ?_ ?_; (· exact rfl); (· exact rfl)) | (refine Gx.wo (s' := ?_) rfl ?_ ?_ ?_; rotate_left; (· exact rfl); (· (simp [go_sem, List.take_of_length_le, hd2, hd2', ruleC, nodeC, itemN] <;> with_reducible rfl))) | (refine Gx.skipW rfl ?_ ?_ ?_; (· exact rfl); (· exact rfl)) | (refine Gx.skipH rfl ?_ ?_ ?_; (· exact rfl); (· exact rfl)) | (refine Gx.hid (r := ?_) rfl ?_ ?_ ?_ ?_; rotate_left; (· exact rfl); (· exact rfl); (· (simp [go_sem, List.take_of_length_le, hd2, hd2', ruleC, nodeC, itemN] <;> with_reducible rfl))) | (refine Gx.wr (s' := ?_) rfl ?_ ?_ ?_ ?_; rotate_left; (· exact rfl); (· (simp [go_sem, List.take_of_length_le, hd2, hd2', ruleC, nodeC, itemN] <;> with_reducible rfl)); (· (simp [go_sem, List.take_of_length_le, hd2, hd2', ruleC, nodeC, itemN]))) | fail
              refine ⟨(m + 1, setsM, againM), ⟨hM, hxM, hlm1, hz2⟩, by dsimp only; omega, ?_⟩
              rw [stepm]
              exact Cov.ofn (nm [0, 1, 2, 3, 4, 5]) rfl (by simp [go_sem, List.take_of_length_le, ren, ren1, ren2, okr, okr1, okr2, ChkT, ChkN, BlkN, nf, grammarC, nodeC, itemN, ruleC]) (by simp [go_sem, List.take_of_length_le, ren, ren1, ren2, okr, okr1, okr2, ChkT, ChkN, BlkN, nf, grammarC, nodeC, itemN, ruleC])
          · have hgem : (at3 setsM f).length ≤ m := by simp at h; omega
            have hnext := hM.next hxM ⟨fun y hy => (by rw [hnone] at hy; cases hy), fun _ z hz hsz => by
              rw [hxf] at hz
              rw [hrg] at hsz
              obtain ⟨j, hj, e⟩ := List.mem_iff_getElem.1 hz
              exact hzM j z (by omega) (by rw [List.getElem?_eq_getElem hj, e]) hsz⟩ (fun y hy => by rw [hnone] at hy; cases hy)
            first | (refine Holds.close 1 f 0 (s' := ?_) rfl (set_get (iGet hsM)) rfl rfl rfl rfl (by simp) (by simp [nf]) ?_ ?_; rotate_left; (· (simp [go_sem, List.take_of_length_le, List.set_set, iSet hsM] <;> with_reducible rfl))) | (refine GS.close 1 f 0 (s' := ?_) rfl (set_get (iGet hsM)) rfl rfl (by exact rfl) (by exact rfl) (by simp) (by simp [nf]) ?_ ?_; rotate_left; (· (simp [go_sem, List.take_of_length_le, List.set_set, iSet hsM] <;> with_reducible rfl)))
            repeat' first | (refine Holds.condT ?_ ?_; (· (simp [go_sem, List.take_of_length_le] <;> with_reducible rfl))) | (refine Holds.condF ?_ ?_; (· (simp [go_sem, List.take_of_length_le] <;> with_reducible rfl))) | refine Holds.seq ?_ | refine Holds.skip ?_ | refine Holds.exit ?_ | refine Holds.ret ?_ | refine thenA_normal ?_ | refine thenA_exit ?_ | refine thenA_ret ?_ | refine inB_normal ?_ | refine inB_ret ?_ | refine inB_here ?_ | (refine inB_past ?_ ?_; (· exact rfl)) | refine Holds.reg ?_ | refine Holds.block ?_ | refine GS.nil ?_ | refine Gd.nil ?_ | (refine Holds.any mixed ?_ ?_; (· kernel_rfl)) | (refine GS.step (s' := ?_) ?_ ?_ ?_; rotate_left; (· exact rfl); (· (simp [go_sem, List.take_of_length_le] <;> with_reducible rfl))) | (refine GS.skip ?_ ?_ ?_; (· exact rfl); (· exact rfl)) | (refine Gd.go (s' := ?_) ?_ ?_ ?_; rotate_left; (· exact rfl); (· (simp [go_sem, List.take_of_length_le] <;> with_reducible rfl))) | (refine Gd.skip ?_ ?_ ?_; (· exact rfl); (· exact rfl)) | refine Gx.nil ?_ | (refine Gx.go (s' := ?_) rfl ?_ ?_ ?_; rotate_left; (· exact rfl); (· (simp [go_sem, List.take_of_length_le] <;> with_reducible rfl))) | (refine Gx.skip rfl ?_ ?_ ?_; (· exact rfl); (· exact rfl)) | (refine Gx.skipO rfl ?_ ?_ ?_; (· exact rfl); (· exact rfl)) | (refine Gx.wo (s' := ?_) rfl ?_ ?_ ?_; rotate_left; (· exact rfl); (· (simp [go_sem, List.take_of_length_le] <;> with_reducible rfl))) | (refine Gx.skipW rfl ?_ ?_ ?_; (· exact rfl); (· exact rfl)) | (refine Gx.skipH rfl ?_ ?_ ?_; (· exact rfl); (· exact rfl)) | (refine Gx.hid (r := ?_) rfl ?_ ?_ ?_ ?_; rotate_left; (· exact rfl); (· exact rfl); (· (simp [go_sem, List.take_of_length_le] <;> with_reducible rfl))) | (refine Gx.wr (s' := ?_) rfl ?_ ?_ ?_ ?_; rotate_left; (· exact rfl); (· (simp [go_sem, List.take_of_length_le] <;> with_reducible rfl)); (· (simp [go_sem, List.take_of_length_le]))) | fail
            refine ⟨(k + 1, setsM, againM), hnext, by dsimp only; omega, ?_⟩
            rw [stepk]
            exact Cov.ofn (nm [0, 1, 2, 3]) rfl (by simp [go_sem, List.take_of_length_le, ren, ren1, ren2, okr, okr1, okr2, ChkT, ChkN, BlkN, nf, grammarC]) (by simp [go_sem, List.take_of_length_le, ren, ren1, ren2, okr, okr1, okr2, ChkT, ChkN, BlkN, nf, grammarC])
        · have hdlt : d < (ruleN g r).2.length := by omega
          have hdl' : ((d : Int) == ((ruleN g r).2.length : Int)) = false := by simp; omega
          have hdl2 : ¬ (d : Int) = ((ruleN g r).2.length : Int) := by omega
          have hsx : (ruleN g r).2[d]? = some (ruleN g r).2[d] := List.getElem?_eq_getElem hdlt
          have hsb := good_sym hg hb.1 (List.getElem_mem hdlt)
          generalize (ruleN g r).2[d] = sy at hsx hsb
          rw [hsx] at hsym
          subst hSS
          have hCC : CloC g (at3 sets (itemN r d f).2.2.toNat) (at3 sets p) (itemN r d f) := fun e => by rw [hsym] at e; cases e
          by_cases hsy : 0 ≤ sy
          · have cb := beg1 g hG sets p sy hpl hfew
            rw [hl] at cb
            obtain ⟨g1, g2, g3⟩ := begF_ok (w := w) (g := g) (non := sy) hpl g.2.2.length
            have hA2 := g3 hA (fun r2 hr2 hl2 => ⟨r2, 0, p, rfl, .pred p r d f sy r2 hEar hsx hsy hr2 hl2⟩)
            generalize begF g p sy sets g.2.2.length = B at cb g1 g2 hA2
            obtain ⟨sets2, b2⟩ := B
            dsimp only at cb g1 g2 hA2
            have hnext := hA2.next (g1.2 p k _ hxk) ⟨fun y hy h0 r2 hr2 hl2 => by rw [hsym] at hy; injection hy with hy; subst hy; exact g2 r2 hr2 hl2, fun e => by rw [hsym] at e; cases e⟩ (fun y hy h0 => by rw [hsym] at hy; injection hy with hy; subst hy; omega)
            simp only [grammarC] at cb
            repeat' first | (refine Holds.condT ?_ ?_; (· (simp [go_sem, List.take_of_length_le, hdl, hdl', hdl2, hdlt, get_E hsx, hsx, hsy, ruleC] <;> with_reducible rfl))) | (refine Holds.condF ?_ ?_; (· (simp [go_sem, List.take_of_length_le, hdl, hdl', hdl2, hdlt, get_E hsx, hsx, hsy, ruleC] <;> with_reducible rfl))) | refine Holds.seq ?_ | refine Holds.skip ?_ | refine Holds.exit ?_ | refine Holds.ret ?_ | refine thenA_normal ?_ | refine thenA_exit ?_ | refine thenA_ret ?_ | refine inB_normal ?_ | refine inB_ret ?_ | refine inB_here ?_ | (refine inB_past ?_ ?_; (· exact rfl)) | refine Holds.reg ?_ | refine Holds.block ?_ | refine GS.nil ?_ | refine Gd.nil ?_ | (refine Holds.any mixed ?_ ?_; (· kernel_rfl)) | (refine GS.step (s' := ?_) ?_ ?_ ?_; rotate_left; (· exact rfl); (· (simp [go_sem, List.take_of_length_le, hdl, hdl', hdl2, hdlt, get_E hsx, hsx, hsy, ruleC] <;> with_reducible rfl))) | (refine GS.skip ?_ ?_ ?_; (· exact rfl); (· exact rfl)) | (refine Gd.go (s' := ?_) ?_ ?_ ?_; rotate_left; (· exact rfl); (· (simp [go_sem, List.take_of_length_le, hdl, hdl', hdl2, hdlt, get_E hsx, hsx, hsy, ruleC] <;> with_reducible rfl))) | (refine Gd.skip ?_ ?_ ?_; (· exact rfl); (· exact rfl)) | refine Gx.nil ?_ | (refine Gx.go (s' := ?_) rfl ?_ ?_ ?_; rotate_left; (· exact rfl); (· (simp [go_sem, List.take_of_length_le, hdl, hdl', hdl2, hdlt, get_E hsx, hsx, hsy, ruleC] <;> with_reducible rfl))) | (refine Gx.skip rfl ?_ ?_ ?_; (· exact rfl); (· exact rfl)) | (refine Gx.skipO rfl ?_ ?_ ?_; (· exact rfl); (· exact rfl)) | (refine Gx.wo (s' := ?_) rfl ?_ ?_ ?_; rotate_left; (· exact rfl); (· (simp [go_sem, List.take_of_length_le, hdl, hdl', hdl2, hdlt, get_E hsx, hsx, hsy, ruleC] <;> with_reducible rfl))) | (refine Gx.skipW rfl ?_ ?_ ?_; (· exact rfl); (· exact rfl)) | (refine Gx.skipH rfl ?_ ?_ ?_; (· exact rfl); (· exact rfl)) | (refine Gx.hid (r := ?_) rfl ?_ ?_ ?_ ?_; rotate_left; (· exact rfl); (· exact rfl); (· (simp [go_sem, List.take_of_length_le, hdl, hdl', hdl2, hdlt, get_E hsx, hsx, hsy, ruleC] <;> with_reducible rfl))) | (refine Gx.wr (s' := ?_) rfl ?_ ?_ ?_ ?_; rotate_left; (· exact rfl); (· (simp [go_sem, List.take_of_length_le, hdl, hdl', hdl2, hdlt, get_E hsx, hsx, hsy, ruleC] <;> with_reducible rfl)); (· (simp [go_sem, List.take_of_length_le, hdl, hdl', hdl2, hdlt, get_E hsx, hsx, hsy, ruleC]))) | fail
            first | refine GS.fnn [0, 3, 2, 1] (cb) rfl rfl rfl rfl (by simp [go_sem, List.take_of_length_le, ren, ren1, ren2, okr, okr1, okr2, ChkN, BlkN, List.range_succ, nf] <;> with_reducible rfl) (by simp [go_sem, List.take_of_length_le, ren, ren1, ren2, okr, okr1, okr2, ChkN, BlkN, List.range_succ, nf]) (by simp [go_sem, List.take_of_length_le, ren, ren1, ren2, okr, okr1, okr2, ChkN, BlkN, List.range_succ, nf]) (by simp [List.range_succ, lb]) (ChkN.toB (by simp [go_sem, List.take_of_length_le, ren, ren1, ren2, okr, okr1, okr2, ChkN, BlkN, List.range_succ, nf])) (by decide) (by simp) rfl (.nfr (by simp [nf]) (.okw (by simp [okr, okr1]) (.okw (by simp [okr, okr1]) (.nfr (by simp) .nil)))) (by simp [go_sem, List.take_of_length_le, ren, ren1, ren2, okr, okr1, okr2, ChkN, BlkN, List.range_succ, nf] <;> with_reducible rfl) ?_ | refine Gx.fnn [0, 3, 2, 1] (cb) rfl rfl rfl rfl rfl (by simp [go_sem, List.take_of_length_le, ren, ren1, ren2, okr, okr1, okr2, ChkN, BlkN, List.range_succ, nf] <;> with_reducible rfl) (by simp [go_sem, List.take_of_length_le, ren, ren1, ren2, okr, okr1, okr2, ChkN, BlkN, List.range_succ, nf]) (by simp [go_sem, List.take_of_length_le, ren, ren1, ren2, okr, okr1, okr2, ChkN, BlkN, List.range_succ, nf]) (by simp [List.range_succ, lb]) (ChkN.toB (by simp [go_sem, List.take_of_length_le, ren, ren1, ren2, okr, okr1, okr2, ChkN, BlkN, List.range_succ, nf])) (by decide) (by simp) rfl (.nfr (by simp [nf]) (.okw (by simp [okr, okr1]) (.okw (by simp [okr, okr1]) (.nfr (by simp) .nil)))) (by simp [go_sem, List.take_of_length_le, ren, ren1, ren2, okr, okr1, okr2, ChkN, BlkN, List.range_succ, nf]) (by simp [go_sem, List.take_of_length_le, ren, ren1, ren2, okr, okr1, okr2, ChkN, BlkN, List.range_succ, nf] <;> with_reducible rfl) ?_ | refine Gx.fnno [0, 3, 2, 1] (cb) rfl rfl rfl rfl rfl (by simp [go_sem, List.take_of_length_le, ren, ren1, ren2, okr, okr1, okr2, ChkN, BlkN, List.range_succ, nf] <;> with_reducible rfl) (by simp [go_sem, List.take_of_length_le, ren, ren1, ren2, okr, okr1, okr2, ChkN, BlkN, List.range_succ, nf]) (by simp [go_sem, List.take_of_length_le, ren, ren1, ren2, okr, okr1, okr2, ChkN, BlkN, List.range_succ, nf]) (by simp [List.range_succ, lb]) (ChkN.toB (by simp [go_sem, List.take_of_length_le, ren, ren1, ren2, okr, okr1, okr2, ChkN, BlkN, List.range_succ, nf])) (by decide) (by simp) rfl (.nfr (by simp [nf]) (.okw (by simp [okr, okr1]) (.okw (by simp [okr, okr1]) (.nfr (by simp) .nil)))) (by simp [go_sem, List.take_of_length_le, ren, ren1, ren2, okr, okr1, okr2, ChkN, BlkN, List.range_succ, nf] <;> with_reducible rfl) ?_
            cases b2 with
            | true =>
              rw [Bool.or_true] at hnext
              repeat' first | (refine Holds.condT ?_ ?_; (· (simp [go_sem, List.take_of_length_le] <;> with_reducible rfl))) | (refine Holds.condF ?_ ?_; (· (simp [go_sem, List.take_of_length_le] <;> with_reducible rfl))) | refine Holds.seq ?_ | refine Holds.skip ?_ | refine Holds.exit ?_ | refine Holds.ret ?_ | refine thenA_normal ?_ | refine thenA_exit ?_ | refine thenA_ret ?_ | refine inB_normal ?_ | refine inB_ret ?_ | refine inB_here ?_ | (refine inB_past ?_ ?_; (· exact rfl)) | refine Holds.reg ?_ | refine Holds.block ?_ | refine GS.nil ?_ | refine Gd.nil ?_ | (refine Holds.any mixed ?_ ?_; (· kernel_rfl)) | (refine GS.step (s' := ?_) ?_ ?_ ?_; rotate_left; (· exact rfl); (· (simp [go_sem, List.take_of_length_le] <;> with_reducible rfl))) | (refine GS.skip ?_ ?_ ?_; (· exact rfl); (· exact rfl)) | (refine Gd.go (s' := ?_) ?_ ?_ ?_; rotate_left; (· exact rfl); (· (simp [go_sem, List.take_of_length_le] <;> with_reducible rfl))) | (refine Gd.skip ?_ ?_ ?_; (· exact rfl); (· exact rfl)) | refine Gx.nil ?_ | (refine Gx.go (s' := ?_) rfl ?_ ?_ ?_; rotate_left; (· exact rfl); (· (simp [go_sem, List.take_of_length_le] <;> with_reducible rfl))) | (refine Gx.skip rfl ?_ ?_ ?_; (· exact rfl); (· exact rfl)) | (refine Gx.skipO rfl ?_ ?_ ?_; (· exact rfl); (· exact rfl)) | (refine Gx.wo (s' := ?_) rfl ?_ ?_ ?_; rotate_left; (· exact rfl); (· (simp [go_sem, List.take_of_length_le] <;> with_reducible rfl))) | (refine Gx.skipW rfl ?_ ?_ ?_; (· exact rfl); (· exact rfl)) | (refine Gx.skipH rfl ?_ ?_ ?_; (· exact rfl); (· exact rfl)) | (refine Gx.hid (r := ?_) rfl ?_ ?_ ?_ ?_; rotate_left; (· exact rfl); (· exact rfl); (· (simp [go_sem, List.take_of_length_le] <;> with_reducible rfl))) | (refine Gx.wr (s' := ?_) rfl ?_ ?_ ?_ ?_; rotate_left; (· exact rfl); (· (simp [go_sem, List.take_of_length_le] <;> with_reducible rfl)); (· (simp [go_sem, List.take_of_length_le]))) | fail
              refine ⟨(k + 1, sets2, true), hnext, by dsimp only; omega, ?_⟩
              rw [stepk]
              exact Cov.ofn (nm [0, 1, 2, 3]) rfl (by simp [go_sem, List.take_of_length_le, ren, ren1, ren2, okr, okr1, okr2, ChkT, ChkN, BlkN, nf, grammarC]) (by simp [go_sem, List.take_of_length_le, ren, ren1, ren2, okr, okr1, okr2, ChkT, ChkN, BlkN, nf, grammarC])
            | false =>
              rw [Bool.or_false] at hnext
              repeat' first | (refine Holds.condT ?_ ?_; (· (simp [go_sem, List.take_of_length_le] <;> with_reducible rfl))) | (refine Holds.condF ?_ ?_; (· (simp [go_sem, List.take_of_length_le] <;> with_reducible rfl))) | refine Holds.seq ?_ | refine Holds.skip ?_ | refine Holds.exit ?_ | refine Holds.ret ?_ | refine thenA_normal ?_ | refine thenA_exit ?_ | refine thenA_ret ?_ | refine inB_normal ?_ | refine inB_ret ?_ | refine inB_here ?_ | (refine inB_past ?_ ?_; (· exact rfl)) | refine Holds.reg ?_ | refine Holds.block ?_ | refine GS.nil ?_ | refine Gd.nil ?_ | (refine Holds.any mixed ?_ ?_; (· kernel_rfl)) | (refine GS.step (s' := ?_) ?_ ?_ ?_; rotate_left; (· exact rfl); (· (simp [go_sem, List.take_of_length_le] <;> with_reducible rfl))) | (refine GS.skip ?_ ?_ ?_; (· exact rfl); (· exact rfl)) | (refine Gd.go (s' := ?_) ?_ ?_ ?_; rotate_left; (· exact rfl); (· (simp [go_sem, List.take_of_length_le] <;> with_reducible rfl))) | (refine Gd.skip ?_ ?_ ?_; (· exact rfl); (· exact rfl)) | refine Gx.nil ?_ | (refine Gx.go (s' := ?_) rfl ?_ ?_ ?_; rotate_left; (· exact rfl); (· (simp [go_sem, List.take_of_length_le] <;> with_reducible rfl))) | (refine Gx.skip rfl ?_ ?_ ?_; (· exact rfl); (· exact rfl)) | (refine Gx.skipO rfl ?_ ?_ ?_; (· exact rfl); (· exact rfl)) | (refine Gx.wo (s' := ?_) rfl ?_ ?_ ?_; rotate_left; (· exact rfl); (· (simp [go_sem, List.take_of_length_le] <;> with_reducible rfl))) | (refine Gx.skipW rfl ?_ ?_ ?_; (· exact rfl); (· exact rfl)) | (refine Gx.skipH rfl ?_ ?_ ?_; (· exact rfl); (· exact rfl)) | (refine Gx.hid (r := ?_) rfl ?_ ?_ ?_ ?_; rotate_left; (· exact rfl); (· exact rfl); (· (simp [go_sem, List.take_of_length_le] <;> with_reducible rfl))) | (refine Gx.wr (s' := ?_) rfl ?_ ?_ ?_ ?_; rotate_left; (· exact rfl); (· (simp [go_sem, List.take_of_length_le] <;> with_reducible rfl)); (· (simp [go_sem, List.take_of_length_le]))) | fail
              refine ⟨(k + 1, sets2, again), hnext, by dsimp only; omega, ?_⟩
              rw [stepk]
              exact Cov.ofn (nm [0, 1, 2, 3]) rfl (by simp [go_sem, List.take_of_length_le, ren, ren1, ren2, okr, okr1, okr2, ChkT, ChkN, BlkN, nf, grammarC]) (by simp [go_sem, List.take_of_length_le, ren, ren1, ren2, okr, okr1, okr2, ChkT, ChkN, BlkN, nf, grammarC])
          · have hCP : CloP g p (at3 sets p) (itemN r d f) := fun y hy h0 => by rw [hsym] at hy; injection hy with hy; subst hy; exact absurd h0 hsy
            by_cases hpn : p < w.length
            · have hwp : w[p]? = some w[p] := List.getElem?_eq_getElem hpn
              have hwb := hwt _ (List.getElem_mem hpn)
              generalize w[p] = t at hwp hwb
              have cs := symbolOfE t (by omega) (by omega)
              have hwt1 : wr64 (-1 - t) = -1 - t := wr64_id (by omega) (by omega)
              by_cases hty : -1 - t = sy
              · have hty' : (-1 - t == sy) = true := by simp [hty]
                have hp1 : p + 1 < sets.length := by omega
                have hf1 := hA.ps.snd.few hg hw (p + 1)
                have hoa : okI g w (p + 1) (itemN r (d + 1) f) := ⟨r, d + 1, f, rfl, .scan p r d f sy hEar hsx (by omega) (by rw [hwp]; congr 1; omega)⟩
                have cp := put1 sets (p + 1) (itemN r (d + 1) f) hp1 (by omega)
                rw [hl] at cp
                have hA2 := hA.putNext hp1 hoa
                have hgr := Grow.put hp1 (itemN r (d + 1) f)
                have hin : itemN r (d + 1) f ∈ at3 (putAt sets (p + 1) (itemN r (d + 1) f)) (p + 1) := by rw [putAt, at3_set hp1]; exact ((putA_R _ _).mem _).2 (.inl rfl)
                have hnext := hA2.next (hgr.2 p k _ hxk) ⟨fun y hy h0 => by rw [hsym] at hy; injection hy with hy; subst hy; exact absurd h0 hsy, fun e => by rw [hsym] at e; cases e⟩ (fun y hy h0 hwy => by rw [advI_N]; exact hin)
                generalize decide (itemN r (d + 1) f ∉ at3 sets (p + 1)) = fr at cp
                generalize putAt sets (p + 1) (itemN r (d + 1) f) = sets2 at cp hnext
                have hd1 : ((d + 1 : Nat) : Int) = (d : Int) + 1 := by omega
                simp only [itemN, nodeC, hd1] at cp
                repeat' first | (refine Holds.condT ?_ ?_; (· (simp [go_sem, List.take_of_length_le, hdl, hdl', hdl2, hdlt, get_E hsx, hsx, hsy, ruleC, hpn, get_E hwp, hwp] <;> with_reducible rfl))) | (refine Holds.condF ?_ ?_; (· (simp [go_sem, List.take_of_length_le, hdl, hdl', hdl2, hdlt, get_E hsx, hsx, hsy, ruleC, hpn, get_E hwp, hwp] <;> with_reducible rfl))) | refine Holds.seq ?_ | refine Holds.skip ?_ | refine Holds.exit ?_ | refine Holds.ret ?_ | refine thenA_normal ?_ | refine thenA_exit ?_ | refine thenA_ret ?_ | refine inB_normal ?_ | refine inB_ret ?_ | refine inB_here ?_ | (refine inB_past ?_ ?_; (· exact rfl)) | refine Holds.reg ?_ | refine Holds.block ?_ | refine GS.nil ?_ | refine Gd.nil ?_ | (refine Holds.any mixed ?_ ?_; (· kernel_rfl)) | (refine GS.step (s' := ?_) ?_ ?_ ?_; rotate_left; (· exact rfl); (· (simp [go_sem, List.take_of_length_le, hdl, hdl', hdl2, hdlt, get_E hsx, hsx, hsy, ruleC, hpn, get_E hwp, hwp] <;> with_reducible rfl))) | (refine GS.skip ?_ ?_ ?_; (· exact rfl); (· exact rfl)) | (refine Gd.go (s' := ?_) ?_ ?_ ?_; rotate_left; (· exact rfl); (· (simp [go_sem, List.take_of_length_le, hdl, hdl', hdl2, hdlt, get_E hsx, hsx, hsy, ruleC, hpn, get_E hwp, hwp] <;> with_reducible rfl))) | (refine Gd.skip ?_ ?_ ?_; (· exact rfl); (· exact rfl)) | refine Gx.nil ?_ | (refine Gx.go (s' := ?_) rfl ?_ ?_ ?_; rotate_left; (· exact rfl); (· (simp [go_sem, List.take_of_length_le, hdl, hdl', hdl2, hdlt, get_E hsx, hsx, hsy, ruleC, hpn, get_E hwp, hwp] <;> with_reducible rfl))) | (refine Gx.skip rfl ?_ ?_ ?_; (· exact rfl); (· exact rfl)) | (refine Gx.skipO rfl ?_ ?_ ?_; (· exact rfl); (· exact rfl)) | (refine Gx.wo (s' := ?_) rfl ?_ ?_ ?_; rotate_left; (· exact rfl); (· (simp [go_sem, List.take_of_length_le, hdl, hdl', hdl2, hdlt, get_E hsx, hsx, hsy, ruleC, hpn, get_E hwp, hwp] <;> with_reducible rfl))) | (refine Gx.skipW rfl ?_ ?_ ?_; (· exact rfl); (· exact rfl)) | (refine Gx.skipH rfl ?_ ?_ ?_; (· exact rfl); (· exact rfl)) | (refine Gx.hid (r := ?_) rfl ?_ ?_ ?_ ?_; rotate_left; (· exact rfl); (· exact rfl); (· (simp [go_sem, List.take_of_length_le, hdl, hdl', hdl2, hdlt, get_E hsx, hsx, hsy, ruleC, hpn, get_E hwp, hwp] <;> with_reducible rfl))) | (refine Gx.wr (s' := ?_) rfl ?_ ?_ ?_ ?_; rotate_left; (· exact rfl); (· (simp [go_sem, List.take_of_length_le, hdl, hdl', hdl2, hdlt, get_E hsx, hsx, hsy, ruleC, hpn, get_E hwp, hwp] <;> with_reducible rfl)); (· (simp [go_sem, List.take_of_length_le, hdl, hdl', hdl2, hdlt, get_E hsx, hsx, hsy, ruleC, hpn, get_E hwp, hwp]))) | fail
                first | refine GS.cc (cs) rfl rfl rfl rfl (by simp [go_sem, List.take_of_length_le] <;> with_reducible rfl) rfl (by simp [go_sem, List.take_of_length_le]) ?_ | refine Gd.cc (cs) rfl rfl rfl rfl (by simp [go_sem, List.take_of_length_le] <;> with_reducible rfl) rfl (by simp [go_sem, List.take_of_length_le]) ?_ | refine Gx.cc (cs) rfl rfl rfl rfl rfl (by simp [go_sem, List.take_of_length_le] <;> with_reducible rfl) rfl (by simp [go_sem, List.take_of_length_le]) ?_
                repeat' first | (refine Holds.condT ?_ ?_; (· (simp [go_sem, List.take_of_length_le, hty', get_E hsx, hsx, hdlt, ruleC, stepp, nodeC, itemN] <;> with_reducible rfl))) | (refine Holds.condF ?_ ?_; (· (simp [go_sem, List.take_of_length_le, hty', get_E hsx, hsx, hdlt, ruleC, stepp, nodeC, itemN] <;> with_reducible rfl))) | refine Holds.seq ?_ | refine Holds.skip ?_ | refine Holds.exit ?_ | refine Holds.ret ?_ | refine thenA_normal ?_ | refine thenA_exit ?_ | refine thenA_ret ?_ | refine inB_normal ?_ | refine inB_ret ?_ | refine inB_here ?_ | (refine inB_past ?_ ?_; (· exact rfl)) | refine Holds.reg ?_ | refine Holds.block ?_ | refine GS.nil ?_ | refine Gd.nil ?_ | (refine Holds.any mixed ?_ ?_; (· kernel_rfl)) | (refine GS.step (s' := ?_) ?_ ?_ ?_; rotate_left; (· exact rfl); (· (simp [go_sem, List.take_of_length_le, hty', get_E hsx, hsx, hdlt, ruleC, stepp, nodeC, itemN] <;> with_reducible rfl))) | (refine GS.skip ?_ ?_ ?_; (· exact rfl); (· exact rfl)) | (refine Gd.go (s' := ?_) ?_ ?_ ?_; rotate_left; (· exact rfl); (· (simp [go_sem, List.take_of_length_le, hty', get_E hsx, hsx, hdlt, ruleC, stepp, nodeC, itemN] <;> with_reducible rfl))) | (refine Gd.skip ?_ ?_ ?_; (· exact rfl); (· exact rfl)) | refine Gx.nil ?_ | (refine Gx.go (s' := ?_) rfl ?_ ?_ ?_; rotate_left; (· exact rfl); (· (simp [go_sem, List.take_of_length_le, hty', get_E hsx, hsx, hdlt, ruleC, stepp, nodeC, itemN] <;> with_reducible rfl))) | (refine Gx.skip rfl ?_ ?_ ?_; (· exact rfl); (· exact rfl)) | (refine Gx.skipO rfl ?_ ?_ ?_; (· exact rfl); (· exact rfl)) | (refine Gx.wo (s' := ?_) rfl ?_ ?_ ?_; rotate_left; (· exact rfl); (· (simp [go_sem, List.take_of_length_le, hty', get_E hsx, hsx, hdlt, ruleC, stepp, nodeC, itemN] <;> with_reducible rfl))) | (refine Gx.skipW rfl ?_ ?_ ?_; (· exact rfl); (· exact rfl)) | (refine Gx.skipH rfl ?_ ?_ ?_; (· exact rfl); (· exact rfl)) | (refine Gx.hid (r := ?_) rfl ?_ ?_ ?_ ?_; rotate_left; (· exact rfl); (· exact rfl); (· (simp [go_sem, List.take_of_length_le, hty', get_E hsx, hsx, hdlt, ruleC, stepp, nodeC, itemN] <;> with_reducible rfl))) | (refine Gx.wr (s' := ?_) rfl ?_ ?_ ?_ ?_; rotate_left; (· exact rfl); (· (simp [go_sem, List.take_of_length_le, hty', get_E hsx, hsx, hdlt, ruleC, stepp, nodeC, itemN] <;> with_reducible rfl)); (· (simp [go_sem, List.take_of_length_le, hty', get_E hsx, hsx, hdlt, ruleC, stepp, nodeC, itemN]))) | fail
                first | refine GS.fnn [2, 1] (cp) rfl rfl rfl rfl (by simp [go_sem, List.take_of_length_le, ren, ren1, ren2, okr, okr1, okr2, ChkN, BlkN, List.range_succ, nf] <;> with_reducible rfl) (by simp [go_sem, List.take_of_length_le, ren, ren1, ren2, okr, okr1, okr2, ChkN, BlkN, List.range_succ, nf]) (by simp [go_sem, List.take_of_length_le, ren, ren1, ren2, okr, okr1, okr2, ChkN, BlkN, List.range_succ, nf]) (by simp [List.range_succ, lb]) (ChkN.toB (by simp [go_sem, List.take_of_length_le, ren, ren1, ren2, okr, okr1, okr2, ChkN, BlkN, List.range_succ, nf])) (by decide) (by simp) rfl (.okw (by simp [okr, okr1]) (.nfr (by simp) .nil)) (by simp [go_sem, List.take_of_length_le, ren, ren1, ren2, okr, okr1, okr2, ChkN, BlkN, List.range_succ, nf] <;> with_reducible rfl) ?_ | refine Gx.fnn [2, 1] (cp) rfl rfl rfl rfl rfl (by simp [go_sem, List.take_of_length_le, ren, ren1, ren2, okr, okr1, okr2, ChkN, BlkN, List.range_succ, nf] <;> with_reducible rfl) (by simp [go_sem, List.take_of_length_le, ren, ren1, ren2, okr, okr1, okr2, ChkN, BlkN, List.range_succ, nf]) (by simp [go_sem, List.take_of_length_le, ren, ren1, ren2, okr, okr1, okr2, ChkN, BlkN, List.range_succ, nf]) (by simp [List.range_succ, lb]) (ChkN.toB (by simp [go_sem, List.take_of_length_le, ren, ren1, ren2, okr, okr1, okr2, ChkN, BlkN, List.range_succ, nf])) (by decide) (by simp) rfl (.okw (by simp [okr, okr1]) (.nfr (by simp) .nil)) (by simp [go_sem, List.take_of_length_le, ren, ren1, ren2, okr, okr1, okr2, ChkN, BlkN, List.range_succ, nf]) (by simp [go_sem, List.take_of_length_le, ren, ren1, ren2, okr, okr1, okr2, ChkN, BlkN, List.range_succ, nf] <;> with_reducible rfl) ?_ | refine Gx.fnno [2, 1] (cp) rfl rfl rfl rfl rfl (by simp [go_sem, List.take_of_length_le, ren, ren1, ren2, okr, okr1, okr2, ChkN, BlkN, List.range_succ, nf] <;> with_reducible rfl) (by simp [go_sem, List.take_of_length_le, ren, ren1, ren2, okr, okr1, okr2, ChkN, BlkN, List.range_succ, nf]) (by simp [go_sem, List.take_of_length_le, ren, ren1, ren2, okr, okr1, okr2, ChkN, BlkN, List.range_succ, nf]) (by simp [List.range_succ, lb]) (ChkN.toB (by simp [go_sem, List.take_of_length_le, ren, ren1, ren2, okr, okr1, okr2, ChkN, BlkN, List.range_succ, nf])) (by decide) (by simp) rfl (.okw (by simp [okr, okr1]) (.nfr (by simp) .nil)) (by simp [go_sem, List.take_of_length_le, ren, ren1, ren2, okr, okr1, okr2, ChkN, BlkN, List.range_succ, nf] <;> with_reducible rfl) ?_
                repeat' first | (refine Holds.condT ?_ ?_; (· (simp [go_sem, List.take_of_length_le] <;> with_reducible rfl))) | (refine Holds.condF ?_ ?_; (· (simp [go_sem, List.take_of_length_le] <;> with_reducible rfl))) | refine Holds.seq ?_ | refine Holds.skip ?_ | refine Holds.exit ?_ | refine Holds.ret ?_ | refine thenA_normal ?_ | refine thenA_exit ?_ | refine thenA_ret ?_ | refine inB_normal ?_ | refine inB_ret ?_ | refine inB_here ?_ | (refine inB_past ?_ ?_; (· exact rfl)) | refine Holds.reg ?_ | refine Holds.block ?_ | refine GS.nil ?_ | refine Gd.nil ?_ | (refine Holds.any mixed ?_ ?_; (· kernel_rfl)) | (refine GS.step (s' := ?_) ?_ ?_ ?_; rotate_left; (· exact rfl); (· (simp [go_sem, List.take_of_length_le] <;> with_reducible rfl))) | (refine GS.skip ?_ ?_ ?_; (· exact rfl); (· exact rfl)) | (refine Gd.go (s' := ?_) ?_ ?_ ?_; rotate_left; (· exact rfl); (· (simp [go_sem, List.take_of_length_le] <;> with_reducible rfl))) | (refine Gd.skip ?_ ?_ ?_; (· exact rfl); (· exact rfl)) | refine Gx.nil ?_ | (refine Gx.go (s' := ?_) rfl ?_ ?_ ?_; rotate_left; (· exact rfl); (· (simp [go_sem, List.take_of_length_le] <;> with_reducible rfl))) | (refine Gx.skip rfl ?_ ?_ ?_; (· exact rfl); (· exact rfl)) | (refine Gx.skipO rfl ?_ ?_ ?_; (· exact rfl); (· exact rfl)) | (refine Gx.wo (s' := ?_) rfl ?_ ?_ ?_; rotate_left; (· exact rfl); (· (simp [go_sem, List.take_of_length_le] <;> with_reducible rfl))) | (refine Gx.skipW rfl ?_ ?_ ?_; (· exact rfl); (· exact rfl)) | (refine Gx.skipH rfl ?_ ?_ ?_; (· exact rfl); (· exact rfl)) | (refine Gx.hid (r := ?_) rfl ?_ ?_ ?_ ?_; rotate_left; (· exact rfl); (· exact rfl); (· (simp [go_sem, List.take_of_length_le] <;> with_reducible rfl))) | (refine Gx.wr (s' := ?_) rfl ?_ ?_ ?_ ?_; rotate_left; (· exact rfl); (· (simp [go_sem, List.take_of_length_le] <;> with_reducible rfl)); (· (simp [go_sem, List.take_of_length_le]))) | fail
                refine ⟨(k + 1, sets2, again), hnext, by dsimp only; omega, ?_⟩
                rw [stepk]
                exact Cov.ofn (nm [0, 1, 2, 3]) rfl (by simp [go_sem, List.take_of_length_le, ren, ren1, ren2, okr, okr1, okr2, ChkT, ChkN, BlkN, nf, grammarC]) (by simp [go_sem, List.take_of_length_le, ren, ren1, ren2, okr, okr1, okr2, ChkT, ChkN, BlkN, nf, grammarC])
              · have hty' : (-1 - t == sy) = false := by simp [hty]
                have hnext := hA.next hxk ⟨hCP, hCC⟩ (fun y hy h0 hwy => by rw [hsym] at hy; injection hy with hy; subst hy; rw [hwp] at hwy; injection hwy with hwy; omega)
                repeat' first | (refine Holds.condT ?_ ?_; (· (simp [go_sem, List.take_of_length_le, hdl, hdl', hdl2, hdlt, get_E hsx, hsx, hsy, ruleC, hpn, get_E hwp, hwp] <;> with_reducible rfl))) | (refine Holds.condF ?_ ?_; (· (simp [go_sem, List.take_of_length_le, hdl, hdl', hdl2, hdlt, get_E hsx, hsx, hsy, ruleC, hpn, get_E hwp, hwp] <;> with_reducible rfl))) | refine Holds.seq ?_ | refine Holds.skip ?_ | refine Holds.exit ?_ | refine Holds.ret ?_ | refine thenA_normal ?_ | refine thenA_exit ?_ | refine thenA_ret ?_ | refine inB_normal ?_ | refine inB_ret ?_ | refine inB_here ?_ | (refine inB_past ?_ ?_; (· exact rfl)) | refine Holds.reg ?_ | refine Holds.block ?_ | refine GS.nil ?_ | refine Gd.nil ?_ | (refine Holds.any mixed ?_ ?_; (· kernel_rfl)) | (refine GS.step (s' := ?_) ?_ ?_ ?_; rotate_left; (· exact rfl); (· (simp [go_sem, List.take_of_length_le, hdl, hdl', hdl2, hdlt, get_E hsx, hsx, hsy, ruleC, hpn, get_E hwp, hwp] <;> with_reducible rfl))) | (refine GS.skip ?_ ?_ ?_; (· exact rfl); (· exact rfl)) | (refine Gd.go (s' := ?_) ?_ ?_ ?_; rotate_left; (· exact rfl); (· (simp [go_sem, List.take_of_length_le, hdl, hdl', hdl2, hdlt, get_E hsx, hsx, hsy, ruleC, hpn, get_E hwp, hwp] <;> with_reducible rfl))) | (refine Gd.skip ?_ ?_ ?_; (· exact rfl); (· exact rfl)) | refine Gx.nil ?_ | (refine Gx.go (s' := ?_) rfl ?_ ?_ ?_; rotate_left; (· exact rfl); (· (simp [go_sem, List.take_of_length_le, hdl, hdl', hdl2, hdlt, get_E hsx, hsx, hsy, ruleC, hpn, get_E hwp, hwp] <;> with_reducible rfl))) | (refine Gx.skip rfl ?_ ?_ ?_; (· exact rfl); (· exact rfl)) | (refine Gx.skipO rfl ?_ ?_ ?_; (· exact rfl); (· exact rfl)) | (refine Gx.wo (s' := ?_) rfl ?_ ?_ ?_; rotate_left; (· exact rfl); (· (simp [go_sem, List.take_of_length_le, hdl, hdl', hdl2, hdlt, get_E hsx, hsx, hsy, ruleC, hpn, get_E hwp, hwp] <;> with_reducible rfl))) | (refine Gx.skipW rfl ?_ ?_ ?_; (· exact rfl); (· exact rfl)) | (refine Gx.skipH rfl ?_ ?_ ?_; (· exact rfl); (· exact rfl)) | (refine Gx.hid (r := ?_) rfl ?_ ?_ ?_ ?_; rotate_left; (· exact rfl); (· exact rfl); (· (simp [go_sem, List.take_of_length_le, hdl, hdl', hdl2, hdlt, get_E hsx, hsx, hsy, ruleC, hpn, get_E hwp, hwp] <;> with_reducible rfl))) | (refine Gx.wr (s' := ?_) rfl ?_ ?_ ?_ ?_; rotate_left; (· exact rfl); (· (simp [go_sem, List.take_of_length_le, hdl, hdl', hdl2, hdlt, get_E hsx, hsx, hsy, ruleC, hpn, get_E hwp, hwp] <;> with_reducible rfl)); (· (simp [go_sem, List.take_of_length_le, hdl, hdl', hdl2, hdlt, get_E hsx, hsx, hsy, ruleC, hpn, get_E hwp, hwp]))) | fail
                first | refine GS.cc (cs) rfl rfl rfl rfl (by simp [go_sem, List.take_of_length_le] <;> with_reducible rfl) rfl (by simp [go_sem, List.take_of_length_le]) ?_ | refine Gd.cc (cs) rfl rfl rfl rfl (by simp [go_sem, List.take_of_length_le] <;> with_reducible rfl) rfl (by simp [go_sem, List.take_of_length_le]) ?_ | refine Gx.cc (cs) rfl rfl rfl rfl rfl (by simp [go_sem, List.take_of_length_le] <;> with_reducible rfl) rfl (by simp [go_sem, List.take_of_length_le]) ?_
                repeat' first | (refine Holds.condT ?_ ?_; (· (simp [go_sem, List.take_of_length_le, hty', get_E hsx, hsx, hdlt, ruleC, nodeC, itemN] <;> with_reducible rfl))) | (refine Holds.condF ?_ ?_; (· (simp [go_sem, List.take_of_length_le, hty', get_E hsx, hsx, hdlt, ruleC, nodeC, itemN] <;> with_reducible rfl))) | refine Holds.seq ?_ | refine Holds.skip ?_ | refine Holds.exit ?_ | refine Holds.ret ?_ | refine thenA_normal ?_ | refine thenA_exit ?_ | refine thenA_ret ?_ | refine inB_normal ?_ | refine inB_ret ?_ | refine inB_here ?_ | (refine inB_past ?_ ?_; (· exact rfl)) | refine Holds.reg ?_ | refine Holds.block ?_ | refine GS.nil ?_ | refine Gd.nil ?_ | (refine Holds.any mixed ?_ ?_; (· kernel_rfl)) | (refine GS.step (s' := ?_) ?_ ?_ ?_; rotate_left; (· exact rfl); (· (simp [go_sem, List.take_of_length_le, hty', get_E hsx, hsx, hdlt, ruleC, nodeC, itemN] <;> with_reducible rfl))) | (refine GS.skip ?_ ?_ ?_; (· exact rfl); (· exact rfl)) | (refine Gd.go (s' := ?_) ?_ ?_ ?_; rotate_left; (· exact rfl); (· (simp [go_sem, List.take_of_length_le, hty', get_E hsx, hsx, hdlt, ruleC, nodeC, itemN] <;> with_reducible rfl))) | (refine Gd.skip ?_ ?_ ?_; (· exact rfl); (· exact rfl)) | refine Gx.nil ?_ | (refine Gx.go (s' := ?_) rfl ?_ ?_ ?_; rotate_left; (· exact rfl); (· (simp [go_sem, List.take_of_length_le, hty', get_E hsx, hsx, hdlt, ruleC, nodeC, itemN] <;> with_reducible rfl))) | (refine Gx.skip rfl ?_ ?_ ?_; (· exact rfl); (· exact rfl)) | (refine Gx.skipO rfl ?_ ?_ ?_; (· exact rfl); (· exact rfl)) | (refine Gx.wo (s' := ?_) rfl ?_ ?_ ?_; rotate_left; (· exact rfl); (· (simp [go_sem, List.take_of_length_le, hty', get_E hsx, hsx, hdlt, ruleC, nodeC, itemN] <;> with_reducible rfl))) | (refine Gx.skipW rfl ?_ ?_ ?_; (· exact rfl); (· exact rfl)) | (refine Gx.skipH rfl ?_ ?_ ?_; (· exact rfl); (· exact rfl)) | (refine Gx.hid (r := ?_) rfl ?_ ?_ ?_ ?_; rotate_left; (· exact rfl); (· exact rfl); (· (simp [go_sem, List.take_of_length_le, hty', get_E hsx, hsx, hdlt, ruleC, nodeC, itemN] <;> with_reducible rfl))) | (refine Gx.wr (s' := ?_) rfl ?_ ?_ ?_ ?_; rotate_left; (· exact rfl); (· (simp [go_sem, List.take_of_length_le, hty', get_E hsx, hsx, hdlt, ruleC, nodeC, itemN] <;> with_reducible rfl)); (· (simp [go_sem, List.take_of_length_le, hty', get_E hsx, hsx, hdlt, ruleC, nodeC, itemN]))) | fail
                refine ⟨(k + 1, sets, again), hnext, by dsimp only; omega, ?_⟩
                rw [stepk]
                exact Cov.ofn (nm [0, 1, 2, 3]) rfl (by simp [go_sem, List.take_of_length_le, ren, ren1, ren2, okr, okr1, okr2, ChkT, ChkN, BlkN, nf, grammarC]) (by simp [go_sem, List.take_of_length_le, ren, ren1, ren2, okr, okr1, okr2, ChkT, ChkN, BlkN, nf, grammarC])
            · have hnext := hA.next hxk ⟨hCP, hCC⟩ (fun y hy h0 hwy => by rw [List.getElem?_eq_none (by omega)] at hwy; cases hwy)
              repeat' first | (refine Holds.condT ?_ ?_; (· (simp [go_sem, List.take_of_length_le, hdl, hdl', hdl2, hdlt, get_E hsx, hsx, hsy, ruleC, hpn] <;> with_reducible rfl))) | (refine Holds.condF ?_ ?_; (· (simp [go_sem, List.take_of_length_le, hdl, hdl', hdl2, hdlt, get_E hsx, hsx, hsy, ruleC, hpn] <;> with_reducible rfl))) | refine Holds.seq ?_ | refine Holds.skip ?_ | refine Holds.exit ?_ | refine Holds.ret ?_ | refine thenA_normal ?_ | refine thenA_exit ?_ | refine thenA_ret ?_ | refine inB_normal ?_ | refine inB_ret ?_ | refine inB_here ?_ | (refine inB_past ?_ ?_; (· exact rfl)) | refine Holds.reg ?_ | refine Holds.block ?_ | refine GS.nil ?_ | refine Gd.nil ?_ | (refine Holds.any mixed ?_ ?_; (· kernel_rfl)) | (refine GS.step (s' := ?_) ?_ ?_ ?_; rotate_left; (· exact rfl); (· (simp [go_sem, List.take_of_length_le, hdl, hdl', hdl2, hdlt, get_E hsx, hsx, hsy, ruleC, hpn] <;> with_reducible rfl))) | (refine GS.skip ?_ ?_ ?_; (· exact rfl); (· exact rfl)) | (refine Gd.go (s' := ?_) ?_ ?_ ?_; rotate_left; (· exact rfl); (· (simp [go_sem, List.take_of_length_le, hdl, hdl', hdl2, hdlt, get_E hsx, hsx, hsy, ruleC, hpn] <;> with_reducible rfl))) | (refine Gd.skip ?_ ?_ ?_; (· exact rfl); (· exact rfl)) | refine Gx.nil ?_ | (refine Gx.go (s' := ?_) rfl ?_ ?_ ?_; rotate_left; (· exact rfl); (· (simp [go_sem, List.take_of_length_le, hdl, hdl', hdl2, hdlt, get_E hsx, hsx, hsy, ruleC, hpn] <;> with_reducible rfl))) | (refine Gx.skip rfl ?_ ?_ ?_; (· exact rfl); (· exact rfl)) | (refine Gx.skipO rfl ?_ ?_ ?_; (· exact rfl); (· exact rfl)) | (refine Gx.wo (s' := ?_) rfl ?_ ?_ ?_; rotate_left; (· exact rfl); (· (simp [go_sem, List.take_of_length_le, hdl, hdl', hdl2, hdlt, get_E hsx, hsx, hsy, ruleC, hpn] <;> with_reducible rfl))) | (refine Gx.skipW rfl ?_ ?_ ?_; (· exact rfl); (· exact rfl)) | (refine Gx.skipH rfl ?_ ?_ ?_; (· exact rfl); (· exact rfl)) | (refine Gx.hid (r := ?_) rfl ?_ ?_ ?_ ?_; rotate_left; (· exact rfl); (· exact rfl); (· (simp [go_sem, List.take_of_length_le, hdl, hdl', hdl2, hdlt, get_E hsx, hsx, hsy, ruleC, hpn] <;> with_reducible rfl))) | (refine Gx.wr (s' := ?_) rfl ?_ ?_ ?_ ?_; rotate_left; (· exact rfl); (· (simp [go_sem, List.take_of_length_le, hdl, hdl', hdl2, hdlt, get_E hsx, hsx, hsy, ruleC, hpn] <;> with_reducible rfl)); (· (simp [go_sem, List.take_of_length_le, hdl, hdl', hdl2, hdlt, get_E hsx, hsx, hsy, ruleC, hpn]))) | fail
              refine ⟨(k + 1, sets, again), hnext, by dsimp only; omega, ?_⟩
              rw [stepk]
              exact Cov.ofn (nm [0, 1, 2, 3]) rfl (by simp [go_sem, List.take_of_length_le, ren, ren1, ren2, okr, okr1, okr2, ChkT, ChkN, BlkN, nf, grammarC]) (by simp [go_sem, List.take_of_length_le, ren, ren1, ren2, okr, okr1, okr2, ChkT, ChkN, BlkN, nf, grammarC])
      · have hgek : (at3 sets p).length ≤ k := by simp at h; omega
        first | (refine Holds.close 1 p 0 (s' := ?_) rfl (set_get (iGet hs)) rfl rfl rfl rfl (by simp) (by simp [nf]) ?_ ?_; rotate_left; (· (simp [go_sem, List.take_of_length_le, List.set_set, iSet hs] <;> with_reducible rfl))) | (refine GS.close 1 p 0 (s' := ?_) rfl (set_get (iGet hs)) rfl rfl (by exact rfl) (by exact rfl) (by simp) (by simp [nf]) ?_ ?_; rotate_left; (· (simp [go_sem, List.take_of_length_le, List.set_set, iSet hs] <;> with_reducible rfl)))
        repeat' first | (refine Holds.condT ?_ ?_; (· (simp [go_sem, List.take_of_length_le] <;> with_reducible rfl))) | (refine Holds.condF ?_ ?_; (· (simp [go_sem, List.take_of_length_le] <;> with_reducible rfl))) | refine Holds.seq ?_ | refine Holds.skip ?_ | refine Holds.exit ?_ | refine Holds.ret ?_ | refine thenA_normal ?_ | refine thenA_exit ?_ | refine thenA_ret ?_ | refine inB_normal ?_ | refine inB_ret ?_ | refine inB_here ?_ | (refine inB_past ?_ ?_; (· exact rfl)) | refine Holds.reg ?_ | refine Holds.block ?_ | refine GS.nil ?_ | refine Gd.nil ?_ | (refine Holds.any mixed ?_ ?_; (· kernel_rfl)) | (refine GS.step (s' := ?_) ?_ ?_ ?_; rotate_left; (· exact rfl); (· (simp [go_sem, List.take_of_length_le] <;> with_reducible rfl))) | (refine GS.skip ?_ ?_ ?_; (· exact rfl); (· exact rfl)) | (refine Gd.go (s' := ?_) ?_ ?_ ?_; rotate_left; (· exact rfl); (· (simp [go_sem, List.take_of_length_le] <;> with_reducible rfl))) | (refine Gd.skip ?_ ?_ ?_; (· exact rfl); (· exact rfl)) | refine Gx.nil ?_ | (refine Gx.go (s' := ?_) rfl ?_ ?_ ?_; rotate_left; (· exact rfl); (· (simp [go_sem, List.take_of_length_le] <;> with_reducible rfl))) | (refine Gx.skip rfl ?_ ?_ ?_; (· exact rfl); (· exact rfl)) | (refine Gx.skipO rfl ?_ ?_ ?_; (· exact rfl); (· exact rfl)) | (refine Gx.wo (s' := ?_) rfl ?_ ?_ ?_; rotate_left; (· exact rfl); (· (simp [go_sem, List.take_of_length_le] <;> with_reducible rfl))) | (refine Gx.skipW rfl ?_ ?_ ?_; (· exact rfl); (· exact rfl)) | (refine Gx.skipH rfl ?_ ?_ ?_; (· exact rfl); (· exact rfl)) | (refine Gx.hid (r := ?_) rfl ?_ ?_ ?_ ?_; rotate_left; (· exact rfl); (· exact rfl); (· (simp [go_sem, List.take_of_length_le] <;> with_reducible rfl))) | (refine Gx.wr (s' := ?_) rfl ?_ ?_ ?_ ?_; rotate_left; (· exact rfl); (· (simp [go_sem, List.take_of_length_le] <;> with_reducible rfl)); (· (simp [go_sem, List.take_of_length_le]))) | fail
        refine ⟨(sets, again), ⟨hA.ps.snd, hA.ps.dn, fun e => by subst e; exact hA.done hgek⟩, ?_, ?_⟩
        · dsimp only
          cases again with
          | true => have := hA.ps.yes rfl; simp only [if_true]; omega
          | false => have := (hA.ps.no rfl).1; rw [this]; simp only [if_true, Bool.false_eq_true, if_false]; omega
        exact Cov.ofn (nm [0, 1, 2, 3]) rfl (by simp [go_sem, List.take_of_length_le, ren, ren1, ren2, okr, okr1, okr2, ChkT, ChkN, BlkN, nf, grammarC]) (by simp [go_sem, List.take_of_length_le, ren, ren1, ren2, okr, okr1, okr2, ChkT, ChkN, BlkN, nf, grammarC])
    | false =>
      refine Holds.cond rfl (fun h => by cases h) (fun h => ?_)
      repeat' first | (refine Holds.condT ?_ ?_; (· (simp [go_sem, List.take_of_length_le] <;> with_reducible rfl))) | (refine Holds.condF ?_ ?_; (· (simp [go_sem, List.take_of_length_le] <;> with_reducible rfl))) | refine Holds.seq ?_ | refine Holds.skip ?_ | refine Holds.exit ?_ | refine Holds.ret ?_ | refine thenA_normal ?_ | refine thenA_exit ?_ | refine thenA_ret ?_ | refine inB_normal ?_ | refine inB_ret ?_ | refine inB_here ?_ | (refine inB_past ?_ ?_; (· exact rfl)) | refine Holds.reg ?_ | refine Holds.block ?_ | refine GS.nil ?_ | refine Gd.nil ?_ | (refine Holds.any mixed ?_ ?_; (· kernel_rfl)) | (refine GS.step (s' := ?_) ?_ ?_ ?_; rotate_left; (· exact rfl); (· (simp [go_sem, List.take_of_length_le] <;> with_reducible rfl))) | (refine GS.skip ?_ ?_ ?_; (· exact rfl); (· exact rfl)) | (refine Gd.go (s' := ?_) ?_ ?_ ?_; rotate_left; (· exact rfl); (· (simp [go_sem, List.take_of_length_le] <;> with_reducible rfl))) | (refine Gd.skip ?_ ?_ ?_; (· exact rfl); (· exact rfl)) | refine Gx.nil ?_ | (refine Gx.go (s' := ?_) rfl ?_ ?_ ?_; rotate_left; (· exact rfl); (· (simp [go_sem, List.take_of_length_le] <;> with_reducible rfl))) | (refine Gx.skip rfl ?_ ?_ ?_; (· exact rfl); (· exact rfl)) | (refine Gx.skipO rfl ?_ ?_ ?_; (· exact rfl); (· exact rfl)) | (refine Gx.wo (s' := ?_) rfl ?_ ?_ ?_; rotate_left; (· exact rfl); (· (simp [go_sem, List.take_of_length_le] <;> with_reducible rfl))) | (refine Gx.skipW rfl ?_ ?_ ?_; (· exact rfl); (· exact rfl)) | (refine Gx.skipH rfl ?_ ?_ ?_; (· exact rfl); (· exact rfl)) | (refine Gx.hid (r := ?_) rfl ?_ ?_ ?_ ?_; rotate_left; (· exact rfl); (· exact rfl); (· (simp [go_sem, List.take_of_length_le] <;> with_reducible rfl))) | (refine Gx.wr (s' := ?_) rfl ?_ ?_ ?_ ?_; rotate_left; (· exact rfl); (· (simp [go_sem, List.take_of_length_le] <;> with_reducible rfl)); (· (simp [go_sem, List.take_of_length_le]))) | fail
      refine ⟨(p + 1, setsC), ⟨by dsimp only; omega, hS, hst rfl⟩, by dsimp only; omega, ?_⟩
      rw [stepp]
      exact Cov.ofn (nm [0, 1, 2, 3]) rfl (by simp [go_sem, List.take_of_length_le, ren, ren1, ren2, okr, okr1, okr2, ChkT, ChkN, BlkN, nf, grammarC]) (by simp [go_sem, List.take_of_length_le, ren, ren1, ren2, okr, okr1, okr2, ChkT, ChkN, BlkN, nf, grammarC])
  · have hle : p = N := by simp at h; omega
    subst hle
    repeat' first | (refine Holds.condT ?_ ?_; (· (simp [go_sem, List.take_of_length_le] <;> with_reducible rfl))) | (refine Holds.condF ?_ ?_; (· (simp [go_sem, List.take_of_length_le] <;> with_reducible rfl))) | refine Holds.seq ?_ | refine Holds.skip ?_ | refine Holds.exit ?_ | refine Holds.ret ?_ | refine thenA_normal ?_ | refine thenA_exit ?_ | refine thenA_ret ?_ | refine inB_normal ?_ | refine inB_ret ?_ | refine inB_here ?_ | (refine inB_past ?_ ?_; (· exact rfl)) | refine Holds.reg ?_ | refine Holds.block ?_ | refine GS.nil ?_ | refine Gd.nil ?_ | (refine Holds.any mixed ?_ ?_; (· kernel_rfl)) | (refine GS.step (s' := ?_) ?_ ?_ ?_; rotate_left; (· exact rfl); (· (simp [go_sem, List.take_of_length_le] <;> with_reducible rfl))) | (refine GS.skip ?_ ?_ ?_; (· exact rfl); (· exact rfl)) | (refine Gd.go (s' := ?_) ?_ ?_ ?_; rotate_left; (· exact rfl); (· (simp [go_sem, List.take_of_length_le] <;> with_reducible rfl))) | (refine Gd.skip ?_ ?_ ?_; (· exact rfl); (· exact rfl)) | refine Gx.nil ?_ | (refine Gx.go (s' := ?_) rfl ?_ ?_ ?_; rotate_left; (· exact rfl); (· (simp [go_sem, List.take_of_length_le] <;> with_reducible rfl))) | (refine Gx.skip rfl ?_ ?_ ?_; (· exact rfl); (· exact rfl)) | (refine Gx.skipO rfl ?_ ?_ ?_; (· exact rfl); (· exact rfl)) | (refine Gx.wo (s' := ?_) rfl ?_ ?_ ?_; rotate_left; (· exact rfl); (· (simp [go_sem, List.take_of_length_le] <;> with_reducible rfl))) | (refine Gx.skipW rfl ?_ ?_ ?_; (· exact rfl); (· exact rfl)) | (refine Gx.skipH rfl ?_ ?_ ?_; (· exact rfl); (· exact rfl)) | (refine Gx.hid (r := ?_) rfl ?_ ?_ ?_ ?_; rotate_left; (· exact rfl); (· exact rfl); (· (simp [go_sem, List.take_of_length_le] <;> with_reducible rfl))) | (refine Gx.wr (s' := ?_) rfl ?_ ?_ ?_ ?_; rotate_left; (· exact rfl); (· (simp [go_sem, List.take_of_length_le] <;> with_reducible rfl)); (· (simp [go_sem, List.take_of_length_le]))) | fail
    refine ⟨setsP, ⟨hS, hD⟩, ?_⟩
    refine OutF.mkn (xs := ?_) (nm [1]) ?_ ?_ ?_ ?_ ?_ (by first | exact .inr rfl | exact .inl rfl)
    rotate_left
    · simp [go_sem, List.take_of_length_le] <;> with_reducible rfl
    · simp [go_sem, List.take_of_length_le, ren, ren1, ren2, okr, okr1, okr2, ChkN, BlkN, List.range_succ, nf]
    · simp [go_sem, List.take_of_length_le, ren, ren1, ren2, okr, okr1, okr2, ChkN, BlkN, List.range_succ, nf]
    · simp [go_sem, List.take_of_length_le, ren, ren1, ren2, okr, okr1, okr2, ChkN, BlkN, List.range_succ, nf]
    · rfl
end Go.Proofs.Ytabdnpgahdbciaa.En
end
section
namespace Go.Proofs.Ytabdnpgahdbciaa.En
open Go.RowKit
set_option linter.unusedSimpArgs false
set_option linter.unusedVariables false
inductive PT where
  | node (non rule : Int) (at' fin frm to : Nat) (kids : List PT)
def PT.fin : PT → Nat
  | .node _ _ _ d _ _ _ => d
mutual
def partC : PT → List AV
  | .node a b c d e f ks => [.v (.int .i64 a), .v (.int .i64 b), .v (.int .i64 c), .v (.int .i64 d), .v (.int .i64 e), .v (.int .i64 f), .im 1 (kidsC ks)]
def kidsC : List PT → List (List AV)
  | [] => []
  | k :: ks => [.pi (partC k)] :: kidsC ks
end
@[simp] theorem kidsC_len : ∀ ks, (kidsC ks).length = ks.length
  | [] => rfl
  | k :: ks => by simp [kidsC, kidsC_len ks]
theorem kidsC_cl : ∀ (ks : List PT), ∀ row ∈ kidsC ks, ∀ x ∈ row, cl1 x = true
  | [], row, h, _, _ => by simp [kidsC] at h
  | k :: ks, row, h, x, hx => by
    simp only [kidsC, List.mem_cons] at h
    rcases h with rfl | h
    · simp at hx; subst hx; rfl
    · exact kidsC_cl ks row h x hx
@[simp] theorem nfr_kidsC (ks : List PT) : nfr (kidsC ks) := nfr_of_ok (kidsC_cl ks)
end Go.Proofs.Ytabdnpgahdbciaa.En
end
section
namespace Go.Proofs.Ytabdnpgahdbciaa.En
open Go.RowKit
set_option linter.unusedSimpArgs false
set_option linter.unusedVariables false
set_option maxHeartbeats 8000000
end Go.Proofs.Ytabdnpgahdbciaa.En
end
section
namespace Go.Proofs.Ytabdnpgahdbciaa.En
open Go.RowKit
set_option linter.unusedSimpArgs false
set_option linter.unusedVariables false
set_option maxHeartbeats 8000000
end Go.Proofs.Ytabdnpgahdbciaa.En
end
section
namespace Go.Proofs.Ytabdnpgahdbciaa.En
open Go.RowKit
set_option linter.unusedSimpArgs false
set_option linter.unusedVariables false
set_option maxHeartbeats 8000000
end Go.Proofs.Ytabdnpgahdbciaa.En
end
section
namespace Go.Proofs.Ytabdnpgahdbciaa.En
open Go.RowKit
set_option linter.unusedSimpArgs false
set_option linter.unusedVariables false
end Go.Proofs.Ytabdnpgahdbciaa.En
end
section
namespace Go.Proofs.Ytabdnpgahdbciaa.En
open Go.RowKit
set_option linter.unusedSimpArgs false
set_option linter.unusedVariables false
set_option maxHeartbeats 8000000
def wordV (toks : Int) (w : List Int) : Bool := decide (w.length ≤ 10) && w.all fun n => inR n 0 (toks - 1)
theorem l1Word (g : GrammarT) (w : List Int) (h0 : -1000000 ≤ g.2.1) (h1 : g.2.1 ≤ 1000000) (hw : w.length < 4611686018427387904) : Pure Try.prog 56 [.ag (grammarC g), .im 1 (ints w)] (.v (.bool (wordV g.2.1 w))) := by
  refine Pure.mk (rs := [.tmp 4]) (nt := 15) Try.func56 (by kernel_rfl) rfl rfl rfl (by simp) ?_
  simp only [sl, grammarC]
  have hws : wr64 (g.2.1 - 1) = g.2.1 - 1 := wr64_id (by omega) (by omega)
  have c := l1All w 0 (g.2.1 - 1) hw
  unfold wordV
  rw [show decide (w.length ≤ 10) = decide ((w.length : Int) ≤ 10) by rw [decide_eq_decide]; omega]
  generalize (w.all fun n => inR n 0 (g.2.1 - 1)) = b at c
  repeat' first | refine Holds.seq ?_ | refine Holds.skip ?_ | refine Holds.exit ?_ | refine Holds.ret ?_ | refine thenA_normal ?_ | refine thenA_exit ?_ | refine thenA_ret ?_ | refine inB_normal ?_ | refine inB_ret ?_ | refine inB_here ?_ | (refine inB_past ?_ ?_; (· exact rfl)) | refine Holds.reg ?_ | refine Holds.block ?_ | refine GS.nil ?_ | (refine GS.step (s' := ?_) ?_ ?_ ?_; rotate_left; (· exact rfl); (· (simp [go_sem, List.take_of_length_le] <;> with_reducible rfl))) | (refine GS.skip ?_ ?_ ?_; (· exact rfl); (· exact rfl)) | fail
  refine GS.guard (t := 8) rfl (fun h => ?_) (fun h => ?_)
  · repeat' first | refine Holds.seq ?_ | refine Holds.skip ?_ | refine Holds.exit ?_ | refine Holds.ret ?_ | refine thenA_normal ?_ | refine thenA_exit ?_ | refine thenA_ret ?_ | refine inB_normal ?_ | refine inB_ret ?_ | refine inB_here ?_ | (refine inB_past ?_ ?_; (· exact rfl)) | refine Holds.reg ?_ | refine Holds.block ?_ | refine GS.nil ?_ | (refine GS.step (s' := ?_) ?_ ?_ ?_; rotate_left; (· exact rfl); (· (simp [go_sem, List.take_of_length_le, hws] <;> with_reducible rfl))) | (refine GS.skip ?_ ?_ ?_; (· exact rfl); (· exact rfl)) | fail
    refine GS.cc (c) rfl rfl rfl rfl (by simp [go_sem, List.take_of_length_le] <;> with_reducible rfl) rfl (by simp [go_sem, List.take_of_length_le]) ?_
    repeat' first | refine Holds.seq ?_ | refine Holds.skip ?_ | refine Holds.exit ?_ | refine Holds.ret ?_ | refine thenA_normal ?_ | refine thenA_exit ?_ | refine thenA_ret ?_ | refine inB_normal ?_ | refine inB_ret ?_ | refine inB_here ?_ | (refine inB_past ?_ ?_; (· exact rfl)) | refine Holds.reg ?_ | refine Holds.block ?_ | refine GS.nil ?_ | (refine GS.step (s' := ?_) ?_ ?_ ?_; rotate_left; (· exact rfl); (· (simp [go_sem, List.take_of_length_le] <;> with_reducible rfl))) | (refine GS.skip ?_ ?_ ?_; (· exact rfl); (· exact rfl)) | fail
    rw [h]
    refine Out.mk (xs := ?_) ?_ ?_ (by first | exact .inr rfl | exact .inl rfl)
    rotate_left
    · simp [go_sem, List.take_of_length_le] <;> with_reducible rfl
    exact .v _
  · repeat' first | refine Holds.seq ?_ | refine Holds.skip ?_ | refine Holds.exit ?_ | refine Holds.ret ?_ | refine thenA_normal ?_ | refine thenA_exit ?_ | refine thenA_ret ?_ | refine inB_normal ?_ | refine inB_ret ?_ | refine inB_here ?_ | (refine inB_past ?_ ?_; (· exact rfl)) | refine Holds.reg ?_ | refine Holds.block ?_ | refine GS.nil ?_ | (refine GS.step (s' := ?_) ?_ ?_ ?_; rotate_left; (· exact rfl); (· (simp [go_sem, List.take_of_length_le] <;> with_reducible rfl))) | (refine GS.skip ?_ ?_ ?_; (· exact rfl); (· exact rfl)) | fail
    rw [h]
    refine Out.mk (xs := ?_) ?_ ?_ (by first | exact .inr rfl | exact .inl rfl)
    rotate_left
    · simp [go_sem, List.take_of_length_le] <;> with_reducible rfl
    exact .v _
theorem goodWord (g : GrammarT) (w : List Int) (hx : g.2.2.length < 4611686018427387904) (hs : ∀ e ∈ g.2.2, e.2.length < 4611686018427387904) (hw : w.length < 4611686018427387904) : Pure Try.prog 30 [.ag (grammarC g), .im 1 (ints w)] (.v (.bool (goodG g && wordV g.2.1 w))) := by
  refine Pure.mk (rs := [.tmp 4]) (nt := 12) Try.func30 (by kernel_rfl) rfl rfl rfl (by simp) ?_
  simp only [sl, grammarC]
  have c1 := specGoodG g hx hs
  generalize hg : goodG g = b at c1
  repeat' first | refine Holds.seq ?_ | refine Holds.skip ?_ | refine Holds.exit ?_ | refine Holds.ret ?_ | refine thenA_normal ?_ | refine thenA_exit ?_ | refine thenA_ret ?_ | refine inB_normal ?_ | refine inB_ret ?_ | refine inB_here ?_ | (refine inB_past ?_ ?_; (· exact rfl)) | refine Holds.reg ?_ | refine Holds.block ?_ | refine GS.nil ?_ | (refine GS.step (s' := ?_) ?_ ?_ ?_; rotate_left; (· exact rfl); (· (simp [go_sem, List.take_of_length_le] <;> with_reducible rfl))) | (refine GS.skip ?_ ?_ ?_; (· exact rfl); (· exact rfl)) | fail
  refine GS.cc (c1) rfl rfl rfl rfl (by simp [go_sem, List.take_of_length_le, grammarC] <;> with_reducible rfl) rfl (by simp [go_sem, List.take_of_length_le, grammarC]) ?_
  repeat' first | refine Holds.seq ?_ | refine Holds.skip ?_ | refine Holds.exit ?_ | refine Holds.ret ?_ | refine thenA_normal ?_ | refine thenA_exit ?_ | refine thenA_ret ?_ | refine inB_normal ?_ | refine inB_ret ?_ | refine inB_here ?_ | (refine inB_past ?_ ?_; (· exact rfl)) | refine Holds.reg ?_ | refine Holds.block ?_ | refine GS.nil ?_ | (refine GS.step (s' := ?_) ?_ ?_ ?_; rotate_left; (· exact rfl); (· (simp [go_sem, List.take_of_length_le] <;> with_reducible rfl))) | (refine GS.skip ?_ ?_ ?_; (· exact rfl); (· exact rfl)) | fail
  refine GS.guard (t := 7) rfl (fun h => ?_) (fun h => ?_)
  · subst h
    have hok := goodG_ok hg
    repeat' first | refine Holds.seq ?_ | refine Holds.skip ?_ | refine Holds.exit ?_ | refine Holds.ret ?_ | refine thenA_normal ?_ | refine thenA_exit ?_ | refine thenA_ret ?_ | refine inB_normal ?_ | refine inB_ret ?_ | refine inB_here ?_ | (refine inB_past ?_ ?_; (· exact rfl)) | refine Holds.reg ?_ | refine Holds.block ?_ | refine GS.nil ?_ | (refine GS.step (s' := ?_) ?_ ?_ ?_; rotate_left; (· exact rfl); (· (simp [go_sem, List.take_of_length_le, grammarC] <;> with_reducible rfl))) | (refine GS.skip ?_ ?_ ?_; (· exact rfl); (· exact rfl)) | fail
    refine GS.cc (l1Word g w (by have := hok.t0; omega) (by have := hok.t1; omega) hw) rfl rfl rfl rfl (by simp [go_sem, List.take_of_length_le, grammarC] <;> with_reducible rfl) rfl (by simp [go_sem, List.take_of_length_le, grammarC]) ?_
    repeat' first | refine Holds.seq ?_ | refine Holds.skip ?_ | refine Holds.exit ?_ | refine Holds.ret ?_ | refine thenA_normal ?_ | refine thenA_exit ?_ | refine thenA_ret ?_ | refine inB_normal ?_ | refine inB_ret ?_ | refine inB_here ?_ | (refine inB_past ?_ ?_; (· exact rfl)) | refine Holds.reg ?_ | refine Holds.block ?_ | refine GS.nil ?_ | (refine GS.step (s' := ?_) ?_ ?_ ?_; rotate_left; (· exact rfl); (· (simp [go_sem, List.take_of_length_le] <;> with_reducible rfl))) | (refine GS.skip ?_ ?_ ?_; (· exact rfl); (· exact rfl)) | fail
    refine Out.mk (xs := ?_) ?_ ?_ (by first | exact .inr rfl | exact .inl rfl)
    rotate_left
    · simp [go_sem, List.take_of_length_le] <;> with_reducible rfl
    exact .v _
  · subst h
    repeat' first | refine Holds.seq ?_ | refine Holds.skip ?_ | refine Holds.exit ?_ | refine Holds.ret ?_ | refine thenA_normal ?_ | refine thenA_exit ?_ | refine thenA_ret ?_ | refine inB_normal ?_ | refine inB_ret ?_ | refine inB_here ?_ | (refine inB_past ?_ ?_; (· exact rfl)) | refine Holds.reg ?_ | refine Holds.block ?_ | refine GS.nil ?_ | (refine GS.step (s' := ?_) ?_ ?_ ?_; rotate_left; (· exact rfl); (· (simp [go_sem, List.take_of_length_le] <;> with_reducible rfl))) | (refine GS.skip ?_ ?_ ?_; (· exact rfl); (· exact rfl)) | fail
    refine Out.mk (xs := ?_) ?_ ?_ (by first | exact .inr rfl | exact .inl rfl)
    rotate_left
    · simp [go_sem, List.take_of_length_le] <;> with_reducible rfl
    exact .v _
end Go.Proofs.Ytabdnpgahdbciaa.En
end
section
namespace Go.Proofs.Ytabdnpgahdbciaa.En
open Go.RowKit
set_option linter.unusedSimpArgs false
set_option linter.unusedVariables false
set_option maxHeartbeats 8000000
end Go.Proofs.Ytabdnpgahdbciaa.En
end
section
namespace Go.Proofs.Ytabdnpgahdbciaa.En
open Go.RowKit
set_option linter.unusedSimpArgs false
set_option linter.unusedVariables false
set_option maxHeartbeats 8000000
theorem isWord1 (n t : Int) (h0 : -1000000 ≤ t) (h1 : t ≤ 1000000) : Pure Try.prog 63 [.v (.int .i64 n), .pi [.v (.int .i64 t)]] (.v (.bool (!inR n 0 (t - 1)))) := by
  refine Pure.mk (rs := [.tmp 3]) (nt := 9) Try.func63 (by kernel_rfl) rfl rfl rfl (by simp) ?_
  simp only [sl]
  have hw : wr64 (t - 1) = t - 1 := wr64_id (by omega) (by omega)
  repeat' first | refine Holds.seq ?_ | refine Holds.skip ?_ | refine Holds.exit ?_ | refine Holds.ret ?_ | refine thenA_normal ?_ | refine thenA_exit ?_ | refine thenA_ret ?_ | refine inB_normal ?_ | refine inB_ret ?_ | refine inB_here ?_ | (refine inB_past ?_ ?_; (· exact rfl)) | refine Holds.reg ?_ | refine Holds.block ?_ | refine GS.nil ?_ | (refine GS.step (s' := ?_) ?_ ?_ ?_; rotate_left; (· exact rfl); (· (simp [go_sem, List.take_of_length_le, hw] <;> with_reducible rfl))) | (refine GS.skip ?_ ?_ ?_; (· exact rfl); (· exact rfl)) | fail
  refine GS.cc (implIn n 0 (t - 1)) rfl rfl rfl rfl (by simp [go_sem, List.take_of_length_le] <;> with_reducible rfl) rfl (by simp [go_sem, List.take_of_length_le]) ?_
  repeat' first | refine Holds.seq ?_ | refine Holds.skip ?_ | refine Holds.exit ?_ | refine Holds.ret ?_ | refine thenA_normal ?_ | refine thenA_exit ?_ | refine thenA_ret ?_ | refine inB_normal ?_ | refine inB_ret ?_ | refine inB_here ?_ | (refine inB_past ?_ ?_; (· exact rfl)) | refine Holds.reg ?_ | refine Holds.block ?_ | refine GS.nil ?_ | (refine GS.step (s' := ?_) ?_ ?_ ?_; rotate_left; (· exact rfl); (· (simp [go_sem, List.take_of_length_le] <;> with_reducible rfl))) | (refine GS.skip ?_ ?_ ?_; (· exact rfl); (· exact rfl)) | fail
  refine Out.mk (xs := ?_) ?_ ?_ (by first | exact .inr rfl | exact .inl rfl)
  rotate_left
  · simp [go_sem, List.take_of_length_le] <;> with_reducible rfl
  exact .v _
theorem isWord (t : Int) (w : List Int) (h0 : -1000000 ≤ t) (h1 : t ≤ 1000000) (hw : w.length < 4611686018427387904) : Pure Try.prog 34 [.v (.int .i64 t), .im 1 (ints w)] (.v (.bool (wordV t w))) := by
  refine Pure.mk (rs := [.tmp 4]) (nt := 14) Try.func34 (by kernel_rfl) rfl rfl rfl (by simp) ?_
  simp only [sl]
  have hc := containsFuncInt 63 [.pi [.v (.int .i64 t)]] (fun n => !inR n 0 (t - 1)) w hw rfl (fun x _ => isWord1 x t h0 h1)
  unfold wordV
  rw [all_not_any (fun n => inR n 0 (t - 1)) w, show decide (w.length ≤ 10) = decide ((w.length : Int) ≤ 10) by rw [decide_eq_decide]; omega]
  generalize (w.any fun n => !inR n 0 (t - 1)) = b at hc
  repeat' first | refine Holds.seq ?_ | refine Holds.skip ?_ | refine Holds.exit ?_ | refine Holds.ret ?_ | refine thenA_normal ?_ | refine thenA_exit ?_ | refine thenA_ret ?_ | refine inB_normal ?_ | refine inB_ret ?_ | refine inB_here ?_ | (refine inB_past ?_ ?_; (· exact rfl)) | refine Holds.reg ?_ | refine Holds.block ?_ | refine GS.nil ?_ | (refine GS.step (s' := ?_) ?_ ?_ ?_; rotate_left; (· exact rfl); (· (simp [go_sem, List.take_of_length_le] <;> with_reducible rfl))) | (refine GS.skip ?_ ?_ ?_; (· exact rfl); (· exact rfl)) | fail
  refine GS.guard (t := 8) rfl (fun h => ?_) (fun h => ?_)
  · repeat' first | refine Holds.seq ?_ | refine Holds.skip ?_ | refine Holds.exit ?_ | refine Holds.ret ?_ | refine thenA_normal ?_ | refine thenA_exit ?_ | refine thenA_ret ?_ | refine inB_normal ?_ | refine inB_ret ?_ | refine inB_here ?_ | (refine inB_past ?_ ?_; (· exact rfl)) | refine Holds.reg ?_ | refine Holds.block ?_ | refine GS.nil ?_ | (refine GS.step (s' := ?_) ?_ ?_ ?_; rotate_left; (· exact rfl); (· (simp [go_sem, List.take_of_length_le] <;> with_reducible rfl))) | (refine GS.skip ?_ ?_ ?_; (· exact rfl); (· exact rfl)) | fail
    refine GS.cd (hc) rfl rfl rfl rfl (by simp [go_sem, List.take_of_length_le] <;> with_reducible rfl) rfl (by exact .cons (.im _ _) (.cons (Fz.fnL (.cons (Fz.box rfl rfl rfl rfl) .nil)) .nil)) rfl ?_
    repeat' first | refine Holds.seq ?_ | refine Holds.skip ?_ | refine Holds.exit ?_ | refine Holds.ret ?_ | refine thenA_normal ?_ | refine thenA_exit ?_ | refine thenA_ret ?_ | refine inB_normal ?_ | refine inB_ret ?_ | refine inB_here ?_ | (refine inB_past ?_ ?_; (· exact rfl)) | refine Holds.reg ?_ | refine Holds.block ?_ | refine GS.nil ?_ | (refine GS.step (s' := ?_) ?_ ?_ ?_; rotate_left; (· exact rfl); (· (simp [go_sem, List.take_of_length_le] <;> with_reducible rfl))) | (refine GS.skip ?_ ?_ ?_; (· exact rfl); (· exact rfl)) | fail
    rw [h]
    refine Out.mk (xs := ?_) ?_ ?_ (by first | exact .inr rfl | exact .inl rfl)
    rotate_left
    · simp [go_sem, List.take_of_length_le] <;> with_reducible rfl
    exact .v _
  · repeat' first | refine Holds.seq ?_ | refine Holds.skip ?_ | refine Holds.exit ?_ | refine Holds.ret ?_ | refine thenA_normal ?_ | refine thenA_exit ?_ | refine thenA_ret ?_ | refine inB_normal ?_ | refine inB_ret ?_ | refine inB_here ?_ | (refine inB_past ?_ ?_; (· exact rfl)) | refine Holds.reg ?_ | refine Holds.block ?_ | refine GS.nil ?_ | (refine GS.step (s' := ?_) ?_ ?_ ?_; rotate_left; (· exact rfl); (· (simp [go_sem, List.take_of_length_le] <;> with_reducible rfl))) | (refine GS.skip ?_ ?_ ?_; (· exact rfl); (· exact rfl)) | fail
    rw [h]
    refine Out.mk (xs := ?_) ?_ ?_ (by first | exact .inr rfl | exact .inl rfl)
    rotate_left
    · simp [go_sem, List.take_of_length_le] <;> with_reducible rfl
    exact .v _
end Go.Proofs.Ytabdnpgahdbciaa.En
end
section
namespace Go.Proofs.Ytabdnpgahdbciaa.En
open Go.RowKit
set_option linter.unusedSimpArgs false
set_option linter.unusedVariables false
set_option maxHeartbeats 8000000
theorem wordV_ok {t : Int} {w : List Int} (ht : t ≤ 4) (h : wordV t w = true) : w.length ≤ 10 ∧ ∀ x ∈ w, 0 ≤ x ∧ x ≤ 3 := by
  simp only [wordV, Bool.and_eq_true, decide_eq_true_eq] at h
  refine ⟨h.1, fun x hx => ?_⟩
  have := (List.all_eq_true.1 h.2) x hx
  have : 0 ≤ x ∧ x ≤ t - 1 := by simpa [inR] using this
  omega
theorem good_toksG {g : GrammarT} (h : goodG g = true) : 1 ≤ g.2.1 ∧ g.2.1 ≤ 4 := by
  simp only [goodG, Bool.and_eq_true] at h
  simpa [inR] using h.1.1.2
end Go.Proofs.Ytabdnpgahdbciaa.En
end
section
namespace Go.Proofs.Ytabdnpgahdbciaa.En
open Go.RowKit
set_option linter.unusedSimpArgs false
set_option linter.unusedVariables false
set_option maxHeartbeats 4000000
theorem allB_of {p : Nat → Bool} : ∀ {n : Nat}, (∀ i, i < n → p i = true) → allB p n = true
  | 0, _ => rfl
  | n + 1, h => by
    unfold allB
    rw [allB_of fun i hi => h i (by omega), h n (by omega)]; rfl
theorem goodAt_get {g : GrammarT} (h : goodG g = true) {i : Nat} {r : RuleT} (hi : g.2.2[i]? = some r) : inR r.1 0 (g.1 - 1) = true ∧ r.2.length ≤ 4 ∧ r.2.all (symOk g.1 g.2.1) = true ∧ r ∉ g.2.2.take i := by
  have hlt := (List.getElem?_eq_some_iff.1 hi).1
  simp only [goodG, Bool.and_eq_true] at h
  have ha := allB_at h.2 hlt
  have hd : g.2.2.getD i (0, []) = r := by rw [List.getD_eq_getElem?_getD, hi]; rfl
  unfold goodAtG at ha
  rw [hd] at ha
  simp only [Bool.and_eq_true, decide_eq_true_eq, Bool.not_eq_true', List.any_eq_false] at ha
  exact ⟨ha.1.1.1, ha.1.1.2, ha.1.2, fun hm => ha.2 r hm rfl⟩
theorem good_nodup {g : GrammarT} (h : goodG g = true) : g.2.2.Nodup := by
  refine List.pairwise_iff_getElem.2 fun i j hi hj hij e => ?_
  refine (goodAt_get h (List.getElem?_eq_getElem hj)).2.2.2 ?_
  rw [← e]
  exact List.mem_of_getElem? (i := i) (by rw [List.getElem?_take, if_pos hij, List.getElem?_eq_getElem hi])
theorem good_filter {g : GrammarT} (h : goodG g = true) (p : RuleT → Bool) : goodG (g.1, g.2.1, g.2.2.filter p) = true := by
  have h0 := h
  simp only [goodG, Bool.and_eq_true, decide_eq_true_eq] at h0 ⊢
  refine ⟨⟨h0.1.1, Nat.le_trans (List.length_filter_le _ _) h0.1.2⟩, allB_of fun i hi => ?_⟩
  have hri : (g.2.2.filter p)[i]? = some (g.2.2.filter p)[i] := List.getElem?_eq_getElem hi
  have hm := List.getElem_mem hi
  have hnd : (g.2.2.filter p).Nodup := (good_nodup h).filter _
  have hno : (g.2.2.filter p)[i] ∉ (g.2.2.filter p).take i := fun hm2 => by
    obtain ⟨j, hj⟩ := List.mem_iff_getElem?.1 hm2
    rw [List.getElem?_take] at hj
    split at hj
    · rename_i hji
      obtain ⟨hjl, e⟩ := List.getElem?_eq_some_iff.1 hj
      exact List.pairwise_iff_getElem.1 hnd j i hjl hi hji e
    · cases hj
  generalize (g.2.2.filter p)[i] = r at hri hm hno
  obtain ⟨j, hj⟩ := List.mem_iff_getElem?.1 (List.mem_filter.1 hm).1
  obtain ⟨a, b, c, _⟩ := goodAt_get h hj
  have hd : (g.2.2.filter p).getD i (0, []) = r := by rw [List.getD_eq_getElem?_getD, hri]; rfl
  unfold goodAtG
  simp only [hd]
  rw [a, c, decide_eq_true b]
  simp only [Bool.true_and, Bool.not_eq_true', List.any_eq_false, decide_eq_true_eq]
  exact fun s hs e => hno (e ▸ hs)
theorem good_useful {g : GrammarT} (h : goodG g = true) : goodG (usefulG g) = true := good_filter (g := usF g) (good_filter h (okU g)) _
noncomputable def lastU (g : GrammarT) (w : List Int) : List Item3 := at3 (setsC (usefulG g) w) w.length
theorem l13Last (g : GrammarT) (hg : goodG g = true) (w : List Int) (hw : w.length ≤ 10) : Pure Try.prog 39 [.ag (grammarC g), .im 1 (ints w)] (.im 3 (nodes (lastU g w))) := by
  have hgu := good_useful hg
  have cu := l3Useful g (goodG_ok hg)
  have cs := l13Sets (usefulG g) hgu w hw
  have hS := setsC_R hgu hw
  have hlen : w.length < (setsC (usefulG g) w).length := by rw [hS.1.ln]; omega
  have hat := at3_get hlen
  unfold lastU
  generalize setsC (usefulG g) w = sets at cs hat hlen ⊢
  generalize at3 sets w.length = S at hat ⊢
  generalize usefulG g = u at cu cs
  refine Pure.mk (rs := [.tmp 4]) (nt := 13) Try.func39 (by kernel_rfl) rfl rfl rfl (by simp) ?_
  simp only [sl, grammarC]
  repeat' first | (refine Holds.condT ?_ ?_; (· (simp [go_sem, List.take_of_length_le, grammarC] <;> with_reducible rfl))) | (refine Holds.condF ?_ ?_; (· (simp [go_sem, List.take_of_length_le, grammarC] <;> with_reducible rfl))) | refine Holds.seq ?_ | refine Holds.skip ?_ | refine Holds.exit ?_ | refine Holds.ret ?_ | refine thenA_normal ?_ | refine thenA_exit ?_ | refine thenA_ret ?_ | refine inB_normal ?_ | refine inB_ret ?_ | refine inB_here ?_ | (refine inB_past ?_ ?_; (· exact rfl)) | refine Holds.reg ?_ | refine Holds.block ?_ | refine GS.nil ?_ | (refine GS.step (s' := ?_) ?_ ?_ ?_; rotate_left; (· exact rfl); (· (simp [go_sem, List.take_of_length_le, grammarC] <;> with_reducible rfl))) | (refine GS.skip ?_ ?_ ?_; (· exact rfl); (· exact rfl)) | fail
  refine GS.cc (cu) rfl rfl rfl rfl (by simp [go_sem, List.take_of_length_le, grammarC] <;> with_reducible rfl) rfl (by simp [go_sem, List.take_of_length_le, grammarC]) ?_
  repeat' first | (refine Holds.condT ?_ ?_; (· (simp [go_sem, List.take_of_length_le, grammarC] <;> with_reducible rfl))) | (refine Holds.condF ?_ ?_; (· (simp [go_sem, List.take_of_length_le, grammarC] <;> with_reducible rfl))) | refine Holds.seq ?_ | refine Holds.skip ?_ | refine Holds.exit ?_ | refine Holds.ret ?_ | refine thenA_normal ?_ | refine thenA_exit ?_ | refine thenA_ret ?_ | refine inB_normal ?_ | refine inB_ret ?_ | refine inB_here ?_ | (refine inB_past ?_ ?_; (· exact rfl)) | refine Holds.reg ?_ | refine Holds.block ?_ | refine GS.nil ?_ | (refine GS.step (s' := ?_) ?_ ?_ ?_; rotate_left; (· exact rfl); (· (simp [go_sem, List.take_of_length_le, grammarC] <;> with_reducible rfl))) | (refine GS.skip ?_ ?_ ?_; (· exact rfl); (· exact rfl)) | fail
  refine GS.cc (cs) rfl rfl rfl rfl (by simp [go_sem, List.take_of_length_le, grammarC] <;> with_reducible rfl) rfl (by simp [go_sem, List.take_of_length_le, grammarC]) ?_
  repeat' first | (refine Holds.condT ?_ ?_; (· (simp [go_sem, List.take_of_length_le, hlen, get_E hat, hat, itemssC] <;> with_reducible rfl))) | (refine Holds.condF ?_ ?_; (· (simp [go_sem, List.take_of_length_le, hlen, get_E hat, hat, itemssC] <;> with_reducible rfl))) | refine Holds.seq ?_ | refine Holds.skip ?_ | refine Holds.exit ?_ | refine Holds.ret ?_ | refine thenA_normal ?_ | refine thenA_exit ?_ | refine thenA_ret ?_ | refine inB_normal ?_ | refine inB_ret ?_ | refine inB_here ?_ | (refine inB_past ?_ ?_; (· exact rfl)) | refine Holds.reg ?_ | refine Holds.block ?_ | refine GS.nil ?_ | (refine GS.step (s' := ?_) ?_ ?_ ?_; rotate_left; (· exact rfl); (· (simp [go_sem, List.take_of_length_le, hlen, get_E hat, hat, itemssC] <;> with_reducible rfl))) | (refine GS.skip ?_ ?_ ?_; (· exact rfl); (· exact rfl)) | fail
  refine Out.mk (xs := ?_) ?_ ?_ (by first | exact .inr rfl | exact .inl rfl)
  rotate_left
  · simp [go_sem, List.take_of_length_le] <;> with_reducible rfl
  exact .im _ _
end Go.Proofs.Ytabdnpgahdbciaa.En
end
