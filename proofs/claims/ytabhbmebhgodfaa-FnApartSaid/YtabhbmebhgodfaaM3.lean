/- Own words and walks of this claim, part 3: what the program's functions compute, for all the arguments that are named; no further conditions. -/
import Derived.Test.YtabhbmebhgodfaaM2
section
namespace Go.Proofs.Ytabhbmebhgodfaa.En
open Go.RowKit
set_option linter.unusedSimpArgs false
set_option linter.unusedVariables false
set_option maxHeartbeats 4000000
theorem ints_dropF (l : List Int) (n : Nat) : (ints l).drop n = ints (l.drop n) := by simp [ints, List.map_drop]
theorem ints_takeF (l : List Int) (n : Nat) : (ints l).take n = ints (l.take n) := by simp [ints, List.map_take]
theorem ints_allF (l : List Int) (P : List AV → Prop) : (∀ x, x ∈ ints l → P x) ↔ ∀ n, n ∈ l → P [.v (.int .i64 n)] := by simp [ints]
theorem l1OwnA (xs : List Int) (hx : xs.length ≤ 1000000) : Fn Try.prog 10 0 [.im 1 (ints xs)] [] (.own 0 1 0 xs.length) 1 [(0, ⟨3, 1, ints xs⟩)] := by
  have hb : xs.length * 8 ≤ 140737488355328 := by omega
  refine Fn.mk (rs := [.tmp 2]) (nt := 6) Try.func10 (by kernel_rfl) rfl rfl rfl (by simp) ?_
  simp only [sl]
  refine wkc (And.intro @ints_allF (@hb)) _ ?_
  refine OutF.mkn (xs := ?_) (nm [2]) ?_ ?_ ?_ ?_ ?_ (by first | exact .inr rfl | exact .inl rfl)
  rotate_left
  · simp [go_sem, List.take_of_length_le] <;> with_reducible rfl
  · simp [go_sem, List.take_of_length_le, ren, ren1, ren2, okr, okr1, okr2, ChkN, BlkN, List.range_succ, nf]
  · simp [go_sem, List.take_of_length_le, ren, ren1, ren2, okr, okr1, okr2, ChkN, BlkN, List.range_succ, nf]
  · simp [go_sem, List.take_of_length_le, ren, ren1, ren2, okr, okr1, okr2, ChkN, BlkN, List.range_succ, nf]
  · rfl
def drawA (code : List Int) : Nat → List Int → St2 → List Int × St2
  | 0, a, st => (a, st)
  | n + 1, a, st => drawA code n (a ++ [pickV code 3 st]) (pickS code 3 st)
def stepB (code : List Int) (b : List Int) (st : St2) : List Int := b.take (pickV code ((b.length : Int) + 1) st).toNat ++ [pickV code 3 (pickS code ((b.length : Int) + 1) st)] ++ b.drop (pickV code ((b.length : Int) + 1) st).toNat
def drawB (code : List Int) : Nat → List Int → St2 → List Int
  | 0, b, _ => b
  | n + 1, b, st => drawB code n (stepB code b st) (pickS code 3 (pickS code ((b.length : Int) + 1) st))
def drA (code : List Int) : List Int × St2 := drawA code (pickV code 7 (0, 0)).toNat [] (pickS code 7 (0, 0))
def drB0 (code : List Int) : List Int := if pickV code 3 (drA code).2 = 0 then [] else (drA code).1
def drS (code : List Int) : St2 := pickS code 3 (drA code).2
def drB (code : List Int) : List Int := drawB code (pickV code 4 (drS code)).toNat (drB0 code) (pickS code 4 (drS code))
theorem drawApart (code : List Int) (hc : code.length ≤ 2000000) (hb : ∀ b ∈ code, 0 ≤ b ∧ b ≤ 255) : Pure Try.prog 5 [.im 1 (byteRows code)] (.tu [.im 1 (ints (drA code).1), .im 1 (ints (drB code))]) := by
  have hp := fun n h0 h1 st hs => pickF code hc hb n h0 h1 st hs
  have ho := fun n h0 h1 st hs => oneF code hc hb n h0 h1 st hs
  have hrng := fun n hn st => pickV_rng hb n hn st
  have hat := fun n st => pickS_at code n st
  have c7 := hp 7 (by omega) (by omega) (0, 0) (by simp)
  have r7 := hrng 7 (by omega) (0, 0)
  have a7 := hat 7 (0, 0)
  unfold drB drB0 drS
  obtain ⟨R, hR⟩ : ∃ R, R = drA code := ⟨_, rfl⟩
  rw [← hR]
  unfold drA at hR
  generalize pickV code 7 (0, 0) = v7 at c7 r7 hR
  generalize pickS code 7 (0, 0) = s7 at c7 a7 hR
  obtain ⟨n7, rfl⟩ : ∃ n : Nat, v7 = (n : Int) := ⟨v7.toNat, by omega⟩
  rw [Int.toNat_natCast] at hR
  dsimp only at a7
  refine Pure.mk (rs := [.tmp 2, .tmp 3]) (nt := 56) Try.func5 (by kernel_rfl) rfl rfl rfl (by simp) ?_
  simp only [sl]
  refine wkc0 _ ?_
  refine GS.fnn [0] (c7) rfl rfl rfl rfl (by simp [go_sem, List.take_of_length_le, ren, ren1, ren2, okr, okr1, okr2, ChkN, BlkN, List.range_succ, nf, curC] <;> with_reducible rfl) (by simp [go_sem, List.take_of_length_le, ren, ren1, ren2, okr, okr1, okr2, ChkN, BlkN, List.range_succ, nf, curC]) (by simp [go_sem, List.take_of_length_le, ren, ren1, ren2, okr, okr1, okr2, ChkN, BlkN, List.range_succ, nf, curC]) (by simp [List.range_succ, lb]) (ChkN.toB (by simp [go_sem, List.take_of_length_le, ren, ren1, ren2, okr, okr1, okr2, ChkN, BlkN, List.range_succ, nf, curC])) (by decide) (by simp) rfl (.nfr (by simp [curC, nf]) .nil) (by simp [go_sem, List.take_of_length_le, ren, ren1, ren2, okr, okr1, okr2, ChkN, BlkN, List.range_succ, nf, curC] <;> with_reducible rfl) ?_
  refine wkc0 _ ?_
  refine Holds.niw 5 3 1 rfl ?_
  refine Holds.loop (ι := Nat × List Int × St2) (fun x => ⟨[(2, .v (.slice none 0 0)), (3, .v (.slice none 0 0)), (4, .pb 0 3 0 0), (5, .own 1 1 0 x.2.1.length), (6, .v (.slice none 0 0)), (7, .v (.int .i64 x.1))], [(1, ⟨3, 1, ints x.2.1⟩), (0, ⟨33, 3, [curC code x.2.2]⟩)], 2⟩)
    (fun x => R = drawA code x.1 x.2.1 x.2.2 ∧ x.2.1.length + x.1 ≤ 6 ∧ x.2.2.1 + x.1 ≤ 8) (fun x => x.1) (n7, [], s7) ⟨hR, by simp; omega, by simp; omega⟩ ?_ ?_
  · exact Cov.ofn (nm [0, 1]) rfl (by simp [go_sem, List.take_of_length_le, ren, ren1, ren2, okr, okr1, okr2, ChkT, ChkN, BlkN, nf, niw, curC]) (by simp [go_sem, List.take_of_length_le, ren, ren1, ren2, okr, okr1, okr2, ChkT, ChkN, BlkN, nf, niw, curC])
  clear hR r7 a7 c7
  rintro ⟨n, a, st⟩ ⟨hR, h1, h2⟩
  dsimp only at hR h1 h2 ⊢
  refine wkc0 _ ?_
  refine Holds.cond rfl (fun h => ?_) (fun h => ?_)
  · have hn : 0 < n := by simpa using h
    obtain ⟨m, rfl⟩ : ∃ m, n = m + 1 := ⟨n - 1, by omega⟩
    have c3 := hp 3 (by omega) (by omega) st (by omega)
    have r3 := hrng 3 (by omega) st
    have a3 := hat 3 st
    rw [drawA] at hR
    generalize pickV code 3 st = v at c3 r3 hR
    generalize pickS code 3 st = st2 at c3 a3 hR
    have hbb : (a.length + 1) * 8 ≤ 140737488355328 := by omega
    have hwn : wr64 (((m + 1 : Nat) : Int) - 1) = (m : Int) := by rw [wr64_id (by omega) (by omega)]; omega
    have hwm : wr64 (m : Int) = (m : Int) := wr64_id (by omega) (by omega)
    refine wkc0 _ ?_
    refine GS.fnn [0] (c3) rfl rfl rfl rfl (by simp [go_sem, List.take_of_length_le, ren, ren1, ren2, okr, okr1, okr2, ChkN, BlkN, List.range_succ, nf, curC] <;> with_reducible rfl) (by simp [go_sem, List.take_of_length_le, ren, ren1, ren2, okr, okr1, okr2, ChkN, BlkN, List.range_succ, nf, curC]) (by simp [go_sem, List.take_of_length_le, ren, ren1, ren2, okr, okr1, okr2, ChkN, BlkN, List.range_succ, nf, curC]) (by simp [List.range_succ, lb]) (ChkN.toB (by simp [go_sem, List.take_of_length_le, ren, ren1, ren2, okr, okr1, okr2, ChkN, BlkN, List.range_succ, nf, curC])) (by decide) (by simp) rfl (.nfr (by simp [curC, nf]) .nil) (by simp [go_sem, List.take_of_length_le, ren, ren1, ren2, okr, okr1, okr2, ChkN, BlkN, List.range_succ, nf, curC] <;> with_reducible rfl) ?_
    refine wkc (And.intro @hbb (And.intro @hwn (@hwm))) _ ?_
    refine ⟨(m, a ++ [v], st2), ⟨hR, by dsimp only; simp; omega, by dsimp only; omega⟩, by dsimp only; omega, ?_⟩
    exact Cov.ofn (nm [0, 4]) rfl (by simp [go_sem, List.take_of_length_le, ren, ren1, ren2, okr, okr1, okr2, ChkT, ChkN, BlkN, nf, curC, ints_snoc]) (by simp [go_sem, List.take_of_length_le, ren, ren1, ren2, okr, okr1, okr2, ChkT, ChkN, BlkN, nf, curC, ints_snoc])
  · have hn : n = 0 := by
      have : ¬ 0 < n := by simpa using h
      omega
    subst hn
    rw [drawA] at hR
    subst hR
    dsimp only at h1 h2 ⊢
    have cow := l1OwnA a (by omega)
    have c3 := ho 3 (by omega) (by omega) st (by omega)
    have r3 := hrng 3 (by omega) st
    have a3 := hat 3 st
    generalize pickV code 3 st = v at c3 r3 ⊢
    generalize pickS code 3 st = st2 at c3 a3 ⊢
    refine Holds.frz [1] [(5, .im 1 (ints a))] (.cons rfl (Fz.all rfl rfl (by simp) rfl (ints_cl _)) .nil) ?_
    refine wkc (@frz.eq_1) _ ?_
    refine GS.fnn [] (cow) rfl rfl rfl rfl (by simp [go_sem, List.take_of_length_le, ren, ren1, ren2, okr, okr1, okr2, ChkN, BlkN, List.range_succ, nf] <;> with_reducible rfl) (by simp [go_sem, List.take_of_length_le, ren, ren1, ren2, okr, okr1, okr2, ChkN, BlkN, List.range_succ, nf]) (by simp [go_sem, List.take_of_length_le, ren, ren1, ren2, okr, okr1, okr2, ChkN, BlkN, List.range_succ, nf]) (by simp [List.range_succ, lb]) (ChkN.toB (by simp [go_sem, List.take_of_length_le, ren, ren1, ren2, okr, okr1, okr2, ChkN, BlkN, List.range_succ, nf])) (by decide) (by simp) rfl (.nfr (by simp) .nil) (by simp [go_sem, List.take_of_length_le, ren, ren1, ren2, okr, okr1, okr2, ChkN, BlkN, List.range_succ, nf] <;> with_reducible rfl) ?_
    repeat' first | (refine Holds.condT ?_ ?_; (· (simp [go_sem, List.take_of_length_le] <;> with_reducible rfl))) | (refine Holds.condF ?_ ?_; (· (simp [go_sem, List.take_of_length_le] <;> with_reducible rfl))) | refine Holds.seq ?_ | refine Holds.skip ?_ | refine Holds.exit ?_ | refine Holds.ret ?_ | refine thenA_normal ?_ | refine thenA_exit ?_ | refine thenA_ret ?_ | refine inB_normal ?_ | refine inB_ret ?_ | refine inB_here ?_ | (refine inB_past ?_ ?_; (· exact rfl)) | refine Holds.reg ?_ | refine Holds.block ?_ | refine GS.nil ?_ | (refine GS.stepD 27 (s' := ?_) rfl ?_ ?_ ?_; rotate_left; (· exact rfl); (· (simp [go_sem, List.take_of_length_le] <;> with_reducible rfl))) | (refine GS.skip ?_ ?_ ?_; (· exact rfl); (· exact rfl)) | fail
    refine GS.frz [2] [(6, .im 1 (ints a))] (.cons rfl (Fz.all rfl rfl (by simp) rfl (ints_cl _)) .nil) ?_
    refine wkc (@frz.eq_1) _ ?_
    refine GS.fnn [0] (c3) rfl rfl rfl rfl (by simp [go_sem, List.take_of_length_le, ren, ren1, ren2, okr, okr1, okr2, ChkN, BlkN, List.range_succ, nf, curC] <;> with_reducible rfl) (by simp [go_sem, List.take_of_length_le, ren, ren1, ren2, okr, okr1, okr2, ChkN, BlkN, List.range_succ, nf, curC]) (by simp [go_sem, List.take_of_length_le, ren, ren1, ren2, okr, okr1, okr2, ChkN, BlkN, List.range_succ, nf, curC]) (by simp [List.range_succ, lb]) (ChkN.toB (by simp [go_sem, List.take_of_length_le, ren, ren1, ren2, okr, okr1, okr2, ChkN, BlkN, List.range_succ, nf, curC])) (by decide) (by simp) rfl (.nfr (by simp [curC, nf]) .nil) (by simp [go_sem, List.take_of_length_le, ren, ren1, ren2, okr, okr1, okr2, ChkN, BlkN, List.range_succ, nf, curC] <;> with_reducible rfl) ?_
    have c4 := hp 4 (by omega) (by omega) st2 (by omega)
    have r4 := hrng 4 (by omega) st2
    have a4 := hat 4 st2
    generalize pickV code 4 st2 = v4 at c4 r4 ⊢
    generalize pickS code 4 st2 = st4 at c4 a4 ⊢
    obtain ⟨n4, rfl⟩ : ∃ n : Nat, v4 = (n : Int) := ⟨v4.toNat, by omega⟩
    rw [Int.toNat_natCast]
    obtain ⟨b0, hb0⟩ : ∃ b0, b0 = if v = 0 then [] else a := ⟨_, rfl⟩
    have hb0l : b0.length ≤ 6 := by
      rw [hb0]
      split
      · simp
      · omega
    refine wkc0 _ ?_
    refine Holds.join (ι := Unit) (fun _ => ⟨[(2, .v (.slice none 0 0)), (3, .v (.slice none 0 0)), (4, .pb 0 3 0 0), (5, .im 1 (ints a)), (6, .im 1 (ints b0))], [(0, ⟨33, 3, [curC code st2]⟩)], 1⟩) (fun _ => True) ?_ ?_
    · refine Holds.cond rfl (fun h => ?_) (fun h => ?_)
      · have hv : v = 0 := by simpa using h
        rw [if_pos hv] at hb0
        subst hb0
        refine wkc0 _ ?_
        refine ⟨(), trivial, ?_⟩
        refine Cov.trans ?_ (Cov.nim (t := 6) 1 rfl)
        exact Cov.ofn (id) rfl (by simp [go_sem, List.take_of_length_le, ren, ren1, ren2, okr, okr1, okr2, ChkT, ChkN, BlkN, nf, again, curC]) (by simp [go_sem, List.take_of_length_le, ren, ren1, ren2, okr, okr1, okr2, ChkT, ChkN, BlkN, nf, again, curC])
      · have hv : ¬ v = 0 := by simpa using h
        rw [if_neg hv] at hb0
        subst hb0
        refine wkc0 _ ?_
        refine ⟨(), trivial, ?_⟩
        exact Cov.ofn (id) rfl (by simp [go_sem, List.take_of_length_le, ren, ren1, ren2, okr, okr1, okr2, ChkT, ChkN, BlkN, nf, curC]) (by simp [go_sem, List.take_of_length_le, ren, ren1, ren2, okr, okr1, okr2, ChkT, ChkN, BlkN, nf, curC])
    rintro ⟨⟩ _
    obtain ⟨Q, hQ⟩ : ∃ Q, Q = drawB code n4 b0 st4 := ⟨_, rfl⟩
    rw [← hb0, ← hQ]
    refine wkc0 _ ?_
    refine GS.fnn [0] (c4) rfl rfl rfl rfl (by simp [go_sem, List.take_of_length_le, ren, ren1, ren2, okr, okr1, okr2, ChkN, BlkN, List.range_succ, nf, curC] <;> with_reducible rfl) (by simp [go_sem, List.take_of_length_le, ren, ren1, ren2, okr, okr1, okr2, ChkN, BlkN, List.range_succ, nf, curC]) (by simp [go_sem, List.take_of_length_le, ren, ren1, ren2, okr, okr1, okr2, ChkN, BlkN, List.range_succ, nf, curC]) (by simp [List.range_succ, lb]) (ChkN.toB (by simp [go_sem, List.take_of_length_le, ren, ren1, ren2, okr, okr1, okr2, ChkN, BlkN, List.range_succ, nf, curC])) (by decide) (by simp) rfl (.nfr (by simp [curC, nf]) .nil) (by simp [go_sem, List.take_of_length_le, ren, ren1, ren2, okr, okr1, okr2, ChkN, BlkN, List.range_succ, nf, curC] <;> with_reducible rfl) ?_
    refine wkc0 _ ?_
    refine Holds.loop (ι := Nat × List Int × St2) (fun x => ⟨[(2, .v (.slice none 0 0)), (3, .v (.slice none 0 0)), (4, .pb 0 3 0 0), (5, .im 1 (ints a)), (6, .im 1 (ints x.2.1)), (8, .v (.int .i64 x.1))], [(0, ⟨33, 3, [curC code x.2.2]⟩)], 1⟩)
      (fun x => Q = drawB code x.1 x.2.1 x.2.2 ∧ x.2.1.length + x.1 ≤ 9 ∧ x.2.2.1 + 2 * x.1 ≤ 100) (fun x => x.1) (n4, b0, st4) ⟨hQ, by dsimp only; omega, by dsimp only; omega⟩ ?_ ?_
    · exact Cov.ofn (id) rfl (by simp [go_sem, List.take_of_length_le, ren, ren1, ren2, okr, okr1, okr2, ChkT, ChkN, BlkN, nf, curC]) (by simp [go_sem, List.take_of_length_le, ren, ren1, ren2, okr, okr1, okr2, ChkT, ChkN, BlkN, nf, curC])
    clear hQ hb0 hb0l
    rintro ⟨n, b, st⟩ ⟨hQ, h1, h2⟩
    dsimp only at hQ h1 h2 ⊢
    refine wkc0 _ ?_
    refine Holds.cond rfl (fun h => ?_) (fun h => ?_)
    · have hn : 0 < n := by simpa using h
      obtain ⟨m, rfl⟩ : ∃ m, n = m + 1 := ⟨n - 1, by omega⟩
      have cb := hp ((b.length : Int) + 1) (by omega) (by omega) st (by omega)
      have rb := hrng ((b.length : Int) + 1) (by omega) st
      have ab := hat ((b.length : Int) + 1) st
      rw [drawB, stepB] at hQ
      generalize pickV code ((b.length : Int) + 1) st = k at cb rb hQ
      generalize pickS code ((b.length : Int) + 1) st = stb at cb ab hQ
      obtain ⟨k, rfl⟩ : ∃ q : Nat, k = (q : Int) := ⟨k.toNat, by omega⟩
      rw [Int.toNat_natCast] at hQ
      have hkl : k ≤ b.length := by omega
      have c3 := hp 3 (by omega) (by omega) stb (by omega)
      have a3 := hat 3 stb
      generalize pickV code 3 stb = v at c3 hQ
      generalize pickS code 3 stb = st3 at c3 a3 hQ
      have cd := l1OwnA (b.drop k) (by rw [List.length_drop]; omega)
      have ct := l1OwnA (b.take k) (by rw [List.length_take]; omega)
      have hdl : (b.drop k).length = b.length - k := by rw [List.length_drop]
      have htl : (b.take k).length = k := by rw [List.length_take]; omega
      obtain ⟨D, hD⟩ : ∃ D, D = b.drop k := ⟨_, rfl⟩
      obtain ⟨T, hT⟩ : ∃ T, T = b.take k := ⟨_, rfl⟩
      have hiD : (ints b).drop k = ints D := by rw [hD, ints_dropF]
      have hiT : (ints b).take k = ints T := by rw [hT, ints_takeF]
      rw [← hD] at cd hdl hQ
      rw [← hT] at ct htl hQ
      have hwl : wr64 ((b.length : Int) + 1) = (b.length : Int) + 1 := wr64_id (by omega) (by omega)
      have hwn : wr64 (((m + 1 : Nat) : Int) - 1) = (m : Int) := by rw [wr64_id (by omega) (by omega)]; omega
      have hwm : wr64 (m : Int) = (m : Int) := wr64_id (by omega) (by omega)
      have hb1 : (T.length + 1) * 8 ≤ 140737488355328 := by omega
      have hb2 : (T.length + 1 + D.length) * 8 ≤ 140737488355328 := by omega
      refine wkc (@hwl) _ ?_
      refine GS.fnn [0] (cb) rfl rfl rfl rfl (by simp [go_sem, List.take_of_length_le, ren, ren1, ren2, okr, okr1, okr2, ChkN, BlkN, List.range_succ, nf, curC] <;> with_reducible rfl) (by simp [go_sem, List.take_of_length_le, ren, ren1, ren2, okr, okr1, okr2, ChkN, BlkN, List.range_succ, nf, curC]) (by simp [go_sem, List.take_of_length_le, ren, ren1, ren2, okr, okr1, okr2, ChkN, BlkN, List.range_succ, nf, curC]) (by simp [List.range_succ, lb]) (ChkN.toB (by simp [go_sem, List.take_of_length_le, ren, ren1, ren2, okr, okr1, okr2, ChkN, BlkN, List.range_succ, nf, curC])) (by decide) (by simp) rfl (.nfr (by simp [curC, nf]) .nil) (by simp [go_sem, List.take_of_length_le, ren, ren1, ren2, okr, okr1, okr2, ChkN, BlkN, List.range_succ, nf, curC] <;> with_reducible rfl) ?_
      refine wkc (And.intro @hkl (And.intro @hiD (@hiT))) _ ?_
      refine GS.fnn [] (cd) rfl rfl rfl rfl (by simp [go_sem, List.take_of_length_le, ren, ren1, ren2, okr, okr1, okr2, ChkN, BlkN, List.range_succ, nf] <;> with_reducible rfl) (by simp [go_sem, List.take_of_length_le, ren, ren1, ren2, okr, okr1, okr2, ChkN, BlkN, List.range_succ, nf]) (by simp [go_sem, List.take_of_length_le, ren, ren1, ren2, okr, okr1, okr2, ChkN, BlkN, List.range_succ, nf]) (by simp [List.range_succ, lb]) (ChkN.toB (by simp [go_sem, List.take_of_length_le, ren, ren1, ren2, okr, okr1, okr2, ChkN, BlkN, List.range_succ, nf])) (by decide) (by simp) rfl (.nfr (by simp) .nil) (by simp [go_sem, List.take_of_length_le, ren, ren1, ren2, okr, okr1, okr2, ChkN, BlkN, List.range_succ, nf] <;> with_reducible rfl) ?_
      refine wkc (And.intro @hkl (And.intro @hiD (@hiT))) _ ?_
      refine GS.fnn [] (ct) rfl rfl rfl rfl (by simp [go_sem, List.take_of_length_le, ren, ren1, ren2, okr, okr1, okr2, ChkN, BlkN, List.range_succ, nf] <;> with_reducible rfl) (by simp [go_sem, List.take_of_length_le, ren, ren1, ren2, okr, okr1, okr2, ChkN, BlkN, List.range_succ, nf]) (by simp [go_sem, List.take_of_length_le, ren, ren1, ren2, okr, okr1, okr2, ChkN, BlkN, List.range_succ, nf]) (by simp [List.range_succ, lb]) (ChkN.toB (by simp [go_sem, List.take_of_length_le, ren, ren1, ren2, okr, okr1, okr2, ChkN, BlkN, List.range_succ, nf])) (by decide) (by simp) rfl (.nfr (by simp) .nil) (by simp [go_sem, List.take_of_length_le, ren, ren1, ren2, okr, okr1, okr2, ChkN, BlkN, List.range_succ, nf] <;> with_reducible rfl) ?_
      refine wkc0 _ ?_
      refine GS.fnn [0] (c3) rfl rfl rfl rfl (by simp [go_sem, List.take_of_length_le, ren, ren1, ren2, okr, okr1, okr2, ChkN, BlkN, List.range_succ, nf, curC] <;> with_reducible rfl) (by simp [go_sem, List.take_of_length_le, ren, ren1, ren2, okr, okr1, okr2, ChkN, BlkN, List.range_succ, nf, curC]) (by simp [go_sem, List.take_of_length_le, ren, ren1, ren2, okr, okr1, okr2, ChkN, BlkN, List.range_succ, nf, curC]) (by simp [List.range_succ, lb]) (ChkN.toB (by simp [go_sem, List.take_of_length_le, ren, ren1, ren2, okr, okr1, okr2, ChkN, BlkN, List.range_succ, nf, curC])) (by decide) (by simp) rfl (.nfr (by simp [curC, nf]) .nil) (by simp [go_sem, List.take_of_length_le, ren, ren1, ren2, okr, okr1, okr2, ChkN, BlkN, List.range_succ, nf, curC] <;> with_reducible rfl) ?_
      refine wkc (And.intro @hb1 (And.intro @hb2 (And.intro @ints_allF (And.intro @hwn (@hwm))))) _ ?_
      refine ⟨(m, T ++ [v] ++ D, st3), ⟨hQ, by dsimp only; simp only [List.length_append, List.length_singleton]; omega, by dsimp only; omega⟩, by dsimp only; omega, ?_⟩
      refine Cov.trans ?_ (Cov.freeze [7] (ts := [(6, .im 1 (ints (T ++ [v] ++ D)))]) (.cons rfl (Fz.all rfl rfl (by simp; omega) (by simp [ints]) (ints_cl _)) .nil))
      exact Cov.ofn (id) rfl (by simp [go_sem, List.take_of_length_le, ren, ren1, ren2, okr, okr1, okr2, ChkT, ChkN, BlkN, nf, frz, curC]) (by simp [go_sem, List.take_of_length_le, ren, ren1, ren2, okr, okr1, okr2, ChkT, ChkN, BlkN, nf, frz, curC])
    · have hn : n = 0 := by
        have : ¬ 0 < n := by simpa using h
        omega
      subst hn
      rw [drawB] at hQ
      subst hQ
      refine wkc0 _ ?_
      refine Out.mk (xs := ?_) ?_ ?_ (by first | exact .inr rfl | exact .inl rfl)
      rotate_left
      · simp [go_sem, List.take_of_length_le] <;> with_reducible rfl
      exact Fz.tuL (.cons (.im _ _) (.cons (.im _ _) .nil))
end Go.Proofs.Ytabhbmebhgodfaa.En
end
section
namespace Go.Proofs.Ytabhbmebhgodfaa.En
open Go.RowKit
set_option linter.unusedSimpArgs false
set_option linter.unusedVariables false
set_option maxHeartbeats 4000000
section
variable {P : Program} {s : AS}
theorem Calm.min3 {op : Op} {r : AV} {x y z : Operand} {ts : Array TypeId} {a b c m : Int} (hop : op = .call ⟨.builtin .min, #[x, y, z], ts⟩) (hx : ev s x = some (.v (.int .i64 a))) (hy : ev s y = some (.v (.int .i64 b))) (hz : ev s z = some (.v (.int .i64 c))) (hm : m = min a (min b c)) (hr : r = .v (.int .i64 m)) : Calm P s op r := by
  refine .val rfl hr fun s' hs' hb' o2 C ac w S Ow L ho hR => ?_
  subst hop
  obtain ⟨ex, _⟩ := (ev_rep hR ((hs' x (by simp [Op.operands, Call.operands])).trans hx)).v_inv
  obtain ⟨ey, _⟩ := (ev_rep hR ((hs' y (by simp [Op.operands, Call.operands])).trans hy)).v_inv
  obtain ⟨ez, _⟩ := (ev_rep hR ((hs' z (by simp [Op.operands, Call.operands])).trans hz)).v_inv
  subst hm
  have h1 : (if b < a then b else a) = min a b := by
    rw [Int.min_def]; split <;> split <;> omega
  have h2 : (if c < min a b then c else min a b) = min a (min b c) := by
    split <;> omega
  unfold execOp
  simp only [ho, resolve]
  simp [Builtin.min_, Builtin.min2, ex, ey, ez, builtin, invoke, h1, h2]
end
theorem midD_one (a b : List Int) (i n : Nat) (h : 0 < n) (hi : i < a.length) : (rowD a b i n).set 0 ((i + 1 : Nat) : Int) = midD a b i 1 n := by
  rw [← midD_zero, ← midD_set a b i 0 n h, cellD_col a b (i + 1) (by omega)]
theorem ints_setF (l : List Int) (n : Nat) (r : Int) : (ints l).set n [.v (.int .i64 r)] = ints (l.set n r) := by simp [ints, List.map_set]
theorem implApart (a b : List Int) (ha : a.length ≤ 8) (hb : b.length ≤ 8) : Pure Try.prog 12 [.im 1 (ints a), .im 1 (ints b)] (.v (.int .i64 (distD a b))) := by
  obtain ⟨n, hn⟩ : ∃ n, n = b.length + 1 := ⟨_, rfl⟩
  have hwn : wr64 ((b.length : Int) + 1) = (n : Int) := by rw [wr64_id (by omega) (by omega)]; omega
  refine Pure.mk (rs := [.tmp 4]) (nt := 77) Try.func12 (by kernel_rfl) rfl rfl rfl (by simp) ?_
  simp only [sl]
  refine wkc (@hwn) _ ?_
  refine Holds.loop (ι := Nat) (fun k => ⟨[(0, .im 1 (ints a)), (1, .im 1 (ints b)), (5, .own 0 1 0 k), (16, .v (.int .i64 n)), (17, .v (.int .i64 k))], [(0, ⟨3, 1, ints (rowD a b 0 k)⟩)], 1⟩)
    (fun k => k ≤ n) (fun k => n - k) 0 (Nat.zero_le _) ?_ ?_
  · exact Cov.ofn (id) rfl (by simp [go_sem, List.take_of_length_le, ren, ren1, ren2, okr, okr1, okr2, ChkT, ChkN, BlkN, nf, show rowD a b 0 0 = [] from rfl, show ints [] = [] from rfl]) (by simp [go_sem, List.take_of_length_le, ren, ren1, ren2, okr, okr1, okr2, ChkT, ChkN, BlkN, nf, show rowD a b 0 0 = [] from rfl, show ints [] = [] from rfl])
  intro k hk
  have stepk : wr64 ((k : Int) + 1) = ((k + 1 : Nat) : Int) := wr64_id (by omega) (by omega)
  refine wkc0 _ ?_
  refine Holds.cond rfl (fun h => ?_) (fun h => ?_)
  · have hkn : k < n := by simpa using h
    have hsn := rowD_snoc a b 0 k
    rw [cellD_row a b k (by omega)] at hsn
    have hbb : (k + 1) * 8 ≤ 140737488355328 := by omega
    refine wkc (@hbb) _ ?_
    refine ⟨k + 1, by omega, by omega, ?_⟩
    rw [stepk, hsn]
    exact Cov.ofn (nm [3]) rfl (by simp [go_sem, List.take_of_length_le, ren, ren1, ren2, okr, okr1, okr2, ChkT, ChkN, BlkN, nf, ints_snoc]) (by simp [go_sem, List.take_of_length_le, ren, ren1, ren2, okr, okr1, okr2, ChkT, ChkN, BlkN, nf, ints_snoc])
  · have hke : k = n := by
      have : ¬ k < n := by simpa using h
      omega
    subst hke
    clear stepk hk
    refine wkc0 _ ?_
    refine Holds.loop (ι := Nat) (fun i => ⟨[(0, .im 1 (ints a)), (1, .im 1 (ints b)), (5, .own 0 1 0 k), (25, .im 1 (ints a)), (26, .v (.int .i64 a.length)), (27, .v (.int .i64 i))], [(0, ⟨3, 1, ints (rowD a b i k)⟩)], 1⟩)
      (fun i => i ≤ a.length) (fun i => a.length - i) 0 (Nat.zero_le _) ?_ ?_
    · exact Cov.ofn (id) rfl (by simp [go_sem, List.take_of_length_le, ren, ren1, ren2, okr, okr1, okr2, ChkT, ChkN, BlkN, nf]) (by simp [go_sem, List.take_of_length_le, ren, ren1, ren2, okr, okr1, okr2, ChkT, ChkN, BlkN, nf])
    intro i hi
    have stepi : wr64 ((i : Int) + 1) = ((i + 1 : Nat) : Int) := wr64_id (by omega) (by omega)
    have hk0 : 0 < k := by omega
    refine wkc0 _ ?_
    refine Holds.cond rfl (fun h => ?_) (fun h => ?_)
    · have hil : i < a.length := by simpa using h
      have hxi : a[i]? = some a[i] := List.getElem?_eq_getElem hil
      obtain ⟨x, hx⟩ : ∃ x, a[i]? = some x := ⟨_, hxi⟩
      have hr0 := rowD_get a b i k 0 hk0
      have hm1 := midD_one a b i k hk0 hil
      have hset : (ints (rowD a b i k)).set 0 [.v (.int .i64 (((i + 1 : Nat) : Int)))] = ints (midD a b i 1 k) := by rw [ints_setF, hm1]
      have hset2 : (ints (rowD a b i k)).set 0 [.v (.int .i64 ((i : Int) + 1))] = ints (midD a b i 1 k) := by rw [← hset]; rfl
      refine wkc (And.intro @hil (And.intro @hx (And.intro (@get_E _ _ _ _ hx) (And.intro @hr0 (And.intro (@get_E _ _ _ _ hr0) (And.intro @hk0 (And.intro @stepi (And.intro @hset (@hset2))))))))) _ ?_
      refine Holds.loop (ι := Nat) (fun j => ⟨[(0, .im 1 (ints a)), (1, .im 1 (ints b)), (5, .own 0 1 0 k), (7, .v (.int .i64 i)), (8, .v (.int .i64 x)), (9, .v (.int .i64 (cellD a b i j : Nat))), (25, .im 1 (ints a)), (26, .v (.int .i64 a.length)), (27, .v (.int .i64 i)), (39, .im 1 (ints b)), (40, .v (.int .i64 b.length)), (41, .v (.int .i64 j))], [(0, ⟨3, 1, ints (midD a b i (j + 1) k)⟩)], 1⟩)
        (fun j => j ≤ b.length) (fun j => b.length - j) 0 (Nat.zero_le _) ?_ ?_
      · exact Cov.ofn (id) rfl (by simp [go_sem, List.take_of_length_le, ren, ren1, ren2, okr, okr1, okr2, ChkT, ChkN, BlkN, nf, hset, hset2]) (by simp [go_sem, List.take_of_length_le, ren, ren1, ren2, okr, okr1, okr2, ChkT, ChkN, BlkN, nf, hset, hset2])
      intro j hj
      refine wkc0 _ ?_
      refine Holds.cond rfl (fun h => ?_) (fun h => ?_)
      · have hjl : j < b.length := by simpa using h
        obtain ⟨y, hy⟩ : ∃ y, b[j]? = some y := ⟨_, List.getElem?_eq_getElem hjl⟩
        have hjk : j < k := by omega
        obtain ⟨j1, hj1⟩ : ∃ j1, j1 = j + 1 := ⟨_, rfl⟩
        have stepj : wr64 ((j : Int) + 1) = (j1 : Int) := by rw [wr64_id (by omega) (by omega)]; omega
        rw [← hj1]
        have hjk1 : j1 < k := by omega
        have ho := midD_old a b i j1 k j1 hjk1 (Nat.le_refl _)
        have hnw := midD_new a b i j1 k j hjk (by omega)
        have hst := midD_set a b i j1 k hjk1
        have hnx := cellD_next hx hy
        rw [← hj1] at hnx
        have u1 := cellD_ub a b i j
        have u2 := cellD_ub a b i j1
        have u3 := cellD_ub a b (i + 1) j
        have hMl := midD_len a b i j1 k
        generalize midD a b i j1 k = M at ho hnw hst hMl ⊢
        have hjm1 : j < M.length := by omega
        have hjm2 : j1 < M.length := by omega
        generalize cellD a b i j = p at hnx u1 ⊢
        generalize hC2 : cellD a b i j1 = q at hnx u2 ho ⊢
        generalize hC3 : cellD a b (i + 1) j = t at hnx u3 hnw
        generalize hC4 : cellD a b (i + 1) j1 = c at hnx hst
        have hq1 : wr64 ((q : Int) + 1) = ((q + 1 : Nat) : Int) := by rw [wr64_id (by omega) (by omega)]; omega
        have ht1 : wr64 ((t : Int) + 1) = ((t + 1 : Nat) : Int) := by rw [wr64_id (by omega) (by omega)]; omega
        have hp1 : wr64 ((p : Int) + 1) = ((p + 1 : Nat) : Int) := by rw [wr64_id (by omega) (by omega)]; omega
        have hstI : (ints M).set j1 [.v (.int .i64 (c : Int))] = ints (midD a b i (j1 + 1) k) := by rw [ints_setF, hst]
        by_cases hxy : x = y
        · rw [if_pos hxy] at hnx
          have hne : (x != y) = false := by simp [hxy]
          refine wkc (And.intro @hjl (And.intro @hy (And.intro (@get_E _ _ _ _ hy) (And.intro @hne (And.intro @hxy (And.intro @stepj (And.intro @hjk1 (And.intro @hjk (And.intro @ho (And.intro (@get_E _ _ _ _ ho) (And.intro @hnw (And.intro (@get_E _ _ _ _ hnw) (And.intro @hq1 (And.intro @ht1 (And.intro @hjm1 (And.intro @hjm2 (@hMl))))))))))))))))) _ ?_
          refine GS.calm1 rfl rfl (Calm.min3 (m := (c : Int)) rfl rfl rfl rfl (by omega) rfl) ?_
          refine wkc (And.intro @hjm2 (And.intro @hjk1 (And.intro @hMl (And.intro @hstI (@stepj))))) _ ?_
          refine ⟨j1, by omega, by omega, ?_⟩
          rw [hC2]
          exact Cov.ofn (id) rfl (by simp [go_sem, List.take_of_length_le, ren, ren1, ren2, okr, okr1, okr2, ChkT, ChkN, BlkN, nf, hstI, hxy]) (by simp [go_sem, List.take_of_length_le, ren, ren1, ren2, okr, okr1, okr2, ChkT, ChkN, BlkN, nf, hstI, hxy])
        · rw [if_neg hxy] at hnx
          have hne : (x != y) = true := by simp [hxy]
          refine wkc (And.intro @hjl (And.intro @hy (And.intro (@get_E _ _ _ _ hy) (And.intro @hne (And.intro @hxy (And.intro @hp1 (And.intro @stepj (And.intro @hjk1 (And.intro @hjk (And.intro @ho (And.intro (@get_E _ _ _ _ ho) (And.intro @hnw (And.intro (@get_E _ _ _ _ hnw) (And.intro @hq1 (And.intro @ht1 (And.intro @hjm1 (And.intro @hjm2 (@hMl)))))))))))))))))) _ ?_
          refine GS.calm1 rfl rfl (Calm.min3 (m := (c : Int)) rfl rfl rfl rfl (by omega) rfl) ?_
          refine wkc (And.intro @hjm2 (And.intro @hjk1 (And.intro @hMl (And.intro @hstI (@stepj))))) _ ?_
          refine ⟨j1, by omega, by omega, ?_⟩
          rw [hC2]
          exact Cov.ofn (id) rfl (by simp [go_sem, List.take_of_length_le, ren, ren1, ren2, okr, okr1, okr2, ChkT, ChkN, BlkN, nf, hstI]) (by simp [go_sem, List.take_of_length_le, ren, ren1, ren2, okr, okr1, okr2, ChkT, ChkN, BlkN, nf, hstI])
      · have hje : j = b.length := by
          have : ¬ j < b.length := by simpa using h
          omega
        subst hje
        rw [show midD a b i (b.length + 1) k = rowD a b (i + 1) k by rw [← hn, midD_all]]
        refine wkc0 _ ?_
        refine ⟨i + 1, by omega, by omega, ?_⟩
        rw [stepi]
        exact Cov.ofn (id) rfl (by simp [go_sem, List.take_of_length_le, ren, ren1, ren2, okr, okr1, okr2, ChkT, ChkN, BlkN, nf]) (by simp [go_sem, List.take_of_length_le, ren, ren1, ren2, okr, okr1, okr2, ChkT, ChkN, BlkN, nf])
    · have hie : i = a.length := by
        have : ¬ i < a.length := by simpa using h
        omega
      subst hie
      have hg := rowD_get a b a.length k b.length (by omega)
      rw [cellD_end] at hg
      have hbk : b.length < k := by omega
      refine wkc (And.intro @hg (And.intro (@get_E _ _ _ _ hg) (@hbk))) _ ?_
      refine Out.mk (xs := ?_) ?_ ?_ (by first | exact .inr rfl | exact .inl rfl)
      rotate_left
      · simp [go_sem, List.take_of_length_le] <;> with_reducible rfl
      exact .v _
theorem leastI (x y : Int) : Pure Try.prog 15 [.v (.int .i64 x), .v (.int .i64 y)] (.v (.int .i64 (min x y))) := by
  refine Pure.mk (rs := [.tmp 4]) (nt := 10) Try.func15 (by kernel_rfl) rfl rfl rfl (by simp) ?_
  simp only [sl]
  by_cases h : x < y
  · rw [show min x y = x by omega]
    refine wkc (@h) _ ?_
    refine Out.mk (xs := ?_) ?_ ?_ (by first | exact .inr rfl | exact .inl rfl)
    rotate_left
    · simp [go_sem, List.take_of_length_le] <;> with_reducible rfl
    exact .v _
  · rw [show min x y = y by omega]
    refine wkc (@h) _ ?_
    refine Out.mk (xs := ?_) ?_ ?_ (by first | exact .inr rfl | exact .inl rfl)
    rotate_left
    · simp [go_sem, List.take_of_length_le] <;> with_reducible rfl
    exact .v _
def iniD (k n : Nat) : List Int := (List.range n).map fun j => if j < k then (j : Int) else 0
@[simp] theorem iniD_len (k n : Nat) : (iniD k n).length = n := by simp [iniD]
theorem iniD_zero (n : Nat) : iniD 0 n = List.replicate n 0 := by
  apply List.ext_getElem?
  intro j
  by_cases hj : j < n
  · simp [iniD, hj]
  · rw [List.getElem?_eq_none (by simp; omega), List.getElem?_eq_none (by simp; omega)]
theorem iniD_set (k n : Nat) (h : k < n) : (iniD k n).set k (k : Int) = iniD (k + 1) n := by
  apply List.ext_getElem?
  intro j
  by_cases hj : j < n
  · by_cases e : k = j
    · subst e
      rw [List.getElem?_set_self (by simpa using h)]
      simp [iniD, hj]
    · rw [List.getElem?_set_ne e]
      simp only [iniD, List.getElem?_map, List.getElem?_range hj, Option.map_some]
      by_cases hk : j < k
      · rw [if_pos hk, if_pos (by omega)]
      · rw [if_neg hk, if_neg (by omega)]
  · rw [List.getElem?_eq_none (by simp; omega), List.getElem?_eq_none (by simp; omega)]
theorem iniD_all (a b : List Int) (n : Nat) (h : n ≤ b.length + 1) : iniD n n = rowD a b 0 n := by
  unfold iniD rowD
  apply List.map_congr_left
  intro j hj
  have := List.mem_range.1 hj
  rw [if_pos this, cellD_row a b j (by omega)]
theorem specApart (a b : List Int) (ha : a.length ≤ 8) (hb : b.length ≤ 8) : Pure Try.prog 13 [.im 1 (ints a), .im 1 (ints b)] (.v (.int .i64 (distD a b))) := by
  obtain ⟨n, hn⟩ : ∃ n, n = b.length + 1 := ⟨_, rfl⟩
  have hwn : wr64 ((b.length : Int) + 1) = (n : Int) := by rw [wr64_id (by omega) (by omega)]; omega
  have hm0 : (0 : Int) ≤ (n : Int) := by omega
  have hm1 : (8 : Int) * n ≤ 281474976710656 := by omega
  have hm2 : (n : Int) ≤ 281474976710656 := by omega
  refine Pure.mk (rs := [.tmp 4]) (nt := 77) Try.func13 (by kernel_rfl) rfl rfl rfl (by simp) ?_
  simp only [sl]
  refine wkdc (And.intro @hwn (And.intro @hm0 (And.intro @hm1 (@hm2)))) _ ?_
  refine Holds.loop (ι := Nat) (fun k => ⟨[(0, .im 1 (ints a)), (1, .im 1 (ints b)), (5, .own 0 1 0 n), (18, .v (.int .i64 n)), (19, .v (.int .i64 k))], [(0, ⟨3, 1, ints (iniD k n)⟩)], 1⟩)
    (fun k => k ≤ n) (fun k => n - k) 0 (Nat.zero_le _) ?_ ?_
  · exact Cov.ofn (id) rfl (by simp [go_sem, List.take_of_length_le, ren, ren1, ren2, okr, okr1, okr2, ChkT, ChkN, BlkN, nf, iniD_zero]) (by simp [go_sem, List.take_of_length_le, ren, ren1, ren2, okr, okr1, okr2, ChkT, ChkN, BlkN, nf, iniD_zero])
  intro k hk
  have stepk : wr64 ((k : Int) + 1) = ((k + 1 : Nat) : Int) := wr64_id (by omega) (by omega)
  refine wkdc0 _ ?_
  refine Holds.cond rfl (fun h => ?_) (fun h => ?_)
  · have hkn : k < n := by simpa using h
    have hst := iniD_set k n hkn
    have hstI : (ints (iniD k n)).set k [.v (.int .i64 (k : Int))] = ints (iniD (k + 1) n) := by rw [ints_setF, hst]
    refine wkdc (And.intro @hkn (@hstI)) _ ?_
    refine ⟨k + 1, by omega, by omega, ?_⟩
    rw [stepk]
    exact Cov.ofn (id) rfl (by simp [go_sem, List.take_of_length_le, ren, ren1, ren2, okr, okr1, okr2, ChkT, ChkN, BlkN, nf, hstI]) (by simp [go_sem, List.take_of_length_le, ren, ren1, ren2, okr, okr1, okr2, ChkT, ChkN, BlkN, nf, hstI])
  · have hke : k = n := by
      have : ¬ k < n := by simpa using h
      omega
    subst hke
    rw [iniD_all a b k (by omega)]
    clear stepk hk
    refine wkdc0 _ ?_
    refine Holds.loop (ι := Nat) (fun i => ⟨[(0, .im 1 (ints a)), (1, .im 1 (ints b)), (5, .own 0 1 0 k), (27, .im 1 (ints a)), (28, .v (.int .i64 a.length)), (29, .v (.int .i64 i))], [(0, ⟨3, 1, ints (rowD a b i k)⟩)], 1⟩)
      (fun i => i ≤ a.length) (fun i => a.length - i) 0 (Nat.zero_le _) ?_ ?_
    · exact Cov.ofn (id) rfl (by simp [go_sem, List.take_of_length_le, ren, ren1, ren2, okr, okr1, okr2, ChkT, ChkN, BlkN, nf]) (by simp [go_sem, List.take_of_length_le, ren, ren1, ren2, okr, okr1, okr2, ChkT, ChkN, BlkN, nf])
    intro i hi
    obtain ⟨i1, hi1⟩ : ∃ i1, i1 = i + 1 := ⟨_, rfl⟩
    have stepi : wr64 ((i : Int) + 1) = (i1 : Int) := by rw [wr64_id (by omega) (by omega)]; omega
    refine wkdc0 _ ?_
    refine Holds.cond rfl (fun h => ?_) (fun h => ?_)
    · have hil : i < a.length := by simpa using h
      obtain ⟨x, hx⟩ : ∃ x, a[i]? = some x := ⟨_, List.getElem?_eq_getElem hil⟩
      have hone : rowD a b i1 1 = [(i1 : Int)] := by
        rw [rowD_snoc, cellD_col a b i1 (by omega)]; rfl
      refine wkdc (And.intro @hil (And.intro @hx (And.intro (@get_E _ _ _ _ hx) (@stepi)))) _ ?_
      refine Holds.loop (ι := Nat) (fun j => ⟨[(0, .im 1 (ints a)), (1, .im 1 (ints b)), (5, .own 0 1 0 k), (7, .v (.int .i64 i)), (8, .v (.int .i64 x)), (9, .own 1 1 0 (j + 1)), (27, .im 1 (ints a)), (28, .v (.int .i64 a.length)), (29, .v (.int .i64 i)), (37, .im 1 (ints b)), (38, .v (.int .i64 b.length)), (39, .v (.int .i64 j))], [(1, ⟨3, 1, ints (rowD a b i1 (j + 1))⟩), (0, ⟨3, 1, ints (rowD a b i k)⟩)], 2⟩)
        (fun j => j ≤ b.length) (fun j => b.length - j) 0 (Nat.zero_le _) ?_ ?_
      · exact Cov.ofn (id) rfl (by simp [go_sem, List.take_of_length_le, ren, ren1, ren2, okr, okr1, okr2, ChkT, ChkN, BlkN, nf, hone, show ints [(i1 : Int)] = [[.v (.int .i64 i1)]] from rfl]) (by simp [go_sem, List.take_of_length_le, ren, ren1, ren2, okr, okr1, okr2, ChkT, ChkN, BlkN, nf, hone, show ints [(i1 : Int)] = [[.v (.int .i64 i1)]] from rfl])
      intro j hj
      refine wkdc0 _ ?_
      refine Holds.cond rfl (fun h => ?_) (fun h => ?_)
      · have hjl : j < b.length := by simpa using h
        obtain ⟨y, hy⟩ : ∃ y, b[j]? = some y := ⟨_, List.getElem?_eq_getElem hjl⟩
        have hjk : j < k := by omega
        obtain ⟨j1, hj1⟩ : ∃ j1, j1 = j + 1 := ⟨_, rfl⟩
        have stepj : wr64 ((j : Int) + 1) = (j1 : Int) := by rw [wr64_id (by omega) (by omega)]; omega
        have hjk1 : j1 < k := by omega
        have hjj : j < j1 := by omega
        rw [← hj1]
        have g0 := rowD_get a b i k j hjk
        have g1 := rowD_get a b i k j1 hjk1
        have g2 := rowD_get a b i1 j1 j hjj
        have hsn := rowD_snoc a b i1 j1
        have hnx := cellD_next hx hy
        rw [← hj1, ← hi1] at hnx
        have u1 := cellD_ub a b i j
        have u2 := cellD_ub a b i j1
        have u3 := cellD_ub a b i1 j
        generalize hL : rowD a b i k = M at g0 g1 ⊢
        have hMl : M.length = k := by rw [← hL, rowD_len]
        generalize hL2 : rowD a b i1 j1 = M2 at g2 hsn ⊢
        have hM2 : M2.length = j1 := by rw [← hL2, rowD_len]
        generalize cellD a b i j = p at hnx u1 g0
        generalize cellD a b i j1 = q at hnx u2 g1
        generalize cellD a b i1 j = t at hnx u3 g2
        generalize cellD a b i1 j1 = c at hnx hsn
        have hbb : (j1 + 1) * 8 ≤ 140737488355328 := by omega
        have cl1 := leastI (q : Int) (t : Int)
        obtain ⟨w, hw⟩ : ∃ w : Nat, (w : Int) = min (q : Int) (t : Int) := ⟨min q t, by omega⟩
        rw [← hw] at cl1
        have hw1 : wr64 ((w : Int) + 1) = (w : Int) + 1 := wr64_id (by omega) (by omega)
        have hp1 : wr64 ((p : Int) + 1) = (p : Int) + 1 := wr64_id (by omega) (by omega)
        by_cases hxy : x = y
        · rw [if_pos hxy] at hnx
          have hne : (x != y) = false := by simp [hxy]
          have cl2 := leastI (p : Int) ((w : Int) + 1)
          rw [show min (p : Int) ((w : Int) + 1) = (c : Int) by omega] at cl2
          refine wkdsc (And.intro @hjl (And.intro @hy (And.intro (@get_E _ _ _ _ hy) (And.intro @hne (And.intro @hxy (And.intro @hjk (And.intro @hMl (And.intro @g0 (@get_E _ _ _ _ g0))))))))) _ ?_
          refine Holds.anx [14, 1015] [0] (fun n => decide (1 ≤ n)) mixed ?_ ?_ ?_; (· kernel_rfl); (· kernel_rfl)
          refine wkdasc (And.intro @stepj (And.intro @hjk1 (And.intro @hjk (And.intro @hjj (And.intro @hMl (And.intro @hM2 (And.intro @g1 (And.intro (@get_E _ _ _ _ g1) (And.intro @g2 (@get_E _ _ _ _ g2)))))))))) _ ?_
          first | refine GS.cc (cl1) rfl rfl rfl rfl (by simp [go_sem, List.take_of_length_le] <;> with_reducible rfl) rfl (by simp [go_sem, List.take_of_length_le]) ?_ | refine Gd.cc (cl1) rfl rfl rfl rfl (by simp [go_sem, List.take_of_length_le] <;> with_reducible rfl) rfl (by simp [go_sem, List.take_of_length_le]) ?_ | refine Gx.cc (cl1) rfl rfl rfl rfl rfl (by simp [go_sem, List.take_of_length_le] <;> with_reducible rfl) rfl (by simp [go_sem, List.take_of_length_le]) ?_ | refine Gx.cch (cl1) rfl rfl rfl rfl rfl (by simp [go_sem, List.take_of_length_le] <;> with_reducible rfl) rfl (by simp [go_sem, List.take_of_length_le]) ?_
          refine wkdasc (@hw1) _ ?_
          first | refine GS.cc (cl2) rfl rfl rfl rfl (by simp [go_sem, List.take_of_length_le] <;> with_reducible rfl) rfl (by simp [go_sem, List.take_of_length_le]) ?_ | refine Gd.cc (cl2) rfl rfl rfl rfl (by simp [go_sem, List.take_of_length_le] <;> with_reducible rfl) rfl (by simp [go_sem, List.take_of_length_le]) ?_ | refine Gx.cc (cl2) rfl rfl rfl rfl rfl (by simp [go_sem, List.take_of_length_le] <;> with_reducible rfl) rfl (by simp [go_sem, List.take_of_length_le]) ?_ | refine Gx.cch (cl2) rfl rfl rfl rfl rfl (by simp [go_sem, List.take_of_length_le] <;> with_reducible rfl) rfl (by simp [go_sem, List.take_of_length_le]) ?_
          refine wkdasc (And.intro @hbb (And.intro @hM2 (@stepj))) _ ?_
          refine ⟨j1, by omega, by omega, ?_⟩
          rw [hsn]
          exact Cov.ofn (nm [0, 4]) rfl (by simp [go_sem, List.take_of_length_le, ren, ren1, ren2, okr, okr1, okr2, ChkT, ChkN, BlkN, nf, ints_snoc, hxy]) (by simp [go_sem, List.take_of_length_le, ren, ren1, ren2, okr, okr1, okr2, ChkT, ChkN, BlkN, nf, ints_snoc, hxy])
        · rw [if_neg hxy] at hnx
          have hne : (x != y) = true := by simp [hxy]
          have cl2 := leastI ((p : Int) + 1) ((w : Int) + 1)
          rw [show min ((p : Int) + 1) ((w : Int) + 1) = (c : Int) by omega] at cl2
          refine wkdasc (And.intro @hjl (And.intro @hy (And.intro (@get_E _ _ _ _ hy) (And.intro @hne (And.intro @hxy (And.intro @hjk (And.intro @hMl (And.intro @g0 (And.intro (@get_E _ _ _ _ g0) (@hp1)))))))))) _ ?_
          refine Holds.anx [14, 1015] [0] (fun n => decide (1 ≤ n)) mixed ?_ ?_ ?_; (· kernel_rfl); (· kernel_rfl)
          refine wkdasc (And.intro @stepj (And.intro @hjk1 (And.intro @hjk (And.intro @hjj (And.intro @hMl (And.intro @hM2 (And.intro @g1 (And.intro (@get_E _ _ _ _ g1) (And.intro @g2 (@get_E _ _ _ _ g2)))))))))) _ ?_
          first | refine GS.cc (cl1) rfl rfl rfl rfl (by simp [go_sem, List.take_of_length_le] <;> with_reducible rfl) rfl (by simp [go_sem, List.take_of_length_le]) ?_ | refine Gd.cc (cl1) rfl rfl rfl rfl (by simp [go_sem, List.take_of_length_le] <;> with_reducible rfl) rfl (by simp [go_sem, List.take_of_length_le]) ?_ | refine Gx.cc (cl1) rfl rfl rfl rfl rfl (by simp [go_sem, List.take_of_length_le] <;> with_reducible rfl) rfl (by simp [go_sem, List.take_of_length_le]) ?_ | refine Gx.cch (cl1) rfl rfl rfl rfl rfl (by simp [go_sem, List.take_of_length_le] <;> with_reducible rfl) rfl (by simp [go_sem, List.take_of_length_le]) ?_
          refine wkdasc (@hw1) _ ?_
          first | refine GS.cc (cl2) rfl rfl rfl rfl (by simp [go_sem, List.take_of_length_le] <;> with_reducible rfl) rfl (by simp [go_sem, List.take_of_length_le]) ?_ | refine Gd.cc (cl2) rfl rfl rfl rfl (by simp [go_sem, List.take_of_length_le] <;> with_reducible rfl) rfl (by simp [go_sem, List.take_of_length_le]) ?_ | refine Gx.cc (cl2) rfl rfl rfl rfl rfl (by simp [go_sem, List.take_of_length_le] <;> with_reducible rfl) rfl (by simp [go_sem, List.take_of_length_le]) ?_ | refine Gx.cch (cl2) rfl rfl rfl rfl rfl (by simp [go_sem, List.take_of_length_le] <;> with_reducible rfl) rfl (by simp [go_sem, List.take_of_length_le]) ?_
          refine wkdasc (And.intro @hbb (And.intro @hM2 (@stepj))) _ ?_
          refine ⟨j1, by omega, by omega, ?_⟩
          rw [hsn]
          exact Cov.ofn (nm [0, 4]) rfl (by simp [go_sem, List.take_of_length_le, ren, ren1, ren2, okr, okr1, okr2, ChkT, ChkN, BlkN, nf, ints_snoc]) (by simp [go_sem, List.take_of_length_le, ren, ren1, ren2, okr, okr1, okr2, ChkT, ChkN, BlkN, nf, ints_snoc])
      · have hje : j = b.length := by
          have : ¬ j < b.length := by simpa using h
          omega
        subst hje
        rw [← hn]
        refine wkdac (@stepi) _ ?_
        refine ⟨i1, by omega, by omega, ?_⟩
        exact Cov.ofn (nm [1]) rfl (by simp [go_sem, List.take_of_length_le, ren, ren1, ren2, okr, okr1, okr2, ChkT, ChkN, BlkN, nf]) (by simp [go_sem, List.take_of_length_le, ren, ren1, ren2, okr, okr1, okr2, ChkT, ChkN, BlkN, nf])
    · have hie : i = a.length := by
        have : ¬ i < a.length := by simpa using h
        omega
      subst hie
      have hg := rowD_get a b a.length k b.length (by omega)
      rw [cellD_end] at hg
      have hbk : b.length < k := by omega
      refine wkdac (And.intro @hg (And.intro (@get_E _ _ _ _ hg) (@hbk))) _ ?_
      refine Out.mk (xs := ?_) ?_ ?_ (by first | exact .inr rfl | exact .inl rfl)
      rotate_left
      · simp [go_sem, List.take_of_length_le] <;> with_reducible rfl
      exact .v _
end Go.Proofs.Ytabhbmebhgodfaa.En
end
section
namespace Go.Proofs.Ytabhbmebhgodfaa.En
open Go.RowKit
set_option linter.unusedSimpArgs false
set_option linter.unusedVariables false
set_option maxHeartbeats 8000000
def okD (a b : List Int) : Bool := decide (a.length ≤ 8) && decide (b.length ≤ 8)
def farD (a b : List Int) : Int := if okD a b = true then (distD a b : Int) else 0
theorem implFar (a b : List Int) (ha : a.length ≤ 1000000) (hb : b.length ≤ 1000000) : Pure Try.prog 6 [.im 1 (ints a), .im 1 (ints b)] (.tu [.v (.int .i64 (farD a b)), .v (.bool (okD a b))]) := by
  unfold farD okD
  refine Pure.mk (rs := [.tmp 4, .tmp 5]) (nt := 17) Try.func6 (by kernel_rfl) rfl rfl rfl (by simp) ?_
  simp only [sl]
  by_cases h1 : a.length ≤ 8
  · have h1i : ¬ (8 : Int) < (a.length : Int) := by omega
    have h1n : ¬ 8 < a.length := by omega
    by_cases h2 : b.length ≤ 8
    · have h2i : ¬ (8 : Int) < (b.length : Int) := by omega
      have h2n : ¬ 8 < b.length := by omega
      have cp := implApart a b h1 h2
      rw [decide_eq_true h1, decide_eq_true h2]
      simp only [Bool.and_true, if_true]
      refine wkc (And.intro @h1i (And.intro @h1n (And.intro @h2i (@h2n)))) _ ?_
      refine GS.cc (cp) rfl rfl rfl rfl (by simp [go_sem, List.take_of_length_le] <;> with_reducible rfl) rfl (by simp [go_sem, List.take_of_length_le]) ?_
      refine wkc0 _ ?_
      refine Out.mk (xs := ?_) ?_ ?_ (by first | exact .inr rfl | exact .inl rfl)
      rotate_left
      · simp [go_sem, List.take_of_length_le] <;> with_reducible rfl
      exact Fz.tuL (.cons (.v _) (.cons (.v _) .nil))
    · have h2i : (8 : Int) < (b.length : Int) := by omega
      have h2n : 8 < b.length := by omega
      rw [decide_eq_true h1, decide_eq_false h2]
      simp only [Bool.and_false, Bool.false_eq_true, if_false]
      refine wkc (And.intro @h1i (And.intro @h1n (And.intro @h2i (@h2n)))) _ ?_
      refine Out.mk (xs := ?_) ?_ ?_ (by first | exact .inr rfl | exact .inl rfl)
      rotate_left
      · simp [go_sem, List.take_of_length_le] <;> with_reducible rfl
      exact Fz.tuL (.cons (.v _) (.cons (.v _) .nil))
  · have h1i : (8 : Int) < (a.length : Int) := by omega
    have h1n : 8 < a.length := by omega
    rw [decide_eq_false h1]
    simp only [Bool.false_and, Bool.false_eq_true, if_false]
    refine wkc (And.intro @h1i (@h1n)) _ ?_
    refine Out.mk (xs := ?_) ?_ ?_ (by first | exact .inr rfl | exact .inl rfl)
    rotate_left
    · simp [go_sem, List.take_of_length_le] <;> with_reducible rfl
    exact Fz.tuL (.cons (.v _) (.cons (.v _) .nil))
theorem specFar (a b : List Int) (ha : a.length ≤ 1000000) (hb : b.length ≤ 1000000) : Pure Try.prog 7 [.im 1 (ints a), .im 1 (ints b)] (.tu [.v (.int .i64 (farD a b)), .v (.bool (okD a b))]) := by
  unfold farD okD
  refine Pure.mk (rs := [.tmp 4, .tmp 5]) (nt := 17) Try.func7 (by kernel_rfl) rfl rfl rfl (by simp) ?_
  simp only [sl]
  by_cases h1 : a.length ≤ 8
  · have h1i : ¬ (8 : Int) < (a.length : Int) := by omega
    have h1n : ¬ 8 < a.length := by omega
    by_cases h2 : b.length ≤ 8
    · have h2i : ¬ (8 : Int) < (b.length : Int) := by omega
      have h2n : ¬ 8 < b.length := by omega
      have cp := specApart a b h1 h2
      rw [decide_eq_true h1, decide_eq_true h2]
      simp only [Bool.and_true, if_true]
      refine wkc (And.intro @h1i (And.intro @h1n (And.intro @h2i (@h2n)))) _ ?_
      refine GS.cc (cp) rfl rfl rfl rfl (by simp [go_sem, List.take_of_length_le] <;> with_reducible rfl) rfl (by simp [go_sem, List.take_of_length_le]) ?_
      refine wkc0 _ ?_
      refine Out.mk (xs := ?_) ?_ ?_ (by first | exact .inr rfl | exact .inl rfl)
      rotate_left
      · simp [go_sem, List.take_of_length_le] <;> with_reducible rfl
      exact Fz.tuL (.cons (.v _) (.cons (.v _) .nil))
    · have h2i : (8 : Int) < (b.length : Int) := by omega
      have h2n : 8 < b.length := by omega
      rw [decide_eq_true h1, decide_eq_false h2]
      simp only [Bool.and_false, Bool.false_eq_true, if_false]
      refine wkc (And.intro @h1i (And.intro @h1n (And.intro @h2i (@h2n)))) _ ?_
      refine Out.mk (xs := ?_) ?_ ?_ (by first | exact .inr rfl | exact .inl rfl)
      rotate_left
      · simp [go_sem, List.take_of_length_le] <;> with_reducible rfl
      exact Fz.tuL (.cons (.v _) (.cons (.v _) .nil))
  · have h1i : (8 : Int) < (a.length : Int) := by omega
    have h1n : 8 < a.length := by omega
    rw [decide_eq_false h1]
    simp only [Bool.false_and, Bool.false_eq_true, if_false]
    refine wkc (And.intro @h1i (@h1n)) _ ?_
    refine Out.mk (xs := ?_) ?_ ?_ (by first | exact .inr rfl | exact .inl rfl)
    rotate_left
    · simp [go_sem, List.take_of_length_le] <;> with_reducible rfl
    exact Fz.tuL (.cons (.v _) (.cons (.v _) .nil))
theorem sameInts (a b : List Int) (ha : a.length ≤ 1000000) (hb : b.length ≤ 1000000) : Pure Try.prog 8 [.im 1 (ints a), .im 1 (ints b)] (.v (.bool (decide (a = b)))) := by
  refine Pure.mk (rs := [.tmp 4]) (nt := 26) Try.func8 (by kernel_rfl) rfl rfl rfl (by simp) ?_
  simp only [sl]
  by_cases hl : a.length = b.length
  case neg =>
    have hli : ((a.length : Int) != (b.length : Int)) = true := by simp; omega
    rw [decide_eq_false (fun e => hl (by rw [e]))]
    refine wkdc (And.intro @hli (@hl)) _ ?_
    refine Out.mk (xs := ?_) ?_ ?_ (by first | exact .inr rfl | exact .inl rfl)
    rotate_left
    · simp [go_sem, List.take_of_length_le] <;> with_reducible rfl
    exact .v _
  have hli : ((a.length : Int) != (b.length : Int)) = false := by simp; omega
  refine wkdc (And.intro @hli (@hl)) _ ?_
  -- MARK1
  refine Holds.loop (ι := Nat) (fun i => ⟨[(0, .im 1 (ints a)), (1, .im 1 (ints b)), (12, .v (.int .i64 b.length)), (13, .v (.int .i64 i))], [], 0⟩)
    (fun i => i ≤ a.length ∧ a.take i = b.take i) (fun i => a.length - i) 0 ⟨Nat.zero_le _, rfl⟩ ?_ ?_
  · exact Cov.ofn (id) rfl (by simp [go_sem, List.take_of_length_le, ren, ren1, ren2, okr, okr1, okr2, ChkT, ChkN, BlkN, nf]) (by simp [go_sem, List.take_of_length_le, ren, ren1, ren2, okr, okr1, okr2, ChkT, ChkN, BlkN, nf])
  rintro i ⟨hi, he⟩
  have stepi : wr64 ((i : Int) + 1) = ((i + 1 : Nat) : Int) := wr64_id (by omega) (by omega)
  refine wkdc0 _ ?_
  refine Holds.cond rfl (fun h => ?_) (fun h => ?_)
  · have hib : i < b.length := by simpa using h
    have hia : i < a.length := by omega
    obtain ⟨x, hx⟩ : ∃ x, a[i]? = some x := ⟨_, List.getElem?_eq_getElem hia⟩
    obtain ⟨y, hy⟩ : ∃ y, b[i]? = some y := ⟨_, List.getElem?_eq_getElem hib⟩
    refine wkdsc0 _ ?_
    (refine Holds.any mixed ?_ ?_; (· kernel_rfl))
    refine wkdsc (And.intro @hia (And.intro @hib (And.intro @hx (And.intro (@get_E _ _ _ _ hx) (And.intro @hy (@get_E _ _ _ _ hy)))))) _ ?_
    -- MARK2
    by_cases hxy : x = y
    · have hne : (x != y) = false := by simp [hxy]
      refine wkdc (And.intro @hne (@hxy)) _ ?_
      refine ⟨i + 1, ⟨by omega, by rw [List.take_add_one, List.take_add_one, hx, hy, he, hxy]⟩, by omega, ?_⟩
      rw [stepi]
      exact Cov.ofn (id) rfl (by simp [go_sem, List.take_of_length_le, ren, ren1, ren2, okr, okr1, okr2, ChkT, ChkN, BlkN, nf]) (by simp [go_sem, List.take_of_length_le, ren, ren1, ren2, okr, okr1, okr2, ChkT, ChkN, BlkN, nf])
    · have hne : (x != y) = true := by simp [hxy]
      rw [decide_eq_false (fun e => by rw [e, hy] at hx; injection hx with hx; exact hxy hx.symm)]
      refine wkdc (And.intro @hne (@hxy)) _ ?_
      refine Out.mk (xs := ?_) ?_ ?_ (by first | exact .inr rfl | exact .inl rfl)
      rotate_left
      · simp [go_sem, List.take_of_length_le] <;> with_reducible rfl
      exact .v _
  · have hie : i = a.length := by
      have : ¬ i < b.length := by simpa using h
      omega
    subst hie
    rw [List.take_length] at he
    rw [decide_eq_true (by rw [he, hl, List.take_length])]
    refine wkdc0 _ ?_
    refine Out.mk (xs := ?_) ?_ ?_ (by first | exact .inr rfl | exact .inl rfl)
    rotate_left
    · simp [go_sem, List.take_of_length_le] <;> with_reducible rfl
    exact .v _
theorem drA_len (code : List Int) (hb : ∀ b ∈ code, 0 ≤ b ∧ b ≤ 255) : (drA code).1.length ≤ 6 := by
  have h : ∀ (n : Nat) (a : List Int) (st : St2), (drawA code n a st).1.length = a.length + n := by
    intro n
    induction n with
    | zero => intro a st; rfl
    | succ n ih => intro a st; rw [drawA, ih]; simp; omega
  have r7 := pickV_rng hb 7 (by omega) (0, 0)
  rw [drA, h]
  simp only [List.length_nil]
  omega
theorem drB_len (code : List Int) (hb : ∀ b ∈ code, 0 ≤ b ∧ b ≤ 255) : (drB code).length ≤ 9 := by
  have h : ∀ (n : Nat) (b : List Int) (st : St2), (drawB code n b st).length = b.length + n := by
    intro n
    induction n with
    | zero => intro a st; rfl
    | succ n ih =>
      intro a st
      rw [drawB, ih]
      have r := pickV_rng hb ((a.length : Int) + 1) (by omega) st
      simp only [stepB, List.length_append, List.length_take, List.length_drop, List.length_singleton]
      omega
  have r4 := pickV_rng hb 4 (by omega) (drS code)
  have h6 := drA_len code hb
  rw [drB, h]
  have : (drB0 code).length ≤ 6 := by
    unfold drB0
    split
    · simp
    · exact h6
  omega
theorem lawApart (code more : List Int) (hc : code.length < 140737488355328) (hm : more.length < 140737488355328) (hb : ∀ b ∈ code, 0 ≤ b ∧ b ≤ 255) (hbm : ∀ b ∈ more, 0 ≤ b ∧ b ≤ 255) : Pure Try.prog 3 [.im 1 (byteRows code), .im 1 (byteRows more)] (.v (.bool true)) := by
  have cbig : Pure Try.prog 4 [.im 1 (byteRows code), .im 1 (byteRows more)] (.v (.bool (decide (1048576 < code.length) || decide (1048576 - (code.length : Int) < (more.length : Int))))) := by
    have hw : wr64 (1048576 - (code.length : Int)) = 1048576 - (code.length : Int) := wr64_id (by omega) (by omega)
    refine Pure.mk (rs := [.tmp 4]) (nt := 16) Try.func4 (by kernel_rfl) rfl rfl rfl (by simp) ?_
    simp only [sl]
    by_cases h1 : 1048576 < code.length
    · have h1i : (1048576 : Int) < (code.length : Int) := by omega
      rw [decide_eq_true h1, Bool.true_or]
      refine wkc (And.intro @h1 (@h1i)) _ ?_
      refine Out.mk (xs := ?_) ?_ ?_ (by first | exact .inr rfl | exact .inl rfl)
      rotate_left
      · simp [go_sem, List.take_of_length_le] <;> with_reducible rfl
      exact .v _
    · have h1i : ¬ (1048576 : Int) < (code.length : Int) := by omega
      rw [decide_eq_false h1, Bool.false_or]
      refine wkc (And.intro @h1 (And.intro @h1i (@hw))) _ ?_
      refine Out.mk (xs := ?_) ?_ ?_ (by first | exact .inr rfl | exact .inl rfl)
      rotate_left
      · simp [go_sem, List.take_of_length_le] <;> with_reducible rfl
      exact .v _
  by_cases hbig : 1048576 < code.length ∨ (1048576 : Int) - (code.length : Int) < (more.length : Int)
  · rw [show (decide (1048576 < code.length) || decide (1048576 - (code.length : Int) < (more.length : Int))) = true by simpa using hbig] at cbig
    refine Pure.mk (rs := [.tmp 4]) (nt := 129) Try.func3 (by kernel_rfl) rfl rfl rfl (by simp) ?_
    simp only [sl]
    refine wkc0 _ ?_
    refine GS.cc (cbig) rfl rfl rfl rfl (by simp [go_sem, List.take_of_length_le] <;> with_reducible rfl) rfl (by simp [go_sem, List.take_of_length_le]) ?_
    refine wkc0 _ ?_
    refine Out.mk (xs := ?_) ?_ ?_ (by first | exact .inr rfl | exact .inl rfl)
    rotate_left
    · simp [go_sem, List.take_of_length_le] <;> with_reducible rfl
    exact .v _
  · rw [show (decide (1048576 < code.length) || decide (1048576 - (code.length : Int) < (more.length : Int))) = false by simpa using hbig] at cbig
    have c1 := drawApart code (by omega) hb
    have c2 := drawApart more (by omega) hbm
    have l1 := drA_len code hb
    have l2 := drB_len code hb
    have l3 := drA_len more hbm
    have l4 := drB_len more hbm
    generalize (drA code).1 = a at c1 l1
    generalize drB code = b at c1 l2
    generalize (drA more).1 = c at c2 l3
    generalize drB more = d at c2 l4
    have d1 := implFar a b (by omega) (by omega)
    have d2 := specFar a b (by omega) (by omega)
    have d3 := implFar b a (by omega) (by omega)
    have d4 := implFar a c (by omega) (by omega)
    have d5 := implFar c b (by omega) (by omega)
    have d6 := implFar c d (by omega) (by omega)
    have d7 := specFar c d (by omega) (by omega)
    have d8 := sameInts a b (by omega) (by omega)
    have hac : okD a c = true := by simp [okD]; omega
    have hba : okD b a = okD a b := by simp [okD, Bool.and_comm]
    have hcb : okD c b = okD a b := by
      unfold okD
      rw [decide_eq_true (show a.length ≤ 8 by omega), decide_eq_true (show c.length ≤ 8 by omega)]
    have hfba : farD b a = farD a b := by unfold farD; rw [hba, distD_comm]
    rw [hba, hfba] at d3
    rw [hac] at d4
    rw [hcb] at d5
    have htri : okD a b = true → farD a b ≤ farD a c + farD c b := fun h => by
      unfold farD
      rw [hac, hcb, h, if_pos rfl, if_pos rfl, if_pos rfl]
      have := distD_tri a b c
      omega
    have hz : okD a b = true → (farD a b == 0) = decide (a = b) := fun h => by
      unfold farD
      rw [h, if_pos rfl]
      have := distD_zero a b
      by_cases e : a = b
      · rw [decide_eq_true e, this.2 e]; rfl
      · rw [decide_eq_false e]
        have : distD a b ≠ 0 := fun h0 => e (this.1 h0)
        rw [beq_eq_false_iff_ne]; omega
    have hub : ∀ p q : List Int, p.length ≤ 9 → q.length ≤ 9 → 0 ≤ farD p q ∧ farD p q ≤ 18 := fun p q h1 h2 => by
      unfold farD
      have := distD_ub p q
      split <;> omega
    have u1 := hub a c (by omega) (by omega)
    have u2 := hub c b (by omega) (by omega)
    clear hub hfba hba hcb hac
    generalize decide (a = b) = same at d8 hz
    generalize farD a b = n at d1 d2 d3 htri hz
    generalize okD a b = ok at d1 d2 d3 d5 htri hz
    generalize farD a c = x at d4 htri u1
    generalize farD c b = y at d5 htri u2
    generalize farD c d = e at d6 d7
    generalize okD c d = four at d6 d7
    have hw : wr64 (x + y) = x + y := wr64_id (by omega) (by omega)
    refine Pure.mk (rs := [.tmp 4]) (nt := 129) Try.func3 (by kernel_rfl) rfl rfl rfl (by simp) ?_
    simp only [sl]
    refine wkc0 _ ?_
    refine GS.cc (cbig) rfl rfl rfl rfl (by simp [go_sem, List.take_of_length_le] <;> with_reducible rfl) rfl (by simp [go_sem, List.take_of_length_le]) ?_
    refine wkc0 _ ?_
    refine GS.cc (c1) rfl rfl rfl rfl (by simp [go_sem, List.take_of_length_le] <;> with_reducible rfl) rfl (by simp [go_sem, List.take_of_length_le]) ?_
    refine wkc0 _ ?_
    refine GS.cc (c2) rfl rfl rfl rfl (by simp [go_sem, List.take_of_length_le] <;> with_reducible rfl) rfl (by simp [go_sem, List.take_of_length_le]) ?_
    refine wkc0 _ ?_
    refine GS.cc (d1) rfl rfl rfl rfl (by simp [go_sem, List.take_of_length_le] <;> with_reducible rfl) rfl (by simp [go_sem, List.take_of_length_le]) ?_
    refine wkc0 _ ?_
    refine GS.cc (d2) rfl rfl rfl rfl (by simp [go_sem, List.take_of_length_le] <;> with_reducible rfl) rfl (by simp [go_sem, List.take_of_length_le]) ?_
    refine wkc0 _ ?_
    refine GS.cc (d3) rfl rfl rfl rfl (by simp [go_sem, List.take_of_length_le] <;> with_reducible rfl) rfl (by simp [go_sem, List.take_of_length_le]) ?_
    refine wkc0 _ ?_
    refine GS.cc (d4) rfl rfl rfl rfl (by simp [go_sem, List.take_of_length_le] <;> with_reducible rfl) rfl (by simp [go_sem, List.take_of_length_le]) ?_
    refine wkc0 _ ?_
    refine GS.cc (d5) rfl rfl rfl rfl (by simp [go_sem, List.take_of_length_le] <;> with_reducible rfl) rfl (by simp [go_sem, List.take_of_length_le]) ?_
    -- MARK3
    cases ok with
    | false =>
      refine wkc0 _ ?_
      -- MARK4
      refine GS.cc (d6) rfl rfl rfl rfl (by simp [go_sem, List.take_of_length_le] <;> with_reducible rfl) rfl (by simp [go_sem, List.take_of_length_le]) ?_
      refine wkc0 _ ?_
      refine GS.cc (d7) rfl rfl rfl rfl (by simp [go_sem, List.take_of_length_le] <;> with_reducible rfl) rfl (by simp [go_sem, List.take_of_length_le]) ?_
      refine wkc0 _ ?_
      refine Out.mk (xs := ?_) ?_ ?_ (by first | exact .inr rfl | exact .inl rfl)
      rotate_left
      · simp [go_sem, List.take_of_length_le] <;> with_reducible rfl
      exact .v _
    | true =>
      have hz1 := hz rfl
      have htr := htri rfl
      have hle : ¬ x + y < n := by omega
      refine wkc0 _ ?_
      refine GS.cc (d8) rfl rfl rfl rfl (by simp [go_sem, List.take_of_length_le] <;> with_reducible rfl) rfl (by simp [go_sem, List.take_of_length_le]) ?_
      -- MARK5
      refine wkc (And.intro @hz1 (And.intro @hw (@hle))) _ ?_
      refine GS.cc (d6) rfl rfl rfl rfl (by simp [go_sem, List.take_of_length_le] <;> with_reducible rfl) rfl (by simp [go_sem, List.take_of_length_le]) ?_
      refine wkc0 _ ?_
      refine GS.cc (d7) rfl rfl rfl rfl (by simp [go_sem, List.take_of_length_le] <;> with_reducible rfl) rfl (by simp [go_sem, List.take_of_length_le]) ?_
      refine wkc0 _ ?_
      refine Out.mk (xs := ?_) ?_ ?_ (by first | exact .inr rfl | exact .inl rfl)
      rotate_left
      · simp [go_sem, List.take_of_length_le] <;> with_reducible rfl
      exact .v _
end Go.Proofs.Ytabhbmebhgodfaa.En
end
