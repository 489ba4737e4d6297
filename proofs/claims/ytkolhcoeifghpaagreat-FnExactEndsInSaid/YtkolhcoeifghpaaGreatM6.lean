/- Own words and walks of this claim, part 6: what the program's functions compute, for all the arguments that are named; no further conditions. -/
import Derived.Test.YtkolhcoeifghpaaGreatM2
import Derived.Test.YtkolhcoeifghpaaGreatM5
import Derived.Test.YtkolhcoeifghpaaGreatM3
import Derived.Test.YtkolhcoeifghpaaGreatM4
section
namespace Go.Proofs.YtkolhcoeifghpaaGreat.En
open Go.RowKit
set_option linter.unusedSimpArgs false
set_option linter.unusedVariables false
set_option maxHeartbeats 4000000
theorem toItem (n : Node3) : Pure Tryz.prog 122 [.ag (nodeC n)] (.ag (nodeC n)) := by
  refine Pure.mk (rs := [.cell 2 97]) (nt := 14) Tryz.func122 rfl rfl rfl rfl (by simp) ?_
  simp only [sl, nodeC]
  refine wk0 _ ?_
  refine Out.mk (xs := ?_) ?_ ?_ (by first | exact .inr rfl | exact .inl rfl)
  rotate_left
  · simp [go_sem, List.take_of_length_le] <;> with_reducible rfl
  exact Fz.cl rfl
theorem toItemS (ns : List Node3) (hx : ns.length < 5864062014806) : Pure Tryz.prog 93 [.im 3 (nodes ns)] (.im 3 (nodes ns)) := by
  refine Pure.mk (rs := [.tmp 2]) (nt := 23) Tryz.func93 rfl rfl rfl rfl (by simp) ?_
  simp only [sl]
  refine wk (And.intro ((show (0:Int) ≤ (ns.length : Int) by omega)) (And.intro ((show (24:Int) * ns.length ≤ 281474976710656 by omega)) ((show (ns.length : Int) ≤ 281474976710656 by omega)))) _ ?_
  refine Holds.loop (ι := Nat) (fun i => ⟨[(0, .im 3 (nodes ns)), (3, .own 0 3 0 ns.length), (4, .v (.int .i64 i))], [(0, ⟨97, 3, half (nodes ns) [.v (.int .i64 0), .v (.int .i64 0), .v (.int .i64 0)] i⟩)], 1⟩) (fun i => i ≤ ns.length) (fun i => ns.length - i) 0 (Nat.zero_le _) ?_ ?_
  · exact Cov.of id (by simp [ChkT, okr, okr1, lk, ren, ren1]) (by simp [ChkB, lb, BlkC, half, nf])
  intro i hi
  refine wk0 _ ?_
  refine Holds.cond rfl (fun hl => ?_) (fun hl => ?_)
  · have hlt : i < ns.length := by simpa using hl
    have hxi : ns[i]? = some ns[i] := List.getElem?_eq_getElem hlt
    have hhi := half_get (nodes ns) [.v (.int .i64 0), .v (.int .i64 0), .v (.int .i64 0)] i (by simpa using hlt)
    have hhs := half_set (nodes ns) [.v (.int .i64 0), .v (.int .i64 0), .v (.int .i64 0)] i (by simpa using hlt) (nodeC ns[i]) (by simp [hxi])
    simp only [nodeC] at hhs
    refine wk (And.intro @hxi (And.intro @hlt (@nodeC.eq_1))) _ ?_
    refine GS.cc (toItem ns[i]) rfl rfl rfl rfl (by simp [go_sem, List.take_of_length_le, nodeC] <;> with_reducible rfl) rfl (by simp [go_sem, List.take_of_length_le, nodeC]) ?_
    refine wk (And.intro @hxi (And.intro @hlt (And.intro @hhi (And.intro @hhs (@nodeC.eq_1))))) _ ?_
    refine ⟨i + 1, by omega, by omega, ?_⟩
    rw [wr64_id (by omega) (by omega)]
    exact Cov.of id (by simp [ChkT, okr, okr1, lk, ren, ren1]) (by simp [ChkB, lb, BlkC]; exact .inl (half_ok (nodes_ok ns) (by simp [cl1])).nf)
  · have hle : i = ns.length := by
      have : ¬ i < ns.length := by simpa using hl
      omega
    subst hle
    rw [show half (nodes ns) [.v (.int .i64 0), .v (.int .i64 0), .v (.int .i64 0)] ns.length = nodes ns by have := half_all (nodes ns) [AV.v (.int .i64 0), .v (.int .i64 0), .v (.int .i64 0)]; rwa [nodes_len] at this]
    refine wk0 _ ?_
    refine Out.mk (xs := ?_) ?_ ?_ (by first | exact .inr rfl | exact .inl rfl)
    rotate_left
    · simp [go_sem, List.take_of_length_le] <;> with_reducible rfl
    exact Fz.all rfl rfl (by simp) rfl (nodes_ok ns)
theorem szItemS (xs : List Node3) (n : Int) (h0 : -1 ≤ n) (h1 : n ≤ 1048576) (hx : xs.length < 4611686018427387904) : Pure Tryz.prog 89 [.im 3 (nodes xs), .v (.int .i64 n)] (.v (.int .i64 (less n xs.length))) := by
  refine Pure.mk (rs := [.tmp 4]) (nt := 12) Tryz.func89 rfl rfl rfl rfl (by simp) ?_
  simp only [sl]
  have hw : wr64 (n - xs.length) = n - xs.length := wr64_id (by omega) (by omega)
  refine wk (@hw) _ ?_
  refine Holds.cond rfl (fun hl => ?_) (fun hl => ?_)
  · have : n - xs.length < 0 := by simpa using hl
    simp only [less, if_pos this]
    refine wk0 _ ?_
    refine Out.mk (xs := ?_) ?_ ?_ (by first | exact .inr rfl | exact .inl rfl)
    rotate_left
    · simp [go_sem, List.take_of_length_le] <;> with_reducible rfl
    exact .v _
  · have : ¬ n - xs.length < 0 := by simpa using hl
    simp only [less, if_neg this]
    refine wk0 _ ?_
    refine Out.mk (xs := ?_) ?_ ?_ (by first | exact .inr rfl | exact .inl rfl)
    rotate_left
    · simp [go_sem, List.take_of_length_le] <;> with_reducible rfl
    exact .v _
theorem toItemSO (l : List (Node3)) (h0 : l.length < 5864062014806) : Fn Tryz.prog 93 0 [.im 3 (nodes l)] [] (.own 0 3 0 l.length) 1 [(0, ⟨97, 3, nodes l⟩)] := by
  refine Fn.mk (rs := [.tmp 2]) (nt := 23) Tryz.func93 (by kernel_rfl) rfl rfl rfl (by simp) ?_
  simp only [sl]
  refine wk (And.intro ((show (0:Int) ≤ (l.length : Int) by omega)) (And.intro ((show (24:Int) * l.length ≤ 281474976710656 by omega)) ((show (l.length : Int) ≤ 281474976710656 by omega)))) _ ?_
  refine Holds.loop (ι := Nat) (fun i => ⟨[(0, .im 3 (nodes l)), (3, .own 0 3 0 l.length), (4, .v (.int .i64 i))], [(0, ⟨97, 3, half (nodes l) [.v (.int .i64 0), .v (.int .i64 0), .v (.int .i64 0)] i⟩)], 1⟩) (fun i => i ≤ l.length) (fun i => l.length - i) 0 (Nat.zero_le _) ?_ ?_
  · have hnf0 : nfr (List.replicate l.length ([.v (.int .i64 0), .v (.int .i64 0), .v (.int .i64 0)] : List AV)) := .rep (by simp [nf])
    exact Cov.ofn (id) rfl (by simp [go_sem, List.take_of_length_le, ren, ren1, ren2, okr, okr1, okr2, ChkT, ChkN, BlkN, nf, half, hnf0]) (by simp [go_sem, List.take_of_length_le, ren, ren1, ren2, okr, okr1, okr2, ChkT, ChkN, BlkN, nf, half, hnf0])
  intro i hi
  refine wk0 _ ?_
  refine Holds.cond rfl (fun hl => ?_) (fun hl => ?_)
  · have hlt : i < l.length := by simpa using hl
    have hxi : l[i]? = some l[i] := List.getElem?_eq_getElem hlt
    have hhi := half_get (nodes l) [.v (.int .i64 0), .v (.int .i64 0), .v (.int .i64 0)] i (by simpa using hlt)
    have hhs := half_set (nodes l) [.v (.int .i64 0), .v (.int .i64 0), .v (.int .i64 0)] i (by simpa using hlt) (nodeC l[i]) (by simp [hxi])
    have hnf : nfr (half (nodes l) [.v (.int .i64 0), .v (.int .i64 0), .v (.int .i64 0)] i) := nfr_half (by simp) (by simp [nf])
    have hnf1 : nfr (half (nodes l) [.v (.int .i64 0), .v (.int .i64 0), .v (.int .i64 0)] (i + 1)) := nfr_half (by simp) (by simp [nf])
    simp only [nodeC] at hhs
    refine wk (And.intro @hxi (And.intro @hlt (@nodeC.eq_1))) _ ?_
    refine GS.cc (toItem l[i]) rfl rfl rfl rfl (by simp [go_sem, List.take_of_length_le, nodeC] <;> with_reducible rfl) rfl (by simp [go_sem, List.take_of_length_le, nodeC]) ?_
    refine wk (And.intro @hxi (And.intro @hlt (And.intro @hhi (And.intro @hhs (@nodeC.eq_1))))) _ ?_
    refine ⟨i + 1, by omega, by omega, ?_⟩
    rw [wr64_id (by omega) (by omega)]
    exact Cov.ofn (id) rfl (by simp [go_sem, List.take_of_length_le, ren, ren1, ren2, okr, okr1, okr2, ChkT, ChkN, BlkN, nf, hnf, hnf1]) (by simp [go_sem, List.take_of_length_le, ren, ren1, ren2, okr, okr1, okr2, ChkT, ChkN, BlkN, nf, hnf, hnf1])
  · have hle : i = l.length := by
      have : ¬ i < l.length := by simpa using hl
      omega
    subst hle
    rw [show half (nodes l) [.v (.int .i64 0), .v (.int .i64 0), .v (.int .i64 0)] l.length = nodes l by have := half_all (nodes l) ([.v (.int .i64 0), .v (.int .i64 0), .v (.int .i64 0)] : List AV); rwa [show (nodes l).length = l.length by simp] at this]
    refine wk0 _ ?_
    refine OutF.mkn (xs := ?_) (nm [0]) ?_ ?_ ?_ ?_ ?_ (by first | exact .inr rfl | exact .inl rfl)
    rotate_left
    · simp [go_sem, List.take_of_length_le] <;> with_reducible rfl
    · simp [go_sem, List.take_of_length_le, ren, ren1, ren2, okr, okr1, okr2, ChkN, BlkN, List.range_succ, nf]
    · simp [go_sem, List.take_of_length_le, ren, ren1, ren2, okr, okr1, okr2, ChkN, BlkN, List.range_succ, nf]
    · simp [go_sem, List.take_of_length_le, ren, ren1, ren2, okr, okr1, okr2, ChkN, BlkN, List.range_succ, nf]
    · rfl
theorem toItemSS (ns : List (List Node3)) (hx : ns.length < 5864062014806) (hs : ∀ e ∈ ns, e.length < 5864062014806) : Pure Tryz.prog 48 [.im 1 (itemss ns)] (.im 1 (itemss ns)) := by
  refine Pure.mk (rs := [.tmp 2]) (nt := 23) Tryz.func48 (by kernel_rfl) rfl rfl rfl (by simp) ?_
  simp only [sl]
  refine wk (And.intro ((show (0:Int) ≤ (ns.length : Int) by omega)) (And.intro ((show (24:Int) * ns.length ≤ 281474976710656 by omega)) ((show (ns.length : Int) ≤ 281474976710656 by omega)))) _ ?_
  refine Holds.loop (ι := Nat) (fun i => ⟨[(0, .im 1 (itemss ns)), (3, .own 0 1 0 ns.length), (4, .v (.int .i64 i))], [(0, ⟨94, 1, half (itemss ns) [.v (.slice none 0 0)] i⟩)], 1⟩) (fun i => i ≤ ns.length) (fun i => ns.length - i) 0 (Nat.zero_le _) ?_ ?_
  · exact Cov.of id (by simp [ChkT, okr, okr1, lk, ren, ren1]) (by simp [ChkB, lb, BlkC, half, nf])
  intro i hi
  refine wk0 _ ?_
  refine Holds.cond rfl (fun hl => ?_) (fun hl => ?_)
  · have hlt : i < ns.length := by simpa using hl
    have hxi : ns[i]? = some ns[i] := List.getElem?_eq_getElem hlt
    have hhi := half_get (itemss ns) [.v (.slice none 0 0)] i (by simpa using hlt)
    have hhs := half_set (itemss ns) [.v (.slice none 0 0)] i (by simpa using hlt) (itemssC ns[i]) (by simp [hxi])
    simp only [itemssC] at hhs
    refine wk (And.intro @hxi (And.intro @hlt (@itemssC.eq_1))) _ ?_
    refine GS.cc (toItemS ns[i] (hs _ (List.getElem_mem hlt))) rfl rfl rfl rfl (by simp [go_sem, List.take_of_length_le, itemssC] <;> with_reducible rfl) rfl (by simp [go_sem, List.take_of_length_le, itemssC]) ?_
    refine wk (And.intro @hxi (And.intro @hlt (And.intro @hhi (And.intro @hhs (@itemssC.eq_1))))) _ ?_
    refine ⟨i + 1, by omega, by omega, ?_⟩
    rw [wr64_id (by omega) (by omega)]
    exact Cov.of id (by simp [ChkT, okr, okr1, lk, ren, ren1]) (by simp [ChkB, lb, BlkC]; exact .inl (half_ok (itemss_ok ns) (by simp [cl1])).nf)
  · have hle : i = ns.length := by
      have : ¬ i < ns.length := by simpa using hl
      omega
    subst hle
    rw [show half (itemss ns) [.v (.slice none 0 0)] ns.length = itemss ns by have := half_all (itemss ns) [AV.v (.slice none 0 0)]; rwa [itemss_len] at this]
    refine wk0 _ ?_
    refine Out.mk (xs := ?_) ?_ ?_ (by first | exact .inr rfl | exact .inl rfl)
    rotate_left
    · simp [go_sem, List.take_of_length_le] <;> with_reducible rfl
    exact Fz.all rfl rfl (by simp) rfl (itemss_ok ns)
def szIs (n : Int) : List (List Node3) → Int
  | [] => n
  | e :: es => if less n e.length < 0 then -1 else szIs (less n e.length) es
def szIsAll (n : Int) (es : List (List Node3)) : Int := if n - es.length < 0 then -1 else szIs (n - es.length) es
theorem szIs_in (es : List (List Node3)) : ∀ n : Int, -1 ≤ n → n ≤ 1048576 → -1 ≤ szIs n es ∧ szIs n es ≤ 1048576 := by
  induction es with
  | nil => intro n h0 h1; exact ⟨h0, h1⟩
  | cons e es ih =>
    intro n h0 h1
    unfold szIs
    split
    · omega
    · exact ih _ (less_in h1).1 (less_in h1).2
theorem szIsAll_in (es : List (List Node3)) {n : Int} (h0 : -1 ≤ n) (h1 : n ≤ 1048576) : -1 ≤ szIsAll n es ∧ szIsAll n es ≤ 1048576 := by
  unfold szIsAll
  split
  · omega
  · exact szIs_in es _ (by omega) (by omega)
theorem szItemSS (xs : List (List Node3)) (n : Int) (h0 : -1 ≤ n) (h1 : n ≤ 1048576) (hx : xs.length < 4611686018427387904) (hs : ∀ e ∈ xs, e.length < 4611686018427387904) : Pure Tryz.prog 44 [.im 1 (itemss xs), .v (.int .i64 n)] (.v (.int .i64 (szIsAll n xs))) := by
  refine Pure.mk (rs := [.tmp 4]) (nt := 27) Tryz.func44 (by kernel_rfl) rfl rfl rfl (by simp) ?_
  simp only [sl]
  have hw : wr64 (n - xs.length) = n - xs.length := wr64_id (by omega) (by omega)
  refine wk (@hw) _ ?_
  refine Holds.cond rfl (fun hl => ?_) (fun hl => ?_)
  · have : n - xs.length < 0 := by simpa using hl
    simp only [szIsAll, if_pos this]
    refine wk0 _ ?_
    refine Out.mk (xs := ?_) ?_ ?_ (by first | exact .inr rfl | exact .inl rfl)
    rotate_left
    · simp [go_sem, List.take_of_length_le] <;> with_reducible rfl
    exact .v _
  have hnn : ¬ n - xs.length < 0 := by simpa using hl
  simp only [szIsAll, if_neg hnn]
  refine wk0 _ ?_
  refine Holds.loop (ι := Nat × Int) (fun i => ⟨[(0, .im 1 (itemss xs)), (1, .v (.int .i64 i.2)), (5, .v (.int .i64 i.1))], [], 0⟩) (fun i => i.1 ≤ xs.length ∧ 0 ≤ i.2 ∧ i.2 ≤ 1048576 ∧ szIs i.2 (xs.drop i.1) = szIs (n - xs.length) xs) (fun i => xs.length - i.1) (0, n - xs.length) ⟨Nat.zero_le _, by simpa using hnn, by show n - (xs.length : Int) ≤ 1048576; omega, rfl⟩ ?_ ?_
  · exact Cov.of id (by simp [ChkT, okr, okr1, lk, ren, ren1]) (by simp [ChkB])
  rintro ⟨i, m⟩ ⟨hi, hm0, hm1, hsz⟩
  dsimp only at hi hm0 hm1 hsz ⊢
  refine wk0 _ ?_
  refine Holds.cond rfl (fun hl => ?_) (fun hl => ?_)
  · have hlt : i < xs.length := by simpa using hl
    have hxi : xs[i]? = some xs[i] := List.getElem?_eq_getElem hlt
    rw [List.drop_eq_getElem_cons hlt, szIs] at hsz
    refine wk (And.intro @hxi (@itemssC.eq_1)) _ ?_
    refine GS.cc (szItemS xs[i] m (by omega) hm1 (hs _ (List.getElem_mem hlt))) rfl rfl rfl rfl (by simp [go_sem, List.take_of_length_le, itemssC] <;> with_reducible rfl) rfl (by simp [go_sem, List.take_of_length_le, itemssC]) ?_
    refine wk0 _ ?_
    refine Holds.cond rfl (fun hl => ?_) (fun hl => ?_)
    · have h : less m xs[i].length < 0 := by simpa using hl
      rw [if_pos h] at hsz
      rw [← hsz]
      refine wk0 _ ?_
      refine Out.mk (xs := ?_) ?_ ?_ (by first | exact .inr rfl | exact .inl rfl)
      rotate_left
      · simp [go_sem, List.take_of_length_le] <;> with_reducible rfl
      exact .v _
    · have h : ¬ less m xs[i].length < 0 := by simpa using hl
      rw [if_neg h] at hsz
      refine wk0 _ ?_
      refine ⟨(i + 1, less m xs[i].length), ⟨hlt, by show (0:Int) ≤ _; omega, (less_in hm1).2, hsz⟩, by show xs.length - (i + 1) < xs.length - i; omega, ?_⟩
      rw [wr64_id (by omega) (by omega)]
      exact Cov.of id (by simp [ChkT, okr, okr1, lk, ren, ren1]) (by simp [ChkB])
  · have hle : i = xs.length := by
      have : ¬ i < xs.length := by simpa using hl
      omega
    subst hle
    rw [List.drop_length, szIs] at hsz
    rw [← hsz]
    refine wk0 _ ?_
    refine Out.mk (xs := ?_) ?_ ?_ (by first | exact .inr rfl | exact .inl rfl)
    rotate_left
    · simp [go_sem, List.take_of_length_le] <;> with_reducible rfl
    exact .v _
theorem toItemSSO (l : List (List Node3)) (h0 : l.length < 5864062014806) (h1 : ∀ q ∈ l, q.length < 5864062014806) : Fn Tryz.prog 48 0 [.im 1 (itemss l)] [] (.own 0 1 0 l.length) 1 [(0, ⟨94, 1, itemssO l⟩)] := by
  refine Fn.mk (rs := [.tmp 2]) (nt := 23) Tryz.func48 (by kernel_rfl) rfl rfl rfl (by simp) ?_
  simp only [sl]
  refine wk (And.intro ((show (0:Int) ≤ (l.length : Int) by omega)) (And.intro ((show (24:Int) * l.length ≤ 281474976710656 by omega)) ((show (l.length : Int) ≤ 281474976710656 by omega)))) _ ?_
  refine Holds.loop (ι := Nat) (fun i => ⟨[(0, .im 1 (itemss l)), (3, .own 0 1 0 l.length), (4, .v (.int .i64 i))], [(0, ⟨94, 1, half (itemssO l) [.v (.slice none 0 0)] i⟩)], 1⟩) (fun i => i ≤ l.length) (fun i => l.length - i) 0 (Nat.zero_le _) ?_ ?_
  · have hnf0 : nfr (List.replicate l.length ([.v (.slice none 0 0)] : List AV)) := .rep (by simp [nf])
    exact Cov.ofn (id) rfl (by simp [go_sem, List.take_of_length_le, ren, ren1, ren2, okr, okr1, okr2, ChkT, ChkN, BlkN, nf, half, hnf0]) (by simp [go_sem, List.take_of_length_le, ren, ren1, ren2, okr, okr1, okr2, ChkT, ChkN, BlkN, nf, half, hnf0])
  intro i hi
  refine wk0 _ ?_
  refine Holds.cond rfl (fun hl => ?_) (fun hl => ?_)
  · have hlt : i < l.length := by simpa using hl
    have hxi : l[i]? = some l[i] := List.getElem?_eq_getElem hlt
    have hhi := half_get (itemssO l) [.v (.slice none 0 0)] i (by simpa using hlt)
    have hhs := half_set (itemssO l) [.v (.slice none 0 0)] i (by simpa using hlt) (itemO l[i]) (by simp [hxi])
    have hnf : nfr (half (itemssO l) [.v (.slice none 0 0)] i) := nfr_half (by simp) (by simp [nf])
    have hnf1 : nfr (half (itemssO l) [.v (.slice none 0 0)] (i + 1)) := nfr_half (by simp) (by simp [nf])
    simp only [itemO] at hhs
    refine wk (And.intro @hxi (And.intro @hlt (@itemssC.eq_1))) _ ?_
    refine GS.fnn [] (toItemSO l[i] (h1 _ (List.getElem_mem hlt))) rfl rfl rfl rfl (by simp [go_sem, List.take_of_length_le, ren, ren1, ren2, okr, okr1, okr2, ChkN, BlkN, List.range_succ, nf, itemssC] <;> with_reducible rfl) (by simp [go_sem, List.take_of_length_le, ren, ren1, ren2, okr, okr1, okr2, ChkN, BlkN, List.range_succ, nf, itemssC]) (by simp [go_sem, List.take_of_length_le, ren, ren1, ren2, okr, okr1, okr2, ChkN, BlkN, List.range_succ, nf, itemssC]) (by simp [List.range_succ, lb]) (ChkN.toB (by simp [go_sem, List.take_of_length_le, ren, ren1, ren2, okr, okr1, okr2, ChkN, BlkN, List.range_succ, nf, itemssC])) (by decide) (by simp) rfl (.nfr (by simp) .nil) (by simp [go_sem, List.take_of_length_le, ren, ren1, ren2, okr, okr1, okr2, ChkN, BlkN, List.range_succ, nf, itemssC] <;> with_reducible rfl) ?_
    refine wk (And.intro @hxi (And.intro @hlt (And.intro @hhi (And.intro @hhs (@itemssC.eq_1))))) _ ?_
    refine ⟨i + 1, by omega, by omega, ?_⟩
    rw [wr64_id (by omega) (by omega)]
    refine Cov.trans ?_ (Cov.close 0 i 0 rfl (set_get hhi) rfl rfl rfl rfl (by first | rfl | simp) (by simp))
    simp only [rm, st, List.set_set, List.set_cons_zero, List.set_cons_succ, hhs]
    exact Cov.ofn (id) rfl (by simp [go_sem, List.take_of_length_le, ren, ren1, ren2, okr, okr1, okr2, ChkT, ChkN, BlkN, nf, hnf, hnf1]) (by simp [go_sem, List.take_of_length_le, ren, ren1, ren2, okr, okr1, okr2, ChkT, ChkN, BlkN, nf, hnf, hnf1])
  · have hle : i = l.length := by
      have : ¬ i < l.length := by simpa using hl
      omega
    subst hle
    rw [show half (itemssO l) [.v (.slice none 0 0)] l.length = itemssO l by have := half_all (itemssO l) ([.v (.slice none 0 0)] : List AV); rwa [show (itemssO l).length = l.length by simp] at this]
    refine wk0 _ ?_
    refine OutF.mkn (xs := ?_) (nm [0]) ?_ ?_ ?_ ?_ ?_ (by first | exact .inr rfl | exact .inl rfl)
    rotate_left
    · simp [go_sem, List.take_of_length_le] <;> with_reducible rfl
    · simp [go_sem, List.take_of_length_le, ren, ren1, ren2, okr, okr1, okr2, ChkN, BlkN, List.range_succ, nf]
    · simp [go_sem, List.take_of_length_le, ren, ren1, ren2, okr, okr1, okr2, ChkN, BlkN, List.range_succ, nf]
    · simp [go_sem, List.take_of_length_le, ren, ren1, ren2, okr, okr1, okr2, ChkN, BlkN, List.range_succ, nf]
    · rfl
theorem toLrO (x : LrT) (h0 : (x.1).length < 5864062014806) (h1 : ∀ q ∈ (x.1), q.length < 5864062014806) (h2 : (x.2).length < 5864062014806) (h3 : ∀ q ∈ (x.2), q.length < 35184372088832) : Fn Tryz.prog 20 0 [.ag (lrC x)] [] (.ag [.own 0 1 0 (x.1).length, .own 1 1 0 (x.2).length]) 2 [(0, ⟨94, 1, itemssO x.1⟩), (1, ⟨25, 1, intssO x.2⟩)] := by
  refine Fn.mk (rs := [.cell 2 48]) (nt := 13) Tryz.func20 (by kernel_rfl) rfl rfl rfl (by simp) ?_
  simp only [sl, lrC]
  refine wk0 _ ?_
  refine GS.fnn [] (toItemSSO x.1 h0 h1) rfl rfl rfl rfl (by simp [go_sem, List.take_of_length_le, ren, ren1, ren2, okr, okr1, okr2, ChkN, BlkN, List.range_succ, nf, lrC] <;> with_reducible rfl) (by simp [go_sem, List.take_of_length_le, ren, ren1, ren2, okr, okr1, okr2, ChkN, BlkN, List.range_succ, nf, lrC]) (by simp [go_sem, List.take_of_length_le, ren, ren1, ren2, okr, okr1, okr2, ChkN, BlkN, List.range_succ, nf, lrC]) (by simp [List.range_succ, lb]) (ChkN.toB (by simp [go_sem, List.take_of_length_le, ren, ren1, ren2, okr, okr1, okr2, ChkN, BlkN, List.range_succ, nf, lrC])) (by decide) (by simp) rfl (.nfr (by simp) .nil) (by simp [go_sem, List.take_of_length_le, ren, ren1, ren2, okr, okr1, okr2, ChkN, BlkN, List.range_succ, nf, lrC] <;> with_reducible rfl) ?_
  refine wk0 _ ?_
  refine GS.fnn [] (toIntSSO x.2 h2 h3) rfl rfl rfl rfl (by simp [go_sem, List.take_of_length_le, ren, ren1, ren2, okr, okr1, okr2, ChkN, BlkN, List.range_succ, nf, lrC] <;> with_reducible rfl) (by simp [go_sem, List.take_of_length_le, ren, ren1, ren2, okr, okr1, okr2, ChkN, BlkN, List.range_succ, nf, lrC]) (by simp [go_sem, List.take_of_length_le, ren, ren1, ren2, okr, okr1, okr2, ChkN, BlkN, List.range_succ, nf, lrC]) (by simp [List.range_succ, lb]) (ChkN.toB (by simp [go_sem, List.take_of_length_le, ren, ren1, ren2, okr, okr1, okr2, ChkN, BlkN, List.range_succ, nf, lrC])) (by decide) (by simp) rfl (.nfr (by simp) .nil) (by simp [go_sem, List.take_of_length_le, ren, ren1, ren2, okr, okr1, okr2, ChkN, BlkN, List.range_succ, nf, lrC] <;> with_reducible rfl) ?_
  refine wk0 _ ?_
  refine OutF.mkn (xs := ?_) (nm [3, 4]) ?_ ?_ ?_ ?_ ?_ (by first | exact .inr rfl | exact .inl rfl)
  rotate_left
  · simp [go_sem, List.take_of_length_le, lrC] <;> with_reducible rfl
  · simp [go_sem, List.take_of_length_le, ren, ren1, ren2, okr, okr1, okr2, ChkN, BlkN, List.range_succ, nf, lrC]
  · simp [go_sem, List.take_of_length_le, ren, ren1, ren2, okr, okr1, okr2, ChkN, BlkN, List.range_succ, nf, lrC]
  · simp [go_sem, List.take_of_length_le, ren, ren1, ren2, okr, okr1, okr2, ChkN, BlkN, List.range_succ, nf, lrC]
  · rfl
theorem toLr (x : LrT) (h0 : x.1.length < 5864062014806) (h1 : ∀ q ∈ x.1, q.length < 5864062014806) (h2 : x.2.length < 5864062014806) (h3 : ∀ q ∈ x.2, q.length < 35184372088832) : Pure Tryz.prog 20 [.ag (lrC x)] (.ag (lrC x)) := by
  have c1 := toItemSS x.1 h0 h1
  have c2 := toIntSS x.2 h2 h3
  refine Pure.mk (rs := [.cell 2 48]) (nt := 13) Tryz.func20 (by kernel_rfl) rfl rfl rfl (by simp) ?_
  simp only [sl, lrC]
  refine wk0 _ ?_
  refine GS.cc (c1) rfl rfl rfl rfl (by simp [go_sem, List.take_of_length_le] <;> with_reducible rfl) rfl (by simp [go_sem, List.take_of_length_le]) ?_
  refine wk0 _ ?_
  refine GS.cc (c2) rfl rfl rfl rfl (by simp [go_sem, List.take_of_length_le] <;> with_reducible rfl) rfl (by simp [go_sem, List.take_of_length_le]) ?_
  refine wk0 _ ?_
  refine Out.mk (xs := ?_) ?_ ?_ (by first | exact .inr rfl | exact .inl rfl)
  rotate_left
  · simp [go_sem, List.take_of_length_le] <;> with_reducible rfl
  exact Fz.cl rfl
def szLrF (n : Int) (x : LrT) : Int := if szIsAll n x.1 < 0 then -1 else szSsAll (szIsAll n x.1) x.2
theorem szLr (x : LrT) (n : Int) (g0 : -1 ≤ n) (g1 : n ≤ 1048576) (h0 : x.1.length < 5864062014806) (h1 : ∀ q ∈ x.1, q.length < 5864062014806) (h2 : x.2.length < 5864062014806) (h3 : ∀ q ∈ x.2, q.length < 35184372088832) : Pure Tryz.prog 18 [.ag (lrC x), .v (.int .i64 n)] (.v (.int .i64 (szLrF n x))) := by
  have c1 := szItemSS x.1 n g0 g1 (by omega) (fun e he => by have := h1 e he; omega)
  have hi := szIsAll_in x.1 g0 g1
  have c2 := szIntSS x.2 (szIsAll n x.1) hi.1 hi.2 (by omega) (fun e he => by have := h3 e he; omega)
  have hi2 := szSsAll_in x.2 hi.1 hi.2
  unfold szLrF
  generalize szIsAll n x.1 = a at c1 c2 hi hi2 ⊢
  generalize szSsAll a x.2 = b at c2 hi2 ⊢
  refine Pure.mk (rs := [.tmp 4]) (nt := 18) Tryz.func18 (by kernel_rfl) rfl rfl rfl (by simp) ?_
  simp only [sl, lrC]
  refine wk0 _ ?_
  refine GS.cc (c1) rfl rfl rfl rfl (by simp [go_sem, List.take_of_length_le] <;> with_reducible rfl) rfl (by simp [go_sem, List.take_of_length_le]) ?_
  refine wk0 _ ?_
  refine Holds.cond rfl (fun hl => ?_) (fun hl => ?_)
  · have h : a < 0 := by simpa using hl
    rw [if_pos h]
    refine wk0 _ ?_
    refine Out.mk (xs := ?_) ?_ ?_ (by first | exact .inr rfl | exact .inl rfl)
    rotate_left
    · simp [go_sem, List.take_of_length_le] <;> with_reducible rfl
    exact .v _
  have h : ¬ a < 0 := by simpa using hl
  rw [if_neg h]
  refine wk0 _ ?_
  refine GS.cc (c2) rfl rfl rfl rfl (by simp [go_sem, List.take_of_length_le] <;> with_reducible rfl) rfl (by simp [go_sem, List.take_of_length_le]) ?_
  refine wk0 _ ?_
  refine Holds.cond rfl (fun hl => ?_) (fun hl => ?_)
  · have h : b < 0 := by simpa using hl
    rw [show b = -1 by omega]
    refine wk0 _ ?_
    refine Out.mk (xs := ?_) ?_ ?_ (by first | exact .inr rfl | exact .inl rfl)
    rotate_left
    · simp [go_sem, List.take_of_length_le] <;> with_reducible rfl
    exact .v _
  refine wk0 _ ?_
  refine Out.mk (xs := ?_) ?_ ?_ (by first | exact .inr rfl | exact .inl rfl)
  rotate_left
  · simp [go_sem, List.take_of_length_le] <;> with_reducible rfl
  exact .v _
end Go.Proofs.YtkolhcoeifghpaaGreat.En
end
section
namespace Go.Proofs.YtkolhcoeifghpaaGreat.En
open Go.RowKit
set_option linter.unusedSimpArgs false
set_option linter.unusedVariables false
def lenS {α : Type} : List (List α) → Nat
  | [] => 0
  | e :: es => e.length + lenS es
theorem szIs_wt : ∀ (es : List (List Node3)) (n : Int), 0 ≤ szIs n es → (lenS es : Int) ≤ n
  | [], n, h => h
  | e :: es, n, h => by
    unfold szIs at h
    split at h
    · omega
    · rename_i hn
      have := szIs_wt es _ h
      unfold less at this hn
      simp only [lenS]
      split at this
      · rename_i g; rw [if_pos g] at hn; omega
      · omega
theorem szIs_le : ∀ (es : List (List Node3)) (n : Int), 0 ≤ szIs n es → szIs n es ≤ n
  | [], n, h => Int.le_refl _
  | e :: es, n, h => by
    unfold szIs at h ⊢
    split at h
    · omega
    · rename_i hn
      rw [if_neg hn]
      have := szIs_le es _ h
      unfold less at this hn ⊢
      split at this
      · rename_i g; rw [if_pos g] at hn; omega
      · rename_i g; rw [if_neg g]; omega
theorem szSs_wtD : ∀ (es : List (List Int)) (n : Int), 0 ≤ szSs n es → (lenS es : Int) ≤ n
  | [], n, h => h
  | e :: es, n, h => by
    unfold szSs at h
    split at h
    · omega
    · rename_i hn
      have := szSs_wtD es _ h
      unfold less at this hn
      simp only [lenS]
      split at this
      · rename_i g; rw [if_pos g] at hn; omega
      · omega
theorem wItemS_lenS : ∀ es : List (List Node3), wtL wItemS es = 3 * lenS es
  | [] => rfl
  | e :: es => by
    simp only [wtL, lenS, wItemS_lenS es, wItemS]
    rw [show wNode = fun _ => 3 from funext fun _ => rfl, wtL_const]
    omega
theorem wIntS_lenS : ∀ es : List (List Int), wtL wIntS es = lenS es
  | [] => rfl
  | e :: es => by
    simp only [wtL, lenS, wIntS_lenS es, wIntS, wtL_w1]
theorem szLrF_in {n : Int} {x : LrT} (h0 : -1 ≤ n) (h1 : n ≤ 1048576) : -1 ≤ szLrF n x ∧ szLrF n x ≤ 1048576 := by
  unfold szLrF
  have := szIsAll_in x.1 h0 h1
  split
  · omega
  · exact szSsAll_in _ this.1 this.2
theorem szLr_wt {n : Int} {x : LrT} (h : 0 ≤ szLrF n x) : (x.1.length : Int) ≤ n ∧ (x.2.length : Int) ≤ n ∧ (wLr x : Int) ≤ 4 * n := by
  unfold szLrF at h
  split at h
  · omega
  · rename_i g
    have g2 : 0 ≤ szIsAll n x.1 := by omega
    have key : szIsAll n x.1 ≤ n := by
      unfold szIsAll at g2 ⊢
      split at g2
      · omega
      · rename_i h1
        rw [if_neg h1]
        have := szIs_le x.1 (n - x.1.length) g2
        omega
    unfold szSsAll at h
    split at h
    · omega
    · have b2 := szSs_wtD x.2 _ h
      unfold szIsAll at g2
      split at g2
      · omega
      · have b1 := szIs_wt x.1 _ g2
        refine ⟨by omega, by omega, ?_⟩
        rw [wLr, wItemS_lenS, wIntS_lenS]
        omega
end Go.Proofs.YtkolhcoeifghpaaGreat.En
end
section
namespace Go.Proofs.YtkolhcoeifghpaaGreat.En
open Go.RowKit
set_option linter.unusedSimpArgs false
set_option linter.unusedVariables false
set_option maxHeartbeats 4000000
theorem implEndsIn (g : GrammarT) (L : LrT) (st : Int) (hx : g.2.2.length < 4611686018427387904) (hs : ∀ e ∈ g.2.2, e.2.length < 4611686018427387904) (hL : L.1.length ≤ 1048576) : Fn Tryz.prog 25 0 [.ag (grammarC g), .ag (lrC L), .v (.int .i64 st)] [] (.tu [.own 0 1 0 (endsV g L st).1.length, .v (.bool (endsV g L st).2)]) 1 [(0, ⟨3, 1, ints (endsV g L st).1⟩)] := by
  have co := ownStatesG g hx hs L
  have hk : askV g L st = (((statesX g).2 && decide ((statesX g).1 = L)) && inR st 0 ((L.1.length : Int) - 1)) := by rw [askV, Bool.and_assoc]
  have hw : wr64 ((L.1.length : Int) - 1) = (L.1.length : Int) - 1 := wr64_id (by omega) (by omega)
  have hask := fun h => ask_ok (g := g) (L := L) (st := st) h
  unfold endsV
  generalize askV g L st = k at hk hask ⊢
  have hVL : ((statesX g).2 && decide ((statesX g).1 = L)) = true → (statesX g).1 = L := fun h => by
    rw [Bool.and_eq_true, decide_eq_true_iff] at h; exact h.2
  generalize hok : ((statesX g).2 && decide ((statesX g).1 = L)) = ok at co hk hVL
  clear hok
  refine Fn.mk (rs := [.tmp 6, .tmp 7]) (nt := 31) Tryz.func25 (by kernel_rfl) rfl rfl rfl (by simp) ?_
  simp only [sl, grammarC, lrC]
  refine wkc (And.intro @grammarC.eq_1 (@lrC.eq_1)) _ ?_
  cases ok with
  | false =>
    rw [Bool.false_and] at hk
    subst hk
    simp only [Bool.false_eq_true, if_false]
    generalize (statesX g).1 = V at co
    refine GS.cc (co) rfl rfl rfl rfl (by simp [go_sem, List.take_of_length_le, grammarC, lrC] <;> with_reducible rfl) rfl (by simp [go_sem, List.take_of_length_le, grammarC, lrC]) ?_
    refine wkc (@lrC.eq_1) _ ?_
    refine OutF.cov (Cov.niw (t := 6) 3 1 rfl) ?_
    refine OutF.mkn (xs := ?_) (nm [3]) ?_ ?_ ?_ ?_ ?_ (by first | exact .inr rfl | exact .inl rfl)
    rotate_left
    · simp [go_sem, List.take_of_length_le, niw, ints] <;> with_reducible rfl
    · simp [go_sem, List.take_of_length_le, ren, ren1, ren2, okr, okr1, okr2, ChkN, BlkN, List.range_succ, nf, niw, ints]
    · simp [go_sem, List.take_of_length_le, ren, ren1, ren2, okr, okr1, okr2, ChkN, BlkN, List.range_succ, nf, niw, ints]
    · simp [go_sem, List.take_of_length_le, ren, ren1, ren2, okr, okr1, okr2, ChkN, BlkN, List.range_succ, nf, niw, ints]
    · rfl
  | true =>
    rw [Bool.true_and] at hk
    rw [hVL rfl] at co
    have ci := implIn st 0 ((L.1.length : Int) - 1)
    rw [← hk] at ci
    clear hk
    refine GS.cc (co) rfl rfl rfl rfl (by simp [go_sem, List.take_of_length_le, grammarC, lrC] <;> with_reducible rfl) rfl (by simp [go_sem, List.take_of_length_le, grammarC, lrC]) ?_
    refine wkc (And.intro @lrC.eq_1 (@hw)) _ ?_
    refine GS.cc (ci) rfl rfl rfl rfl (by simp [go_sem, List.take_of_length_le] <;> with_reducible rfl) rfl (by simp [go_sem, List.take_of_length_le]) ?_
    cases k with
    | false =>
      simp only [Bool.false_eq_true, if_false]
      refine wkc (@lrC.eq_1) _ ?_
      refine OutF.cov (Cov.niw (t := 6) 3 1 rfl) ?_
      refine OutF.mkn (xs := ?_) (nm [3]) ?_ ?_ ?_ ?_ ?_ (by first | exact .inr rfl | exact .inl rfl)
      rotate_left
      · simp [go_sem, List.take_of_length_le, niw, ints] <;> with_reducible rfl
      · simp [go_sem, List.take_of_length_le, ren, ren1, ren2, okr, okr1, okr2, ChkN, BlkN, List.range_succ, nf, niw, ints]
      · simp [go_sem, List.take_of_length_le, ren, ren1, ren2, okr, okr1, okr2, ChkN, BlkN, List.range_succ, nf, niw, ints]
      · simp [go_sem, List.take_of_length_le, ren, ren1, ren2, okr, okr1, okr2, ChkN, BlkN, List.range_succ, nf, niw, ints]
      · rfl
    | true =>
      obtain ⟨hG, hLG, s, rfl, hsl⟩ := hask rfl
      have ce := endsInG g hG L hLG s hsl
      simp only [if_true]
      rw [Int.toNat_natCast]
      refine wkc (And.intro @grammarC.eq_1 (@lrC.eq_1)) _ ?_
      refine GS.fnn [] (ce) rfl rfl rfl rfl (by simp [go_sem, List.take_of_length_le, ren, ren1, ren2, okr, okr1, okr2, ChkN, BlkN, List.range_succ, nf, grammarC, lrC] <;> with_reducible rfl) (by simp [go_sem, List.take_of_length_le, ren, ren1, ren2, okr, okr1, okr2, ChkN, BlkN, List.range_succ, nf, grammarC, lrC]) (by simp [go_sem, List.take_of_length_le, ren, ren1, ren2, okr, okr1, okr2, ChkN, BlkN, List.range_succ, nf, grammarC, lrC]) (by simp [List.range_succ, lb]) (ChkN.toB (by simp [go_sem, List.take_of_length_le, ren, ren1, ren2, okr, okr1, okr2, ChkN, BlkN, List.range_succ, nf, grammarC, lrC])) (by decide) (by simp) rfl (.nfr (by simp) .nil) (by simp [go_sem, List.take_of_length_le, ren, ren1, ren2, okr, okr1, okr2, ChkN, BlkN, List.range_succ, nf, grammarC, lrC] <;> with_reducible rfl) ?_
      refine wkc0 _ ?_
      refine OutF.mkn (xs := ?_) (nm [3]) ?_ ?_ ?_ ?_ ?_ (by first | exact .inr rfl | exact .inl rfl)
      rotate_left
      · simp [go_sem, List.take_of_length_le] <;> with_reducible rfl
      · simp [go_sem, List.take_of_length_le, ren, ren1, ren2, okr, okr1, okr2, ChkN, BlkN, List.range_succ, nf]
      · simp [go_sem, List.take_of_length_le, ren, ren1, ren2, okr, okr1, okr2, ChkN, BlkN, List.range_succ, nf]
      · simp [go_sem, List.take_of_length_le, ren, ren1, ren2, okr, okr1, okr2, ChkN, BlkN, List.range_succ, nf]
      · rfl
end Go.Proofs.YtkolhcoeifghpaaGreat.En
end
section
namespace Go.Proofs.YtkolhcoeifghpaaGreat.En
open Go.RowKit
set_option linter.unusedSimpArgs false
set_option linter.unusedVariables false
set_option maxHeartbeats 8000000
theorem lawEndsIn (g : GrammarT) (s : LrT) (st : Int) (hxg : g.2.2.length < 8796093022208) (hsg : ∀ e ∈ g.2.2, e.2.length < 35184372088832) (hxs : s.1.length < 5864062014806) (hss : ∀ e ∈ s.1, e.length < 5864062014806) (hns : s.2.length < 5864062014806) (hms : ∀ e ∈ s.2, e.length < 35184372088832) : Pure Tryz.prog 5 [.ag (grammarC g), .ag (lrC s), .v (.int .i64 st)] (.v (.bool true)) := by
  refine Pure.mk (rs := [.tmp 6]) (nt := 124) Tryz.func5 (by kernel_rfl) rfl rfl rfl (by simp) ?_
  simp only [sl, grammarC, lrC]
  have hsg' : ∀ e ∈ g.2.2, e.2.length < 4611686018427387904 := fun e he => by have := hsg e he; omega
  have ctg := toGrammar g hxg hsg
  have ceg := eqGrammar g g hxg hsg
  have cog := toGrammarO g hxg hsg
  have cts := toLr s hxs hss hns hms
  have ces := eqLr s s (by omega) (fun e he => by have := hss e he; omega) (by omega) (fun e he => by have := hms e he; omega)
  have cos := toLrO s hxs hss hns hms
  have hig := szGrammarF_in (n := 1048576) (x := g) (by omega)
  have czg := szGrammar g 1048576 (by omega) (by omega) hxg hsg
  have his := szLrF_in (n := szGrammarF 1048576 g) (x := s) (by omega) (by omega)
  have czs := szLr s (szGrammarF 1048576 g) (by omega) (by omega) hxs hss hns hms
  refine wkd0 _ ?_
  first | refine GS.cc (czg) rfl rfl rfl rfl (by simp [go_sem, List.take_of_length_le, grammarC, lrC] <;> with_reducible rfl) rfl (by simp [go_sem, List.take_of_length_le, grammarC, lrC]) ?_ | refine Gd.cc (czg) rfl rfl rfl rfl (by simp [go_sem, List.take_of_length_le, grammarC, lrC] <;> with_reducible rfl) rfl (by simp [go_sem, List.take_of_length_le, grammarC, lrC]) ?_
  refine wkd0 _ ?_
  refine Holds.cond rfl (fun h => ?_) (fun h => ?_)
  · refine wkd0 _ ?_
    refine Out.mk (xs := ?_) ?_ ?_ (by first | exact .inr rfl | exact .inl rfl)
    rotate_left
    · simp [go_sem, List.take_of_length_le] <;> with_reducible rfl
    exact .v _
  have hqg := szGrammar_wt (show 0 ≤ szGrammarF (1048576) g by simp at h; omega)
  refine wkd0 _ ?_
  first | refine GS.cc (czs) rfl rfl rfl rfl (by simp [go_sem, List.take_of_length_le, grammarC, lrC] <;> with_reducible rfl) rfl (by simp [go_sem, List.take_of_length_le, grammarC, lrC]) ?_ | refine Gd.cc (czs) rfl rfl rfl rfl (by simp [go_sem, List.take_of_length_le, grammarC, lrC] <;> with_reducible rfl) rfl (by simp [go_sem, List.take_of_length_le, grammarC, lrC]) ?_
  refine wkd0 _ ?_
  refine Holds.cond rfl (fun h => ?_) (fun h => ?_)
  · refine wkd0 _ ?_
    refine Out.mk (xs := ?_) ?_ ?_ (by first | exact .inr rfl | exact .inl rfl)
    rotate_left
    · simp [go_sem, List.take_of_length_le] <;> with_reducible rfl
    exact .v _
  have hqs := szLr_wt (show 0 ≤ szLrF (szGrammarF (1048576) g) s by simp at h; omega)
  have p1 := specEndsIn g s st (by omega) hsg' (by omega)
  have p2 := implEndsIn g s st (by omega) hsg' (by omega)
  try simp only [decide_true] at ceg ces
  have hv := endsV_len g s st
  generalize endsV g s st = v at p1 p2 hv
  have p3 := p2.pure (r' := .tu [.im 1 (ints v.1), .v (.bool v.2)]) (Fz.tuL (.cons (Fz.all rfl rfl (by simp) rfl (ints_cl _)) (.cons (.v _) .nil)))
  refine wkd (And.intro @grammarC.eq_1 (@lrC.eq_1)) _ ?_
  first | refine GS.cc (ctg) rfl rfl rfl rfl (by simp [go_sem, List.take_of_length_le, grammarC, lrC] <;> with_reducible rfl) rfl (by simp [go_sem, List.take_of_length_le, grammarC, lrC]) ?_ | refine Gd.cc (ctg) rfl rfl rfl rfl (by simp [go_sem, List.take_of_length_le, grammarC, lrC] <;> with_reducible rfl) rfl (by simp [go_sem, List.take_of_length_le, grammarC, lrC]) ?_
  refine wkd (And.intro @grammarC.eq_1 (@lrC.eq_1)) _ ?_
  first | refine GS.cc (cts) rfl rfl rfl rfl (by simp [go_sem, List.take_of_length_le, grammarC, lrC] <;> with_reducible rfl) rfl (by simp [go_sem, List.take_of_length_le, grammarC, lrC]) ?_ | refine Gd.cc (cts) rfl rfl rfl rfl (by simp [go_sem, List.take_of_length_le, grammarC, lrC] <;> with_reducible rfl) rfl (by simp [go_sem, List.take_of_length_le, grammarC, lrC]) ?_
  refine wkd (And.intro @grammarC.eq_1 (@lrC.eq_1)) _ ?_
  first | refine GS.cc (p1) rfl rfl rfl rfl (by simp [go_sem, List.take_of_length_le, grammarC, lrC] <;> with_reducible rfl) rfl (by simp [go_sem, List.take_of_length_le, grammarC, lrC]) ?_ | refine Gd.cc (p1) rfl rfl rfl rfl (by simp [go_sem, List.take_of_length_le, grammarC, lrC] <;> with_reducible rfl) rfl (by simp [go_sem, List.take_of_length_le, grammarC, lrC]) ?_
  refine wkd (And.intro @grammarC.eq_1 (@lrC.eq_1)) _ ?_
  refine GS.fnn [] (cog) rfl rfl rfl rfl (by simp [go_sem, List.take_of_length_le, ren, ren1, ren2, okr, okr1, okr2, ChkN, BlkN, List.range_succ, nf, grammarC, lrC] <;> with_reducible rfl) (by simp [go_sem, List.take_of_length_le, ren, ren1, ren2, okr, okr1, okr2, ChkN, BlkN, List.range_succ, nf, grammarC, lrC]) (by simp [go_sem, List.take_of_length_le, ren, ren1, ren2, okr, okr1, okr2, ChkN, BlkN, List.range_succ, nf, grammarC, lrC]) (by simp [List.range_succ, lb]) (ChkN.toB (by simp [go_sem, List.take_of_length_le, ren, ren1, ren2, okr, okr1, okr2, ChkN, BlkN, List.range_succ, nf, grammarC, lrC])) (by decide) (by simp) rfl (.nfr (by simp) .nil) (by simp [go_sem, List.take_of_length_le, ren, ren1, ren2, okr, okr1, okr2, ChkN, BlkN, List.range_succ, nf, grammarC, lrC] <;> with_reducible rfl) ?_
  refine wkd (And.intro @grammarC.eq_1 (@lrC.eq_1)) _ ?_
  refine GS.fnn [] (cos) rfl rfl rfl rfl (by simp [go_sem, List.take_of_length_le, ren, ren1, ren2, okr, okr1, okr2, ChkN, BlkN, List.range_succ, nf, grammarC, lrC] <;> with_reducible rfl) (by simp [go_sem, List.take_of_length_le, ren, ren1, ren2, okr, okr1, okr2, ChkN, BlkN, List.range_succ, nf, grammarC, lrC]) (by simp [go_sem, List.take_of_length_le, ren, ren1, ren2, okr, okr1, okr2, ChkN, BlkN, List.range_succ, nf, grammarC, lrC]) (by simp [List.range_succ, lb]) (ChkN.toB (by simp [go_sem, List.take_of_length_le, ren, ren1, ren2, okr, okr1, okr2, ChkN, BlkN, List.range_succ, nf, grammarC, lrC])) (by decide) (by simp) rfl (.nfr (by simp) (.nfr (by simp) .nil)) (by simp [go_sem, List.take_of_length_le, ren, ren1, ren2, okr, okr1, okr2, ChkN, BlkN, List.range_succ, nf, grammarC, lrC] <;> with_reducible rfl) ?_
  refine wkd (And.intro @grammarC.eq_1 (@lrC.eq_1)) _ ?_
  refine GS.fnnd (p2) rfl rfl rfl rfl (by simp [go_sem, List.take_of_length_le, ren, ren1, ren2, okr, okr1, okr2, List.range_succ, nf, grammarC, lrC] <;> with_reducible rfl) (by exact (.cons (Fz.agL (.cons (.v _) (.cons (.v _) (.cons (fz_rulesO _ rfl rfl) .nil)))) (.cons (Fz.agL (.cons (fz_itemssD _ rfl rfl) (.cons (fz_intssO _ rfl rfl) .nil))) (.cons (.v _) .nil)))) (by simp) (by simp [go_sem, List.take_of_length_le, ren, ren1, ren2, okr, okr1, okr2, List.range_succ, nf, grammarC, lrC]) (by simp [go_sem, List.take_of_length_le, ren, ren1, ren2, okr, okr1, okr2, List.range_succ, nf, grammarC, lrC]) rfl (.nfr (by simp) (.nil)) (by simp [go_sem, List.take_of_length_le, ren, ren1, ren2, okr, okr1, okr2, List.range_succ, nf, grammarC, lrC] <;> with_reducible rfl) ?_
  have ceq := eqIntS v.1 v.1 (by omega)
  try simp only [decide_true] at ceq
  refine wkd0 _ ?_
  first | refine GS.cd (ceq) rfl rfl rfl rfl (by simp [go_sem, List.take_of_length_le] <;> with_reducible rfl) rfl (by exact (.cons (Fz.all rfl rfl (by simp) rfl (ints_cl _)) (.cons (.im _ _) .nil))) rfl ?_ | refine Gd.cd (ceq) rfl rfl rfl rfl (by simp [go_sem, List.take_of_length_le] <;> with_reducible rfl) rfl (by exact (.cons (Fz.all rfl rfl (by simp) rfl (ints_cl _)) (.cons (.im _ _) .nil))) rfl ?_
  clear ceq
  refine wkd0 _ ?_
  refine Holds.cond rfl (fun h => ?_) (fun h => ?_)
  · cases h
  refine wkd0 _ ?_
  first | refine GS.cc (ctg) rfl rfl rfl rfl (by simp [go_sem, List.take_of_length_le, grammarC, lrC] <;> with_reducible rfl) rfl (by simp [go_sem, List.take_of_length_le, grammarC, lrC]) ?_ | refine Gd.cc (ctg) rfl rfl rfl rfl (by simp [go_sem, List.take_of_length_le, grammarC, lrC] <;> with_reducible rfl) rfl (by simp [go_sem, List.take_of_length_le, grammarC, lrC]) ?_
  refine wkd (And.intro @grammarC.eq_1 (@lrC.eq_1)) _ ?_
  first | refine GS.cd (ceg) rfl rfl rfl rfl (by simp [go_sem, List.take_of_length_le, grammarC, lrC] <;> with_reducible rfl) rfl (by exact (.cons (Fz.agL (.cons (.v _) (.cons (.v _) (.cons (fz_rulesO _ rfl rfl) .nil)))) (.cons (Fz.cl rfl) .nil))) rfl ?_ | refine Gd.cd (ceg) rfl rfl rfl rfl (by simp [go_sem, List.take_of_length_le, grammarC, lrC] <;> with_reducible rfl) rfl (by exact (.cons (Fz.agL (.cons (.v _) (.cons (.v _) (.cons (fz_rulesO _ rfl rfl) .nil)))) (.cons (Fz.cl rfl) .nil))) rfl ?_
  refine wkd0 _ ?_
  refine Holds.cond rfl (fun h => ?_) (fun h => ?_)
  · cases h
  refine wkd0 _ ?_
  first | refine GS.cc (cts) rfl rfl rfl rfl (by simp [go_sem, List.take_of_length_le, grammarC, lrC] <;> with_reducible rfl) rfl (by simp [go_sem, List.take_of_length_le, grammarC, lrC]) ?_ | refine Gd.cc (cts) rfl rfl rfl rfl (by simp [go_sem, List.take_of_length_le, grammarC, lrC] <;> with_reducible rfl) rfl (by simp [go_sem, List.take_of_length_le, grammarC, lrC]) ?_
  refine wkd (And.intro @grammarC.eq_1 (@lrC.eq_1)) _ ?_
  first | refine GS.cd (ces) rfl rfl rfl rfl (by simp [go_sem, List.take_of_length_le, grammarC, lrC] <;> with_reducible rfl) rfl (by exact (.cons (Fz.agL (.cons (fz_itemssD _ rfl rfl) (.cons (fz_intssO _ rfl rfl) .nil))) (.cons (Fz.cl rfl) .nil))) rfl ?_ | refine Gd.cd (ces) rfl rfl rfl rfl (by simp [go_sem, List.take_of_length_le, grammarC, lrC] <;> with_reducible rfl) rfl (by exact (.cons (Fz.agL (.cons (fz_itemssD _ rfl rfl) (.cons (fz_intssO _ rfl rfl) .nil))) (.cons (Fz.cl rfl) .nil))) rfl ?_
  refine wkd0 _ ?_
  refine Holds.cond rfl (fun h => ?_) (fun h => ?_)
  · cases h
  have cmg := markGrammar g ((1 : Int)) (by omega) (by omega) (by omega)
  refine wkd0 _ ?_
  refine GS.fnn [2] (cmg) rfl rfl rfl rfl (by simp [go_sem, List.take_of_length_le, ren, ren1, ren2, okr, okr1, okr2, ChkN, BlkN, List.range_succ, nf] <;> with_reducible rfl) (by simp [go_sem, List.take_of_length_le, ren, ren1, ren2, okr, okr1, okr2, ChkN, BlkN, List.range_succ, nf]) (by simp [go_sem, List.take_of_length_le, ren, ren1, ren2, okr, okr1, okr2, ChkN, BlkN, List.range_succ, nf]) (by simp [List.range_succ, lb]) (ChkN.toB (by simp [go_sem, List.take_of_length_le, ren, ren1, ren2, okr, okr1, okr2, ChkN, BlkN, List.range_succ, nf])) (by decide) (by simp) rfl (.nfr (by simp) (.nil)) (by simp [go_sem, List.take_of_length_le, ren, ren1, ren2, okr, okr1, okr2, ChkN, BlkN, List.range_succ, nf] <;> with_reducible rfl) ?_
  have cms := markLr s ((1 : Int) + (wGrammar g : Nat)) (by omega) (by omega) (by omega) (fun e he => by have := hss e he; omega) (by omega)
  refine wkd0 _ ?_
  refine GS.fnn [4, 5] (cms) rfl rfl rfl rfl (by simp [go_sem, List.take_of_length_le, ren, ren1, ren2, okr, okr1, okr2, ChkN, BlkN, List.range_succ, nf] <;> with_reducible rfl) (by simp [go_sem, List.take_of_length_le, ren, ren1, ren2, okr, okr1, okr2, ChkN, BlkN, List.range_succ, nf]) (by simp [go_sem, List.take_of_length_le, ren, ren1, ren2, okr, okr1, okr2, ChkN, BlkN, List.range_succ, nf]) (by simp [List.range_succ, lb]) (ChkN.toB (by simp [go_sem, List.take_of_length_le, ren, ren1, ren2, okr, okr1, okr2, ChkN, BlkN, List.range_succ, nf])) (by decide) (by simp) rfl (.nfr (by simp) (.nfr (by simp) (.nil))) (by simp [go_sem, List.take_of_length_le, ren, ren1, ren2, okr, okr1, okr2, ChkN, BlkN, List.range_succ, nf] <;> with_reducible rfl) ?_
  have hk0 : ¬ ((1 : Int) + (wGrammar g : Nat) + (wLr s : Nat) < 0) := by omega
  have ceq := eqIntS v.1 v.1 (by omega)
  try simp only [decide_true] at ceq
  refine wkd (@hk0) _ ?_
  first | refine GS.cd (ceq) rfl rfl rfl rfl (by simp [go_sem, List.take_of_length_le, hk0] <;> with_reducible rfl) rfl (by exact (.cons (Fz.all rfl rfl (by simp) rfl (ints_cl _)) (.cons (.im _ _) .nil))) rfl ?_ | refine Gd.cd (ceq) rfl rfl rfl rfl (by simp [go_sem, List.take_of_length_le, hk0] <;> with_reducible rfl) rfl (by exact (.cons (Fz.all rfl rfl (by simp) rfl (ints_cl _)) (.cons (.im _ _) .nil))) rfl ?_
  clear ceq
  refine wkd (@hk0) _ ?_
  refine Holds.cond rfl (fun h => ?_) (fun h => ?_)
  · cases h
  have cm := markIntS v.1 ((1 : Int)) (by omega) (by simp; omega)
  have ch7 := heldIntS v.1 ((1 : Int)) (by omega) (by simp; omega)
  try simp only [wtL_w1] at cm ch7
  refine wkd0 _ ?_
  refine GS.fnn [7] (cm) rfl rfl rfl rfl (by simp [go_sem, List.take_of_length_le, ren, ren1, ren2, okr, okr1, okr2, ChkN, BlkN, List.range_succ, nf] <;> with_reducible rfl) (by simp [go_sem, List.take_of_length_le, ren, ren1, ren2, okr, okr1, okr2, ChkN, BlkN, List.range_succ, nf]) (by simp [go_sem, List.take_of_length_le, ren, ren1, ren2, okr, okr1, okr2, ChkN, BlkN, List.range_succ, nf]) (by simp [List.range_succ, lb]) (ChkN.toB (by simp [go_sem, List.take_of_length_le, ren, ren1, ren2, okr, okr1, okr2, ChkN, BlkN, List.range_succ, nf])) (by decide) (by simp) rfl (.nfr (by simp) .nil) (by simp [go_sem, List.take_of_length_le, ren, ren1, ren2, okr, okr1, okr2, ChkN, BlkN, List.range_succ, nf] <;> with_reducible rfl) ?_
  clear cm
  refine wkd0 _ ?_
  first | refine GS.cd (ch7) rfl rfl rfl rfl (by simp [go_sem, List.take_of_length_le] <;> with_reducible rfl) rfl (by exact (.cons (Fz.all rfl rfl (by simp) rfl (ints_cl _)) (.cons (.v _) .nil))) rfl ?_ | refine Gd.cd (ch7) rfl rfl rfl rfl (by simp [go_sem, List.take_of_length_le] <;> with_reducible rfl) rfl (by exact (.cons (Fz.all rfl rfl (by simp) rfl (ints_cl _)) (.cons (.v _) .nil))) rfl ?_
  have hk7 : ¬ ((1 : Int) + (v.1.length : Nat) < 0) := by omega
  refine wkd (@hk7) _ ?_
  refine Holds.cond rfl (fun h => ?_) (fun h => ?_)
  · cases h
  refine wkd0 _ ?_
  refine Holds.cond rfl (fun h => ?_) (fun h => ?_)
  · cases h
  refine wkd (And.intro @grammarC.eq_1 (@lrC.eq_1)) _ ?_
  first | refine GS.cc (ctg) rfl rfl rfl rfl (by simp [go_sem, List.take_of_length_le, grammarC, lrC] <;> with_reducible rfl) rfl (by simp [go_sem, List.take_of_length_le, grammarC, lrC]) ?_ | refine Gd.cc (ctg) rfl rfl rfl rfl (by simp [go_sem, List.take_of_length_le, grammarC, lrC] <;> with_reducible rfl) rfl (by simp [go_sem, List.take_of_length_le, grammarC, lrC]) ?_
  refine wkd (And.intro @grammarC.eq_1 (@lrC.eq_1)) _ ?_
  first | refine GS.cc (cts) rfl rfl rfl rfl (by simp [go_sem, List.take_of_length_le, grammarC, lrC] <;> with_reducible rfl) rfl (by simp [go_sem, List.take_of_length_le, grammarC, lrC]) ?_ | refine Gd.cc (cts) rfl rfl rfl rfl (by simp [go_sem, List.take_of_length_le, grammarC, lrC] <;> with_reducible rfl) rfl (by simp [go_sem, List.take_of_length_le, grammarC, lrC]) ?_
  refine wkd (And.intro @grammarC.eq_1 (@lrC.eq_1)) _ ?_
  first | refine GS.cc (p3) rfl rfl rfl rfl (by simp [go_sem, List.take_of_length_le, grammarC, lrC] <;> with_reducible rfl) rfl (by simp [go_sem, List.take_of_length_le, grammarC, lrC]) ?_ | refine Gd.cc (p3) rfl rfl rfl rfl (by simp [go_sem, List.take_of_length_le, grammarC, lrC] <;> with_reducible rfl) rfl (by simp [go_sem, List.take_of_length_le, grammarC, lrC]) ?_
  have ceq := eqIntS v.1 v.1 (by omega)
  try simp only [decide_true] at ceq
  refine wkd0 _ ?_
  first | refine GS.cc (ceq) rfl rfl rfl rfl (by simp [go_sem, List.take_of_length_le] <;> with_reducible rfl) rfl (by simp [go_sem, List.take_of_length_le]) ?_ | refine Gd.cc (ceq) rfl rfl rfl rfl (by simp [go_sem, List.take_of_length_le] <;> with_reducible rfl) rfl (by simp [go_sem, List.take_of_length_le]) ?_
  clear ceq
  refine wkd0 _ ?_
  refine Holds.cond rfl (fun h => ?_) (fun h => ?_)
  · cases h
  refine wkd0 _ ?_
  first | refine GS.cd (ch7) rfl rfl rfl rfl (by simp [go_sem, List.take_of_length_le] <;> with_reducible rfl) rfl (by exact (.cons (Fz.all rfl rfl (by simp) rfl (ints_cl _)) (.cons (.v _) .nil))) rfl ?_ | refine Gd.cd (ch7) rfl rfl rfl rfl (by simp [go_sem, List.take_of_length_le] <;> with_reducible rfl) rfl (by exact (.cons (Fz.all rfl rfl (by simp) rfl (ints_cl _)) (.cons (.v _) .nil))) rfl ?_
  have hk7 : ¬ ((1 : Int) + (v.1.length : Nat) < 0) := by omega
  refine wkd (@hk7) _ ?_
  refine Holds.cond rfl (fun h => ?_) (fun h => ?_)
  · cases h
  refine wkd0 _ ?_
  refine Holds.cond rfl (fun h => ?_) (fun h => ?_)
  · cases h
  refine wkd0 _ ?_
  refine Out.mk (xs := ?_) ?_ ?_ (by first | exact .inr rfl | exact .inl rfl)
  rotate_left
  · simp [go_sem, List.take_of_length_le] <;> with_reducible rfl
  exact .v _
end Go.Proofs.YtkolhcoeifghpaaGreat.En
end
