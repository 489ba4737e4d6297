/- Own words and walks of this claim, part 5: what the program's functions compute, for all the arguments that are named; no further conditions. -/
import Derived.Test.YtiabaknmgbpmoaaM4
import Derived.Test.YtiabaknmgbpmoaaM3
section
namespace Go.Proofs.Ytiabaknmgbpmoaa.En
open Go.RowKit
set_option linter.unusedSimpArgs false
set_option linter.unusedVariables false
set_option maxHeartbeats 8000000
def edgeIdx (f : ForestT) (node : Int) : List Int := idxs (fun e : Edge3 => e.1 == node) 0 f.2
def edgesV (f : ForestT) (node : Int) : List Int × Bool := if decide (f.1.length ≤ 600) && decide (f.2.length ≤ 600) && inR node 0 ((f.1.length : Int) - 1) then (edgeIdx f node, true) else ([], false)
theorem edgesV_len (f : ForestT) (node : Int) : (edgesV f node).1.length ≤ 600 := by
  unfold edgesV
  split
  · rename_i h
    simp only [Bool.and_eq_true, decide_eq_true_eq] at h
    have := idxs_len (fun e : Edge3 => e.1 == node) f.2 0
    simp only [edgeIdx]; omega
  · simp
theorem l9Sized (f : ForestT) : Pure Try.prog 54 [.ag (forestC f)] (.v (.bool (decide (f.1.length ≤ 600) && decide (f.2.length ≤ 600)))) := by
  refine Pure.mk (rs := [.tmp 2]) (nt := 13) Try.func54 (by kernel_rfl) rfl rfl rfl (by simp) ?_
  simp only [sl, forestC]
  by_cases h1 : f.1.length ≤ 600
  · have h1' : (f.1.length : Int) ≤ 600 := by omega
    by_cases h2 : f.2.length ≤ 600
    · have h2' : (f.2.length : Int) ≤ 600 := by omega
      simp only [h1, h2, decide_true, Bool.and_self]
      repeat' first
        | (refine Holds.condT ?_ ?_; (· (simp [go_sem, List.take_of_length_le, h1, h1', h2, h2'] <;> with_reducible rfl)))
        | (refine Holds.condF ?_ ?_; (· (simp [go_sem, List.take_of_length_le, h1, h1', h2, h2'] <;> with_reducible rfl)))
        | refine Holds.seq ?_
        | refine Holds.skip ?_
        | refine Holds.exit ?_
        | refine Holds.ret ?_
        | refine thenA_normal ?_
        | refine thenA_exit ?_
        | refine thenA_ret ?_
        | refine inB_normal ?_
        | refine inB_ret ?_
        | refine inB_here ?_
        | (refine inB_past ?_ ?_; (· exact rfl))
        | refine Holds.reg ?_
        | refine Holds.block ?_
        | refine GS.nil ?_
        | (refine GS.step (s' := ?_) ?_ ?_ ?_; rotate_left; (· exact rfl); (· (simp [go_sem, List.take_of_length_le, h1, h1', h2, h2'] <;> with_reducible rfl)))
        | (refine GS.skip ?_ ?_ ?_; (· exact rfl); (· exact rfl))
        | fail
      refine Out.mk (xs := ?_) ?_ ?_ (by first | exact .inr rfl | exact .inl rfl)
      rotate_left
      · simp [go_sem, List.take_of_length_le] <;> with_reducible rfl
      exact .v _
    · have h2' : ¬ (f.2.length : Int) ≤ 600 := by omega
      simp only [h1, h2, decide_true, decide_false, Bool.and_false]
      repeat' first
        | (refine Holds.condT ?_ ?_; (· (simp [go_sem, List.take_of_length_le, h1, h1', h2, h2'] <;> with_reducible rfl)))
        | (refine Holds.condF ?_ ?_; (· (simp [go_sem, List.take_of_length_le, h1, h1', h2, h2'] <;> with_reducible rfl)))
        | refine Holds.seq ?_
        | refine Holds.skip ?_
        | refine Holds.exit ?_
        | refine Holds.ret ?_
        | refine thenA_normal ?_
        | refine thenA_exit ?_
        | refine thenA_ret ?_
        | refine inB_normal ?_
        | refine inB_ret ?_
        | refine inB_here ?_
        | (refine inB_past ?_ ?_; (· exact rfl))
        | refine Holds.reg ?_
        | refine Holds.block ?_
        | refine GS.nil ?_
        | (refine GS.step (s' := ?_) ?_ ?_ ?_; rotate_left; (· exact rfl); (· (simp [go_sem, List.take_of_length_le, h1, h1', h2, h2'] <;> with_reducible rfl)))
        | (refine GS.skip ?_ ?_ ?_; (· exact rfl); (· exact rfl))
        | fail
      refine Out.mk (xs := ?_) ?_ ?_ (by first | exact .inr rfl | exact .inl rfl)
      rotate_left
      · simp [go_sem, List.take_of_length_le] <;> with_reducible rfl
      exact .v _
  · have h1' : ¬ (f.1.length : Int) ≤ 600 := by omega
    simp only [h1, decide_false, Bool.false_and]
    repeat' first
      | (refine Holds.condT ?_ ?_; (· (simp [go_sem, List.take_of_length_le, h1, h1'] <;> with_reducible rfl)))
      | (refine Holds.condF ?_ ?_; (· (simp [go_sem, List.take_of_length_le, h1, h1'] <;> with_reducible rfl)))
      | refine Holds.seq ?_
      | refine Holds.skip ?_
      | refine Holds.exit ?_
      | refine Holds.ret ?_
      | refine thenA_normal ?_
      | refine thenA_exit ?_
      | refine thenA_ret ?_
      | refine inB_normal ?_
      | refine inB_ret ?_
      | refine inB_here ?_
      | (refine inB_past ?_ ?_; (· exact rfl))
      | refine Holds.reg ?_
      | refine Holds.block ?_
      | refine GS.nil ?_
      | (refine GS.step (s' := ?_) ?_ ?_ ?_; rotate_left; (· exact rfl); (· (simp [go_sem, List.take_of_length_le, h1, h1'] <;> with_reducible rfl)))
      | (refine GS.skip ?_ ?_ ?_; (· exact rfl); (· exact rfl))
      | fail
    refine Out.mk (xs := ?_) ?_ ?_ (by first | exact .inr rfl | exact .inl rfl)
    rotate_left
    · simp [go_sem, List.take_of_length_le] <;> with_reducible rfl
    exact .v _
theorem edge_snoc (f : ForestT) (node : Int) {k : Nat} {e : Edge3} (he : f.2[k]? = some e) : idxs (fun e : Edge3 => e.1 == node) 0 (f.2.take (k + 1)) = idxs (fun e : Edge3 => e.1 == node) 0 (f.2.take k) ++ if e.1 == node then [(k : Int)] else [] := idxs_next _ he
theorem l9Edges (f : ForestT) (node : Int) (hf : f.2.length ≤ 600) : Pure Try.prog 100 [.ag (forestC f), .v (.int .i64 node)] (.im 1 (ints (edgeIdx f node))) := by
  refine Pure.mk (rs := [.tmp 4]) (nt := 26) Try.func100 (by kernel_rfl) rfl rfl rfl (by simp) ?_
  simp only [sl, forestC]
  repeat' first
    | (refine Holds.condT ?_ ?_; (· (simp [go_sem, List.take_of_length_le] <;> with_reducible rfl)))
    | (refine Holds.condF ?_ ?_; (· (simp [go_sem, List.take_of_length_le] <;> with_reducible rfl)))
    | refine Holds.seq ?_
    | refine Holds.skip ?_
    | refine Holds.exit ?_
    | refine Holds.ret ?_
    | refine thenA_normal ?_
    | refine thenA_exit ?_
    | refine thenA_ret ?_
    | refine inB_normal ?_
    | refine inB_ret ?_
    | refine inB_here ?_
    | (refine inB_past ?_ ?_; (· exact rfl))
    | refine Holds.reg ?_
    | refine Holds.block ?_
    | refine GS.nil ?_
    | (refine GS.step (s' := ?_) ?_ ?_ ?_; rotate_left; (· exact rfl); (· (simp [go_sem, List.take_of_length_le] <;> with_reducible rfl)))
    | (refine GS.skip ?_ ?_ ?_; (· exact rfl); (· exact rfl))
    | fail
  refine Holds.niw 5 3 1 rfl ?_
  refine Holds.loop (ι := Nat) (fun k => ⟨[(1, .v (.int .i64 node)), (2, .pb 0 2 0 0), (5, .own 1 1 0 (idxs (fun e : Edge3 => e.1 == node) 0 (f.2.take k)).length), (9, .im 3 (edges f.2)), (10, .v (.int .i64 f.2.length)), (11, .v (.int .i64 k))],
    [(1, ⟨3, 1, ints (idxs (fun e : Edge3 => e.1 == node) 0 (f.2.take k))⟩), (0, ⟨51, 2, [forestC f]⟩)], 2⟩) (fun k => k ≤ f.2.length) (fun k => f.2.length - k) 0 (Nat.zero_le _) ?_ ?_
  · exact Cov.ofn (id) rfl (by simp [go_sem, List.take_of_length_le, ren, ren1, ren2, okr, okr1, okr2, ChkT, ChkN, BlkN, nf, niw, forestC, idxs]) (by simp [go_sem, List.take_of_length_le, ren, ren1, ren2, okr, okr1, okr2, ChkT, ChkN, BlkN, nf, niw, forestC, idxs])
  intro k hk
  have stepk : wr64 ((k : Int) + 1) = ((k + 1 : Nat) : Int) := wr64_id (by omega) (by omega)
  repeat' first
    | (refine Holds.condT ?_ ?_; (· (simp [go_sem, List.take_of_length_le] <;> with_reducible rfl)))
    | (refine Holds.condF ?_ ?_; (· (simp [go_sem, List.take_of_length_le] <;> with_reducible rfl)))
    | refine Holds.seq ?_
    | refine Holds.skip ?_
    | refine Holds.exit ?_
    | refine Holds.ret ?_
    | refine thenA_normal ?_
    | refine thenA_exit ?_
    | refine thenA_ret ?_
    | refine inB_normal ?_
    | refine inB_ret ?_
    | refine inB_here ?_
    | (refine inB_past ?_ ?_; (· exact rfl))
    | refine Holds.reg ?_
    | refine Holds.block ?_
    | refine GS.nil ?_
    | (refine GS.step (s' := ?_) ?_ ?_ ?_; rotate_left; (· exact rfl); (· (simp [go_sem, List.take_of_length_le] <;> with_reducible rfl)))
    | (refine GS.skip ?_ ?_ ?_; (· exact rfl); (· exact rfl))
    | fail
  refine Holds.cond rfl (fun h => ?_) (fun h => ?_)
  · have hlt : k < f.2.length := by simp at h; omega
    have hxi : f.2[k]? = some f.2[k] := List.getElem?_eq_getElem hlt
    have hsn := edge_snoc f node hxi
    generalize f.2[k] = e at hxi hsn
    have hll := idxs_len (fun e : Edge3 => e.1 == node) (f.2.take k) 0
    rw [List.length_take] at hll
    have hr8 : ((idxs (fun e : Edge3 => e.1 == node) 0 (f.2.take k)).length + 1) * 8 ≤ 140737488355328 := by omega
    by_cases hn : e.1 = node
    · rw [if_pos (by simpa using hn)] at hsn
      have hn' : (e.1 == node) = true := by simpa using hn
      repeat' first
        | (refine Holds.condT ?_ ?_; (· (simp [go_sem, List.take_of_length_le, hxi, edgeC, hn, hn', hr8] <;> with_reducible rfl)))
        | (refine Holds.condF ?_ ?_; (· (simp [go_sem, List.take_of_length_le, hxi, edgeC, hn, hn', hr8] <;> with_reducible rfl)))
        | refine Holds.seq ?_
        | refine Holds.skip ?_
        | refine Holds.exit ?_
        | refine Holds.ret ?_
        | refine thenA_normal ?_
        | refine thenA_exit ?_
        | refine thenA_ret ?_
        | refine inB_normal ?_
        | refine inB_ret ?_
        | refine inB_here ?_
        | (refine inB_past ?_ ?_; (· exact rfl))
        | refine Holds.reg ?_
        | refine Holds.block ?_
        | refine GS.nil ?_
        | (refine GS.step (s' := ?_) ?_ ?_ ?_; rotate_left; (· exact rfl); (· (simp [go_sem, List.take_of_length_le, hxi, edgeC, hn, hn', hr8] <;> with_reducible rfl)))
        | (refine GS.skip ?_ ?_ ?_; (· exact rfl); (· exact rfl))
        | fail
      refine ⟨k + 1, by omega, by omega, ?_⟩
      rw [stepk, hsn]
      exact Cov.ofn (nm [0, 5]) rfl (by simp [go_sem, List.take_of_length_le, ren, ren1, ren2, okr, okr1, okr2, ChkT, ChkN, BlkN, nf, forestC, ints_snoc]) (by simp [go_sem, List.take_of_length_le, ren, ren1, ren2, okr, okr1, okr2, ChkT, ChkN, BlkN, nf, forestC, ints_snoc])
    · have hn' : (e.1 == node) = false := by simpa using hn
      rw [if_neg (by simpa using hn), List.append_nil] at hsn
      repeat' first
        | (refine Holds.condT ?_ ?_; (· (simp [go_sem, List.take_of_length_le, hxi, edgeC, hn', hn, hr8] <;> with_reducible rfl)))
        | (refine Holds.condF ?_ ?_; (· (simp [go_sem, List.take_of_length_le, hxi, edgeC, hn', hn, hr8] <;> with_reducible rfl)))
        | refine Holds.seq ?_
        | refine Holds.skip ?_
        | refine Holds.exit ?_
        | refine Holds.ret ?_
        | refine thenA_normal ?_
        | refine thenA_exit ?_
        | refine thenA_ret ?_
        | refine inB_normal ?_
        | refine inB_ret ?_
        | refine inB_here ?_
        | (refine inB_past ?_ ?_; (· exact rfl))
        | refine Holds.reg ?_
        | refine Holds.block ?_
        | refine GS.nil ?_
        | (refine GS.step (s' := ?_) ?_ ?_ ?_; rotate_left; (· exact rfl); (· (simp [go_sem, List.take_of_length_le, hxi, edgeC, hn', hn, hr8] <;> with_reducible rfl)))
        | (refine GS.skip ?_ ?_ ?_; (· exact rfl); (· exact rfl))
        | fail
      refine ⟨k + 1, by omega, by omega, ?_⟩
      rw [stepk, hsn]
      exact Cov.ofn (id) rfl (by simp [go_sem, List.take_of_length_le, ren, ren1, ren2, okr, okr1, okr2, ChkT, ChkN, BlkN, nf, forestC]) (by simp [go_sem, List.take_of_length_le, ren, ren1, ren2, okr, okr1, okr2, ChkT, ChkN, BlkN, nf, forestC])
  · have hlt : k = f.2.length := by simp at h; omega
    subst hlt
    rw [List.take_length]
    repeat' first
      | (refine Holds.condT ?_ ?_; (· (simp [go_sem, List.take_of_length_le] <;> with_reducible rfl)))
      | (refine Holds.condF ?_ ?_; (· (simp [go_sem, List.take_of_length_le] <;> with_reducible rfl)))
      | refine Holds.seq ?_
      | refine Holds.skip ?_
      | refine Holds.exit ?_
      | refine Holds.ret ?_
      | refine thenA_normal ?_
      | refine thenA_exit ?_
      | refine thenA_ret ?_
      | refine inB_normal ?_
      | refine inB_ret ?_
      | refine inB_here ?_
      | (refine inB_past ?_ ?_; (· exact rfl))
      | refine Holds.reg ?_
      | refine Holds.block ?_
      | refine GS.nil ?_
      | (refine GS.step (s' := ?_) ?_ ?_ ?_; rotate_left; (· exact rfl); (· (simp [go_sem, List.take_of_length_le] <;> with_reducible rfl)))
      | (refine GS.skip ?_ ?_ ?_; (· exact rfl); (· exact rfl))
      | fail
    refine Out.mk (xs := ?_) ?_ ?_ (by first | exact .inr rfl | exact .inl rfl)
    rotate_left
    · simp [go_sem, List.take_of_length_le] <;> with_reducible rfl
    exact Fz.all rfl rfl (by simp) rfl (ints_cl _)
end Go.Proofs.Ytiabaknmgbpmoaa.En
end
section
namespace Go.Proofs.Ytiabaknmgbpmoaa.En
open Go.RowKit
set_option linter.unusedSimpArgs false
set_option linter.unusedVariables false
set_option maxHeartbeats 4000000
theorem fstX_lt {α : Type} [DecidableEq α] (n : α) : ∀ (xs : List α) (k : Nat), fstX xs n k ≤ ((k + xs.length : Nat) : Int) - 1
  | [], k => by simp [fstX]; omega
  | x :: xs, k => by
    unfold fstX
    have := fstX_lt n xs (k + 1)
    split <;> simp only [List.length_cons] <;> omega
theorem findK_rg (ns : List Node3) : ∀ (ks : List Node3) (acc l : List Int), findK ns ks acc = some l → (∀ y ∈ acc, 0 ≤ y ∧ y < ns.length) → ∀ y ∈ l, 0 ≤ y ∧ y < ns.length
  | [], acc, l, h, ha => by cases h; exact ha
  | x :: xs, acc, l, h, ha => by
    unfold findK at h
    split at h
    · cases h
    · rename_i hn
      refine findK_rg ns xs _ l h fun y hy => ?_
      rcases List.mem_append.1 hy with e | e
      · exact ha y e
      · rw [List.mem_singleton] at e
        have := fstX_lt x ns 0
        omega
theorem kidsE_rg {g : GrammarT} {f : ForestT} {e : Edge3} : ∀ y ∈ (kidsE g f e).1, 0 ≤ y ∧ y < f.1.length := by
  unfold kidsE
  split
  · split
    · rename_i l hl
      exact findK_rg f.1 _ [] l hl (fun y hy => by cases hy)
    · intro y hy; cases hy
  · intro y hy; cases hy
def okE (g : GrammarT) (f : ForestT) (e : Edge3) : Bool := (kidsE g f e).2 && inR e.1 0 ((f.1.length : Int) - 1)
def addG (G : List (List Int)) (k : Nat) (l : List Int) : List (List Int) := G.set k (G.getD k [] ++ l)
theorem unG_all (G : List (List Int)) : unG G [] = G.flatten := by
  have h1 : (List.range G.length).filter (fun u => decide (u ∉ ([] : List Nat))) = List.range G.length := by simp
  have h2 : (List.range G.length).map (fun u => G.getD u []) = G := by
    refine List.ext_getElem? fun i => ?_
    by_cases hi : i < G.length
    · simp [hi]
    · simp [hi]
  rw [unG, h1, List.flatMap_def, h2]
theorem addG_len (G : List (List Int)) (k : Nat) (l : List Int) : (addG G k l).length = G.length := by simp [addG]
theorem addG_at {G : List (List Int)} {k : Nat} (hk : k < G.length) (l : List Int) : (addG G k l).getD k [] = G.getD k [] ++ l := by simp [addG, hk]
theorem addG_ne {G : List (List Int)} {k j : Nat} (h : k ≠ j) (l : List Int) : (addG G k l).getD j [] = G.getD j [] := by simp [addG, List.getD_eq_getElem?_getD, List.getElem?_set_ne h]
theorem addG_nil {G : List (List Int)} {k : Nat} (hk : k < G.length) : addG G k [] = G := by simp [addG, hk]
theorem addG_add {G : List (List Int)} {k : Nat} (hk : k < G.length) (a b : List Int) : addG (addG G k a) k b = addG G k (a ++ b) := by
  have h := addG_at hk a
  unfold addG at h ⊢
  rw [h, List.set_set, List.append_assoc]
theorem count_set (v : Int) (t : Int) : ∀ (G : List (List Int)) (k : Nat), k < G.length → (G.set k (G.getD k [] ++ [t])).flatten.count v = G.flatten.count v + if v = t then 1 else 0
  | [], k, h => absurd h (Nat.not_lt_zero k)
  | x :: G, 0, h => by
    simp only [List.set_cons_zero, List.getD_cons_zero, List.flatten_cons, List.count_append]
    by_cases e : v = t
    · subst e; simp; omega
    · rw [if_neg e, List.count_cons_of_ne (Ne.symm e)]; simp
  | x :: G, k + 1, h => by
    simp only [List.set_cons_succ, List.getD_cons_succ, List.flatten_cons, List.count_append, count_set v t G k (by simpa using h)]; omega
def cntL (n : Nat) (G : List (List Int)) : List Int := (List.range n).map fun v : Nat => ((G.flatten.count (v : Int) : Nat) : Int)
theorem cntL_len (n : Nat) (G : List (List Int)) : (cntL n G).length = n := by simp [cntL]
theorem cntL_at {n : Nat} (G : List (List Int)) {v : Nat} (hv : v < n) : (cntL n G)[v]? = some ((G.flatten.count (v : Int) : Nat) : Int) := by simp [cntL, hv]
theorem cntL_add {n : Nat} {G : List (List Int)} {k v : Nat} (hk : k < G.length) (hv : v < n) : (cntL n G).set v (((G.flatten.count (v : Int) : Nat) : Int) + 1) = cntL n (addG G k [(v : Int)]) := by
  refine List.ext_getElem? fun w => ?_
  by_cases hw : w < n
  · rw [cntL_at _ hw, addG, count_set _ _ G k hk]
    by_cases e : v = w
    · subst e
      rw [List.getElem?_set_self (by rw [cntL_len]; exact hv), if_pos rfl]; congr 1
    · rw [List.getElem?_set_ne e, cntL_at _ hw, if_neg (fun g => e (by omega))]; rfl
  · rw [List.getElem?_eq_none (by rw [List.length_set, cntL_len]; omega), List.getElem?_eq_none (by rw [cntL_len]; omega)]
theorem addG_size {G : List (List Int)} {k : Nat} (hk : k < G.length) (t : Int) : (addG G k [t]).flatten.length = G.flatten.length + 1 := by
  have : ∀ (G : List (List Int)) (k : Nat), k < G.length → (G.set k (G.getD k [] ++ [t])).flatten.length = G.flatten.length + 1 := by
    intro G
    induction G with
    | nil => intro k h; exact absurd h (Nat.not_lt_zero k)
    | cons x G ih =>
      intro k h
      cases k with
      | zero => simp; omega
      | succ k =>
        have := ih k (by simpa using h)
        simp only [List.set_cons_succ, List.getD_cons_succ, List.flatten_cons, List.length_append, this]; omega
  exact this G k hk
def graphF (g : GrammarT) (f : ForestT) (es : List Edge3) : List (List Int) := es.foldl (fun G e => addG G e.1.toNat (kidsE g f e).1) (List.replicate f.1.length [])
theorem graphF_next {g : GrammarT} {f : ForestT} {k : Nat} {e : Edge3} (h : f.2[k]? = some e) : graphF g f (f.2.take (k + 1)) = addG (graphF g f (f.2.take k)) e.1.toNat (kidsE g f e).1 := by
  rw [graphF, graphF, List.take_add_one, h, List.foldl_append]; rfl
theorem graphF_len (g : GrammarT) (f : ForestT) (es : List Edge3) : (graphF g f es).length = f.1.length := by
  have : ∀ (es : List Edge3) (G : List (List Int)), (es.foldl (fun G e => addG G e.1.toNat (kidsE g f e).1) G).length = G.length := by
    intro es
    induction es with
    | nil => intro G; rfl
    | cons e es ih => intro G; rw [List.foldl_cons, ih, addG_len]
  rw [graphF, this]; simp
theorem graphF_rg (g : GrammarT) (f : ForestT) (es : List Edge3) : ∀ k, ∀ y ∈ (graphF g f es).getD k [], 0 ≤ y ∧ y < f.1.length := by
  have : ∀ (es : List Edge3) (G : List (List Int)), (∀ k, ∀ y ∈ G.getD k [], 0 ≤ y ∧ y < f.1.length) → ∀ k, ∀ y ∈ (es.foldl (fun G e => addG G e.1.toNat (kidsE g f e).1) G).getD k [], 0 ≤ y ∧ y < f.1.length := by
    intro es
    induction es with
    | nil => intro G h; exact h
    | cons e es ih =>
      intro G h
      rw [List.foldl_cons]
      refine ih _ fun k y hy => ?_
      by_cases hk : e.1.toNat = k
      · subst hk
        by_cases hl : e.1.toNat < G.length
        · rw [addG_at hl] at hy
          rcases List.mem_append.1 hy with g1 | g1
          · exact h _ y g1
          · exact kidsE_rg y g1
        · simp [addG, hl] at hy
      · rw [addG_ne hk] at hy; exact h k y hy
  refine this es _ fun k y hy => ?_
  rw [List.getD_eq_getElem?_getD] at hy
  cases hx : (List.replicate f.1.length ([] : List Int))[k]? with
  | none => rw [hx] at hy; cases hy
  | some r =>
    rw [hx] at hy
    rw [List.getElem?_replicate] at hx
    split at hx
    · injection hx with hx; subst hx; cases hy
    · cases hx
theorem addG_le : ∀ (G : List (List Int)) (k : Nat) (l : List Int), (addG G k l).flatten.length ≤ G.flatten.length + l.length
  | [], k, l => by simp [addG]
  | x :: G, 0, l => by simp [addG]; omega
  | x :: G, k + 1, l => by
    have := addG_le G k l
    simp only [addG] at this
    simp only [addG, List.set_cons_succ, List.getD_cons_succ, List.flatten_cons, List.length_append]; omega
theorem getD_flat : ∀ (G : List (List Int)) (k : Nat), (G.getD k []).length ≤ G.flatten.length
  | [], k => by simp
  | x :: G, 0 => by simp
  | x :: G, k + 1 => by have := getD_flat G k; simp only [List.getD_cons_succ, List.flatten_cons, List.length_append]; omega
theorem unG_le (G : List (List Int)) (proc : List Nat) : (unG G proc).length ≤ G.flatten.length := by
  have H : ∀ (l : List Nat) (p : Nat → Bool), ((l.filter p).flatMap fun u => G.getD u []).length ≤ (l.flatMap fun u => G.getD u []).length := by
    intro l p
    induction l with
    | nil => simp
    | cons a l ih =>
      rw [List.filter_cons]
      split
      · simp only [List.flatMap_cons, List.length_append]; omega
      · simp only [List.flatMap_cons, List.length_append]; omega
  have h := H (List.range G.length) (fun u => decide (u ∉ proc))
  have h2 : ((List.range G.length).flatMap fun u => G.getD u []) = G.flatten := by
    have := unG_all G
    unfold unG at this
    rw [List.filter_eq_self.2 (by simp)] at this
    exact this
  rw [h2] at h
  exact h
theorem graphF_size {g : GrammarT} (hg : goodG g = true) (f : ForestT) (es : List Edge3) : (graphF g f es).flatten.length ≤ 4 * es.length := by
  have one : ∀ (l : List Int) (G : List (List Int)) (k : Nat), (addG G k l).flatten.length ≤ G.flatten.length + l.length := by
    intro l G
    induction G with
    | nil => intro k; simp [addG]
    | cons x G ih =>
      intro k
      cases k with
      | zero => simp [addG]; omega
      | succ k =>
        have := ih k
        simp only [addG] at this
        simp only [addG, List.set_cons_succ, List.getD_cons_succ, List.flatten_cons, List.length_append]; omega
  have : ∀ (es : List Edge3) (G : List (List Int)), (es.foldl (fun G e => addG G e.1.toNat (kidsE g f e).1) G).flatten.length ≤ G.flatten.length + 4 * es.length := by
    intro es
    induction es with
    | nil => intro G; simp
    | cons e es ih =>
      intro G
      have h1 := ih (addG G e.1.toNat (kidsE g f e).1)
      have h2 := one (kidsE g f e).1 G e.1.toNat
      have h3 := kidsE_len hg f e
      simp only [List.foldl_cons, List.length_cons]; omega
  have h := this es (List.replicate f.1.length [])
  have h0 : (List.replicate f.1.length ([] : List Int)).flatten.length = 0 := by simp
  rw [h0] at h; rw [graphF]; omega
def kidsOver (g : GrammarT) (f : ForestT) (is : List Int) : List Int := is.flatMap fun i => (kidsE g f (f.2.getD i.toNat (0, 0, []))).1
theorem kidsOver_graph {g : GrammarT} {f : ForestT} (hok : ∀ e ∈ f.2, okE g f e = true) {k : Nat} (hk : k < f.1.length) : kidsOver g f (edgeIdx f k) = (graphF g f f.2).getD k [] := by
  have H : ∀ q, q ≤ f.2.length → kidsOver g f (idxs (fun e : Edge3 => e.1 == (k : Int)) 0 (f.2.take q)) = (graphF g f (f.2.take q)).getD k [] := by
    intro q
    induction q with
    | zero => intro _; simp [kidsOver, idxs, graphF, hk]
    | succ q ih =>
      intro hq
      have he : f.2[q]? = some f.2[q] := List.getElem?_eq_getElem (by omega)
      have hin : inR (f.2[q]).1 0 ((f.1.length : Int) - 1) = true := by
        have := hok _ (List.getElem_mem (show q < f.2.length by omega))
        simp only [okE, Bool.and_eq_true] at this; exact this.2
      have hin' : 0 ≤ (f.2[q]).1 ∧ (f.2[q]).1 ≤ (f.1.length : Int) - 1 := by simpa [inR] using hin
      rw [edge_snoc f k he, graphF_next he]
      generalize hee : f.2[q] = e at he hin'
      have ih := ih (by omega)
      simp only [kidsOver] at ih ⊢
      rw [List.flatMap_append, ih]
      by_cases hek : e.1 = (k : Int)
      · have hkk : e.1.toNat = k := by omega
        rw [hkk, addG_at (by rw [graphF_len]; exact hk)]
        simp [hek, he]
      · have hkk : e.1.toNat ≠ k := by omega
        rw [addG_ne hkk]
        simp [hek]
  have := H f.2.length (Nat.le_refl _)
  rw [List.take_length] at this
  exact this
/-- What both sides say. -/
noncomputable def roundV (g : GrammarT) (f : ForestT) : Bool × Bool :=
  if goodG g && (decide (f.1.length ≤ 600) && decide (f.2.length ≤ 600)) then if f.2.all (okE g f) then (cycB (graphF g f f.2), true) else (false, false) else (false, false)
/-- The reference's turns. -/
def noneLeft (left : List Bool) (l : List Int) : Bool := l.all fun v => !(left.getD v.toNat false)
def cT (left : List Bool) : Nat := left.count true
theorem cT_set {left : List Bool} {k : Nat} (h : left[k]? = some true) : cT (left.set k false) + 1 = cT left := by
  have : ∀ (left : List Bool) (k : Nat), left[k]? = some true → (left.set k false).count true + 1 = left.count true := by
    intro left
    induction left with
    | nil => intro k h; simp at h
    | cons b left ih =>
      intro k h
      cases k with
      | zero => simp at h; subst h; simp
      | succ k =>
        have := ih k (by simpa using h)
        simp only [List.set_cons_succ, List.count_cons]; omega
  exact this left k h
def Stab (G : List (List Int)) (left : List Bool) (k : Nat) : Prop := ∀ u, u < k → u < G.length → left[u]? = some true → ∃ v : Nat, v < G.length ∧ left[v]? = some true ∧ (v : Int) ∈ G.getD u []
structure TurnI (G : List (List Int)) (left0 left : List Bool) (more : Bool) (k : Nat) : Prop where
  li : ∃ L, LeftI G left L
  yes : more = true → cT left < cT left0
  no : more = false → left = left0 ∧ Stab G left k
theorem TurnI.free {G : List (List Int)} {left0 left : List Bool} {more : Bool} {k : Nat} (h : TurnI G left0 left more k) (hk : k < G.length) (hl : left[k]? = some true) (hr : ∀ y ∈ G.getD k [], 0 ≤ y ∧ y < G.length) (hf : noneLeft left (G.getD k []) = true) : TurnI G left0 (left.set k false) true (k + 1) := by
  obtain ⟨L, hL⟩ := h.li
  have hc := cT_set hl
  have hlk : k < left.length := by rw [hL.ln]; exact hk
  refine ⟨⟨L ++ [k], by simp [hL.ln], fun u hu => ?_, fun i u hi v hv hm => ?_⟩, fun _ => ?_, fun e => by cases e⟩
  · by_cases e : k = u
    · subst e; simp [hlk]
    · rw [List.getElem?_set_ne e, hL.rem u hu, List.mem_append, List.mem_singleton]
      constructor
      · exact .inl
      · rintro (g | g)
        · exact g
        · exact absurd g.symm e
  · by_cases hi' : i < L.length
    · rw [List.getElem?_append_left hi'] at hi
      rw [List.take_append_of_le_length (by omega)]
      exact hL.ord i u hi v hv hm
    · rw [List.getElem?_append_right (by omega)] at hi
      have hi0 : i - L.length = 0 := by
        cases e : i - L.length with
        | zero => rfl
        | succ q => rw [e] at hi; simp at hi
      rw [hi0] at hi
      simp at hi
      subst hi
      rw [show i = L.length by omega, List.take_append_of_le_length (Nat.le_refl _), List.take_length]
      refine (hL.rem v hv).1 ?_
      have := List.all_eq_true.1 hf _ hm
      have hvl : v < left.length := by rw [hL.ln]; exact hv
      simp only [Int.toNat_natCast, List.getD_eq_getElem?_getD, List.getElem?_eq_getElem hvl, Option.getD_some, Bool.not_eq_true'] at this
      rw [List.getElem?_eq_getElem hvl, this]
  · cases more with
    | true => have := h.yes rfl; omega
    | false => obtain ⟨e, _⟩ := h.no rfl; subst e; omega
theorem TurnI.stay {G : List (List Int)} {left0 left : List Bool} {more : Bool} {k : Nat} (h : TurnI G left0 left more k) (hr : ∀ y ∈ G.getD k [], 0 ≤ y ∧ y < G.length) (hf : left[k]? = some true → noneLeft left (G.getD k []) = false) : TurnI G left0 left more (k + 1) := by
  refine ⟨h.li, h.yes, fun e => ⟨(h.no e).1, fun u hu huG hl => ?_⟩⟩
  by_cases huk : u = k
  · subst huk
    have := hf hl
    obtain ⟨y, hy, hyl⟩ := List.all_eq_false.1 this
    obtain ⟨y0, y1⟩ := hr y hy
    obtain ⟨L, hL⟩ := h.li
    have hvl : y.toNat < left.length := by rw [hL.ln]; omega
    refine ⟨y.toNat, by omega, ?_, by rw [Int.toNat_of_nonneg y0]; exact hy⟩
    simp only [List.getD_eq_getElem?_getD, List.getElem?_eq_getElem hvl, Option.getD_some, Bool.not_eq_true', Bool.not_eq_false] at hyl
    rw [List.getElem?_eq_getElem hvl, hyl]
  · exact (h.no e).2 u (by omega) huG hl
end Go.Proofs.Ytiabaknmgbpmoaa.En
end
section
namespace Go.Proofs.Ytiabaknmgbpmoaa.En
open Go.RowKit
set_option linter.unusedSimpArgs false
set_option linter.unusedVariables false
set_option maxHeartbeats 8000000
theorem nodes_snoc (l : List Node3) (x : Node3) : nodes l ++ [nodeC x] = nodes (l ++ [x]) := by simp [nodes]
theorem l9At (ns : List Node3) (x : Node3) (hx : ns.length < 4611686018427387904) : Pure Try.prog 99 [.im 3 (nodes ns), .ag (nodeC x)] (.v (.int .i64 (fstX ns x 0))) := by
  refine Pure.mk (rs := [.tmp 4]) (nt := 19) Try.func99 (by kernel_rfl) rfl rfl rfl (by simp) ?_
  simp only [sl, nodeC]
  repeat' first
    | (refine Holds.condT ?_ ?_; (· (simp [go_sem, List.take_of_length_le] <;> with_reducible rfl)))
    | (refine Holds.condF ?_ ?_; (· (simp [go_sem, List.take_of_length_le] <;> with_reducible rfl)))
    | refine Holds.seq ?_
    | refine Holds.skip ?_
    | refine Holds.exit ?_
    | refine Holds.ret ?_
    | refine thenA_normal ?_
    | refine thenA_exit ?_
    | refine thenA_ret ?_
    | refine inB_normal ?_
    | refine inB_ret ?_
    | refine inB_here ?_
    | (refine inB_past ?_ ?_; (· exact rfl))
    | refine Holds.reg ?_
    | refine Holds.block ?_
    | refine GS.nil ?_
    | (refine GS.step (s' := ?_) ?_ ?_ ?_; rotate_left; (· exact rfl); (· (simp [go_sem, List.take_of_length_le] <;> with_reducible rfl)))
    | (refine GS.skip ?_ ?_ ?_; (· exact rfl); (· exact rfl))
    | fail
  refine Holds.loop (ι := Nat) (fun i => ⟨[(3, .pb 0 3 0 0), (7, .im 3 (nodes ns)), (8, .v (.int .i64 ns.length)), (9, .v (.int .i64 i))], [(0, ⟨135, 3, [nodeC x]⟩)], 1⟩) (fun i => i ≤ ns.length ∧ ∀ j, j < i → ∀ y, ns[j]? = some y → y ≠ x) (fun i => ns.length - i) 0 ⟨Nat.zero_le _, fun j hj => absurd hj (Nat.not_lt_zero j)⟩ ?_ ?_
  · exact Cov.ofn (id) rfl (by simp [go_sem, List.take_of_length_le, ren, ren1, ren2, okr, okr1, okr2, ChkT, ChkN, BlkN, nf, nodeC]) (by simp [go_sem, List.take_of_length_le, ren, ren1, ren2, okr, okr1, okr2, ChkT, ChkN, BlkN, nf, nodeC])
  rintro i ⟨hi, hno⟩
  repeat' first
    | (refine Holds.condT ?_ ?_; (· (simp [go_sem, List.take_of_length_le] <;> with_reducible rfl)))
    | (refine Holds.condF ?_ ?_; (· (simp [go_sem, List.take_of_length_le] <;> with_reducible rfl)))
    | refine Holds.seq ?_
    | refine Holds.skip ?_
    | refine Holds.exit ?_
    | refine Holds.ret ?_
    | refine thenA_normal ?_
    | refine thenA_exit ?_
    | refine thenA_ret ?_
    | refine inB_normal ?_
    | refine inB_ret ?_
    | refine inB_here ?_
    | (refine inB_past ?_ ?_; (· exact rfl))
    | refine Holds.reg ?_
    | refine Holds.block ?_
    | refine GS.nil ?_
    | (refine GS.step (s' := ?_) ?_ ?_ ?_; rotate_left; (· exact rfl); (· (simp [go_sem, List.take_of_length_le] <;> with_reducible rfl)))
    | (refine GS.skip ?_ ?_ ?_; (· exact rfl); (· exact rfl))
    | fail
  refine Holds.cond rfl (fun hl => ?_) (fun hl => ?_)
  · have hlt : i < ns.length := by simpa using hl
    have hxi : ns[i]? = some ns[i] := List.getElem?_eq_getElem hlt
    generalize ns[i] = y at hxi
    repeat' first
      | (refine Holds.condT ?_ ?_; (· (simp [go_sem, List.take_of_length_le, hxi, nodeC] <;> with_reducible rfl)))
      | (refine Holds.condF ?_ ?_; (· (simp [go_sem, List.take_of_length_le, hxi, nodeC] <;> with_reducible rfl)))
      | refine Holds.seq ?_
      | refine Holds.skip ?_
      | refine Holds.exit ?_
      | refine Holds.ret ?_
      | refine thenA_normal ?_
      | refine thenA_exit ?_
      | refine thenA_ret ?_
      | refine inB_normal ?_
      | refine inB_ret ?_
      | refine inB_here ?_
      | (refine inB_past ?_ ?_; (· exact rfl))
      | refine Holds.reg ?_
      | refine Holds.block ?_
      | refine GS.nil ?_
      | (refine GS.step (s' := ?_) ?_ ?_ ?_; rotate_left; (· exact rfl); (· (simp [go_sem, List.take_of_length_le, hxi, nodeC] <;> with_reducible rfl)))
      | (refine GS.skip ?_ ?_ ?_; (· exact rfl); (· exact rfl))
      | fail
    refine GS.calm1 rfl rfl (.eqS (n := 3) (xs := [y.1, y.2.1, y.2.2]) (ys := [x.1, x.2.1, x.2.2]) rfl eq135 rfl rfl rfl rfl rfl) ?_
    repeat' first
      | refine Holds.seq ?_
      | refine Holds.skip ?_
      | refine Holds.exit ?_
      | refine Holds.ret ?_
      | refine thenA_normal ?_
      | refine thenA_exit ?_
      | refine thenA_ret ?_
      | refine inB_normal ?_
      | refine inB_ret ?_
      | refine inB_here ?_
      | (refine inB_past ?_ ?_; (· exact rfl))
      | refine Holds.reg ?_
      | refine Holds.block ?_
      | refine GS.nil ?_
      | (refine GS.step (s' := ?_) ?_ ?_ ?_; rotate_left; (· exact rfl); (· (simp [go_sem, List.take_of_length_le] <;> with_reducible rfl)))
      | (refine GS.skip ?_ ?_ ?_; (· exact rfl); (· exact rfl))
      | fail
    refine Holds.cond rfl (fun hl => ?_) (fun hl => ?_)
    · have he : y = x := node_ext (by simpa using hl)
      rw [fstX_at ns i 0 (hxi.trans (by rw [he])) hno, Nat.zero_add]
      repeat' first
        | (refine Holds.condT ?_ ?_; (· (simp [go_sem, List.take_of_length_le] <;> with_reducible rfl)))
        | (refine Holds.condF ?_ ?_; (· (simp [go_sem, List.take_of_length_le] <;> with_reducible rfl)))
        | refine Holds.seq ?_
        | refine Holds.skip ?_
        | refine Holds.exit ?_
        | refine Holds.ret ?_
        | refine thenA_normal ?_
        | refine thenA_exit ?_
        | refine thenA_ret ?_
        | refine inB_normal ?_
        | refine inB_ret ?_
        | refine inB_here ?_
        | (refine inB_past ?_ ?_; (· exact rfl))
        | refine Holds.reg ?_
        | refine Holds.block ?_
        | refine GS.nil ?_
        | (refine GS.step (s' := ?_) ?_ ?_ ?_; rotate_left; (· exact rfl); (· (simp [go_sem, List.take_of_length_le] <;> with_reducible rfl)))
        | (refine GS.skip ?_ ?_ ?_; (· exact rfl); (· exact rfl))
        | fail
      refine Out.mk (xs := ?_) ?_ ?_ (by first | exact .inr rfl | exact .inl rfl)
      rotate_left
      · simp [go_sem, List.take_of_length_le] <;> with_reducible rfl
      exact .v _
    · have he : ¬ y = x := by rintro rfl; simp at hl
      repeat' first
        | (refine Holds.condT ?_ ?_; (· (simp [go_sem, List.take_of_length_le] <;> with_reducible rfl)))
        | (refine Holds.condF ?_ ?_; (· (simp [go_sem, List.take_of_length_le] <;> with_reducible rfl)))
        | refine Holds.seq ?_
        | refine Holds.skip ?_
        | refine Holds.exit ?_
        | refine Holds.ret ?_
        | refine thenA_normal ?_
        | refine thenA_exit ?_
        | refine thenA_ret ?_
        | refine inB_normal ?_
        | refine inB_ret ?_
        | refine inB_here ?_
        | (refine inB_past ?_ ?_; (· exact rfl))
        | refine Holds.reg ?_
        | refine Holds.block ?_
        | refine GS.nil ?_
        | (refine GS.step (s' := ?_) ?_ ?_ ?_; rotate_left; (· exact rfl); (· (simp [go_sem, List.take_of_length_le] <;> with_reducible rfl)))
        | (refine GS.skip ?_ ?_ ?_; (· exact rfl); (· exact rfl))
        | fail
      refine ⟨i + 1, ⟨by omega, fun j hj z hxj => ?_⟩, by omega, ?_⟩
      · by_cases e : j = i
        · subst e; rw [hxi] at hxj; cases hxj; exact he
        · exact hno j (by omega) z hxj
      rw [wr64_id (by omega) (by omega)]
      exact Cov.ofn (id) rfl (by simp [go_sem, List.take_of_length_le, ren, ren1, ren2, okr, okr1, okr2, ChkT, ChkN, BlkN, nf, nodeC]) (by simp [go_sem, List.take_of_length_le, ren, ren1, ren2, okr, okr1, okr2, ChkT, ChkN, BlkN, nf, nodeC])
  · have hle : i = ns.length := by
      have : ¬ i < ns.length := by simpa using hl
      omega
    rw [fstX_no ns 0 (not_memX fun j z hj => hno j (by have := (List.getElem?_eq_some_iff.1 hj).1; omega) z hj)]
    repeat' first
      | (refine Holds.condT ?_ ?_; (· (simp [go_sem, List.take_of_length_le] <;> with_reducible rfl)))
      | (refine Holds.condF ?_ ?_; (· (simp [go_sem, List.take_of_length_le] <;> with_reducible rfl)))
      | refine Holds.seq ?_
      | refine Holds.skip ?_
      | refine Holds.exit ?_
      | refine Holds.ret ?_
      | refine thenA_normal ?_
      | refine thenA_exit ?_
      | refine thenA_ret ?_
      | refine inB_normal ?_
      | refine inB_ret ?_
      | refine inB_here ?_
      | (refine inB_past ?_ ?_; (· exact rfl))
      | refine Holds.reg ?_
      | refine Holds.block ?_
      | refine GS.nil ?_
      | (refine GS.step (s' := ?_) ?_ ?_ ?_; rotate_left; (· exact rfl); (· (simp [go_sem, List.take_of_length_le] <;> with_reducible rfl)))
      | (refine GS.skip ?_ ?_ ?_; (· exact rfl); (· exact rfl))
      | fail
    refine Out.mk (xs := ?_) ?_ ?_ (by first | exact .inr rfl | exact .inl rfl)
    rotate_left
    · simp [go_sem, List.take_of_length_le] <;> with_reducible rfl
    exact .v _
theorem indexNode (ns : List Node3) (x : Node3) (hx : ns.length < 4611686018427387904) : Pure Try.prog 122 [.im 3 (nodes ns), .ag (nodeC x)] (.v (.int .i64 (fstX ns x 0))) := by
  refine Pure.mk (rs := [.tmp 4]) (nt := 19) Try.func122 (by kernel_rfl) rfl rfl rfl (by simp) ?_
  simp only [sl, nodeC]
  repeat' first
    | (refine Holds.condT ?_ ?_; (· (simp [go_sem, List.take_of_length_le] <;> with_reducible rfl)))
    | (refine Holds.condF ?_ ?_; (· (simp [go_sem, List.take_of_length_le] <;> with_reducible rfl)))
    | refine Holds.seq ?_
    | refine Holds.skip ?_
    | refine Holds.exit ?_
    | refine Holds.ret ?_
    | refine thenA_normal ?_
    | refine thenA_exit ?_
    | refine thenA_ret ?_
    | refine inB_normal ?_
    | refine inB_ret ?_
    | refine inB_here ?_
    | (refine inB_past ?_ ?_; (· exact rfl))
    | refine Holds.reg ?_
    | refine Holds.block ?_
    | refine GS.nil ?_
    | refine Gd.nil ?_
    | (refine Holds.any mixed ?_ ?_; (· kernel_rfl))
    | (refine GS.step (s' := ?_) ?_ ?_ ?_; rotate_left; (· exact rfl); (· (simp [go_sem, List.take_of_length_le] <;> with_reducible rfl)))
    | (refine GS.skip ?_ ?_ ?_; (· exact rfl); (· exact rfl))
    | (refine Gd.go (s' := ?_) ?_ ?_ ?_; rotate_left; (· exact rfl); (· (simp [go_sem, List.take_of_length_le] <;> with_reducible rfl)))
    | (refine Gd.skip ?_ ?_ ?_; (· exact rfl); (· exact rfl))
    | fail
  refine Holds.loop (ι := Nat) (fun i => ⟨[(0, .im 3 (nodes ns)), (3, .pb 0 3 0 0), (7, .v (.int .i64 ns.length)), (8, .v (.int .i64 i))], [(0, ⟨135, 3, [nodeC x]⟩)], 1⟩) (fun i => i ≤ ns.length ∧ ∀ j, j < i → ∀ y, ns[j]? = some y → y ≠ x) (fun i => ns.length - i) 0 ⟨Nat.zero_le _, fun j hj => absurd hj (Nat.not_lt_zero j)⟩ ?_ ?_
  · exact Cov.ofn (id) rfl (by simp [go_sem, List.take_of_length_le, ren, ren1, ren2, okr, okr1, okr2, ChkT, ChkN, BlkN, nf, nodeC]) (by simp [go_sem, List.take_of_length_le, ren, ren1, ren2, okr, okr1, okr2, ChkT, ChkN, BlkN, nf, nodeC])
  rintro i ⟨hi, hno⟩
  repeat' first
    | (refine Holds.condT ?_ ?_; (· (simp [go_sem, List.take_of_length_le] <;> with_reducible rfl)))
    | (refine Holds.condF ?_ ?_; (· (simp [go_sem, List.take_of_length_le] <;> with_reducible rfl)))
    | refine Holds.seq ?_
    | refine Holds.skip ?_
    | refine Holds.exit ?_
    | refine Holds.ret ?_
    | refine thenA_normal ?_
    | refine thenA_exit ?_
    | refine thenA_ret ?_
    | refine inB_normal ?_
    | refine inB_ret ?_
    | refine inB_here ?_
    | (refine inB_past ?_ ?_; (· exact rfl))
    | refine Holds.reg ?_
    | refine Holds.block ?_
    | refine GS.nil ?_
    | refine Gd.nil ?_
    | (refine Holds.any mixed ?_ ?_; (· kernel_rfl))
    | (refine GS.step (s' := ?_) ?_ ?_ ?_; rotate_left; (· exact rfl); (· (simp [go_sem, List.take_of_length_le] <;> with_reducible rfl)))
    | (refine GS.skip ?_ ?_ ?_; (· exact rfl); (· exact rfl))
    | (refine Gd.go (s' := ?_) ?_ ?_ ?_; rotate_left; (· exact rfl); (· (simp [go_sem, List.take_of_length_le] <;> with_reducible rfl)))
    | (refine Gd.skip ?_ ?_ ?_; (· exact rfl); (· exact rfl))
    | fail
  refine Holds.cond rfl (fun hl => ?_) (fun hl => ?_)
  · have hlt : i < ns.length := by simpa using hl
    have hxi : ns[i]? = some ns[i] := List.getElem?_eq_getElem hlt
    generalize ns[i] = y at hxi
    repeat' first
      | (refine Holds.condT ?_ ?_; (· (simp [go_sem, List.take_of_length_le, hxi, nodeC] <;> with_reducible rfl)))
      | (refine Holds.condF ?_ ?_; (· (simp [go_sem, List.take_of_length_le, hxi, nodeC] <;> with_reducible rfl)))
      | refine Holds.seq ?_
      | refine Holds.skip ?_
      | refine Holds.exit ?_
      | refine Holds.ret ?_
      | refine thenA_normal ?_
      | refine thenA_exit ?_
      | refine thenA_ret ?_
      | refine inB_normal ?_
      | refine inB_ret ?_
      | refine inB_here ?_
      | (refine inB_past ?_ ?_; (· exact rfl))
      | refine Holds.reg ?_
      | refine Holds.block ?_
      | refine GS.nil ?_
      | refine Gd.nil ?_
      | (refine Holds.any mixed ?_ ?_; (· kernel_rfl))
      | (refine GS.step (s' := ?_) ?_ ?_ ?_; rotate_left; (· exact rfl); (· (simp [go_sem, List.take_of_length_le, hxi, nodeC] <;> with_reducible rfl)))
      | (refine GS.skip ?_ ?_ ?_; (· exact rfl); (· exact rfl))
      | (refine Gd.go (s' := ?_) ?_ ?_ ?_; rotate_left; (· exact rfl); (· (simp [go_sem, List.take_of_length_le, hxi, nodeC] <;> with_reducible rfl)))
      | (refine Gd.skip ?_ ?_ ?_; (· exact rfl); (· exact rfl))
      | fail
    refine Gd.calm rfl rfl (.eqS (n := 3) (xs := [x.1, x.2.1, x.2.2]) (ys := [y.1, y.2.1, y.2.2]) rfl eq135 rfl rfl rfl rfl rfl) ?_
    repeat' first
      | refine Holds.seq ?_
      | refine Holds.skip ?_
      | refine Holds.exit ?_
      | refine Holds.ret ?_
      | refine thenA_normal ?_
      | refine thenA_exit ?_
      | refine thenA_ret ?_
      | refine inB_normal ?_
      | refine inB_ret ?_
      | refine inB_here ?_
      | (refine inB_past ?_ ?_; (· exact rfl))
      | refine Holds.reg ?_
      | refine Holds.block ?_
      | refine GS.nil ?_
      | refine Gd.nil ?_
      | (refine Holds.any mixed ?_ ?_; (· kernel_rfl))
      | (refine GS.step (s' := ?_) ?_ ?_ ?_; rotate_left; (· exact rfl); (· (simp [go_sem, List.take_of_length_le] <;> with_reducible rfl)))
      | (refine GS.skip ?_ ?_ ?_; (· exact rfl); (· exact rfl))
      | (refine Gd.go (s' := ?_) ?_ ?_ ?_; rotate_left; (· exact rfl); (· (simp [go_sem, List.take_of_length_le] <;> with_reducible rfl)))
      | (refine Gd.skip ?_ ?_ ?_; (· exact rfl); (· exact rfl))
      | fail
    refine Holds.cond rfl (fun hl => ?_) (fun hl => ?_)
    · have he : x = y := node_ext (by simpa using hl)
      rw [fstX_at ns i 0 (hxi.trans (by rw [he])) hno, Nat.zero_add]
      repeat' first
        | (refine Holds.condT ?_ ?_; (· (simp [go_sem, List.take_of_length_le] <;> with_reducible rfl)))
        | (refine Holds.condF ?_ ?_; (· (simp [go_sem, List.take_of_length_le] <;> with_reducible rfl)))
        | refine Holds.seq ?_
        | refine Holds.skip ?_
        | refine Holds.exit ?_
        | refine Holds.ret ?_
        | refine thenA_normal ?_
        | refine thenA_exit ?_
        | refine thenA_ret ?_
        | refine inB_normal ?_
        | refine inB_ret ?_
        | refine inB_here ?_
        | (refine inB_past ?_ ?_; (· exact rfl))
        | refine Holds.reg ?_
        | refine Holds.block ?_
        | refine GS.nil ?_
        | refine Gd.nil ?_
        | (refine Holds.any mixed ?_ ?_; (· kernel_rfl))
        | (refine GS.step (s' := ?_) ?_ ?_ ?_; rotate_left; (· exact rfl); (· (simp [go_sem, List.take_of_length_le] <;> with_reducible rfl)))
        | (refine GS.skip ?_ ?_ ?_; (· exact rfl); (· exact rfl))
        | (refine Gd.go (s' := ?_) ?_ ?_ ?_; rotate_left; (· exact rfl); (· (simp [go_sem, List.take_of_length_le] <;> with_reducible rfl)))
        | (refine Gd.skip ?_ ?_ ?_; (· exact rfl); (· exact rfl))
        | fail
      refine Out.mk (xs := ?_) ?_ ?_ (by first | exact .inr rfl | exact .inl rfl)
      rotate_left
      · simp [go_sem, List.take_of_length_le] <;> with_reducible rfl
      exact .v _
    · have he : ¬ y = x := by rintro rfl; simp at hl
      repeat' first
        | (refine Holds.condT ?_ ?_; (· (simp [go_sem, List.take_of_length_le] <;> with_reducible rfl)))
        | (refine Holds.condF ?_ ?_; (· (simp [go_sem, List.take_of_length_le] <;> with_reducible rfl)))
        | refine Holds.seq ?_
        | refine Holds.skip ?_
        | refine Holds.exit ?_
        | refine Holds.ret ?_
        | refine thenA_normal ?_
        | refine thenA_exit ?_
        | refine thenA_ret ?_
        | refine inB_normal ?_
        | refine inB_ret ?_
        | refine inB_here ?_
        | (refine inB_past ?_ ?_; (· exact rfl))
        | refine Holds.reg ?_
        | refine Holds.block ?_
        | refine GS.nil ?_
        | refine Gd.nil ?_
        | (refine Holds.any mixed ?_ ?_; (· kernel_rfl))
        | (refine GS.step (s' := ?_) ?_ ?_ ?_; rotate_left; (· exact rfl); (· (simp [go_sem, List.take_of_length_le] <;> with_reducible rfl)))
        | (refine GS.skip ?_ ?_ ?_; (· exact rfl); (· exact rfl))
        | (refine Gd.go (s' := ?_) ?_ ?_ ?_; rotate_left; (· exact rfl); (· (simp [go_sem, List.take_of_length_le] <;> with_reducible rfl)))
        | (refine Gd.skip ?_ ?_ ?_; (· exact rfl); (· exact rfl))
        | fail
      refine ⟨i + 1, ⟨by omega, fun j hj z hxj => ?_⟩, by omega, ?_⟩
      · by_cases e : j = i
        · subst e; rw [hxi] at hxj; cases hxj; exact he
        · exact hno j (by omega) z hxj
      rw [wr64_id (by omega) (by omega)]
      exact Cov.ofn (id) rfl (by simp [go_sem, List.take_of_length_le, ren, ren1, ren2, okr, okr1, okr2, ChkT, ChkN, BlkN, nf, nodeC]) (by simp [go_sem, List.take_of_length_le, ren, ren1, ren2, okr, okr1, okr2, ChkT, ChkN, BlkN, nf, nodeC])
  · have hle : i = ns.length := by
      have : ¬ i < ns.length := by simpa using hl
      omega
    rw [fstX_no ns 0 (not_memX fun j z hj => hno j (by have := (List.getElem?_eq_some_iff.1 hj).1; omega) z hj)]
    repeat' first
      | (refine Holds.condT ?_ ?_; (· (simp [go_sem, List.take_of_length_le] <;> with_reducible rfl)))
      | (refine Holds.condF ?_ ?_; (· (simp [go_sem, List.take_of_length_le] <;> with_reducible rfl)))
      | refine Holds.seq ?_
      | refine Holds.skip ?_
      | refine Holds.exit ?_
      | refine Holds.ret ?_
      | refine thenA_normal ?_
      | refine thenA_exit ?_
      | refine thenA_ret ?_
      | refine inB_normal ?_
      | refine inB_ret ?_
      | refine inB_here ?_
      | (refine inB_past ?_ ?_; (· exact rfl))
      | refine Holds.reg ?_
      | refine Holds.block ?_
      | refine GS.nil ?_
      | refine Gd.nil ?_
      | (refine Holds.any mixed ?_ ?_; (· kernel_rfl))
      | (refine GS.step (s' := ?_) ?_ ?_ ?_; rotate_left; (· exact rfl); (· (simp [go_sem, List.take_of_length_le] <;> with_reducible rfl)))
      | (refine GS.skip ?_ ?_ ?_; (· exact rfl); (· exact rfl))
      | (refine Gd.go (s' := ?_) ?_ ?_ ?_; rotate_left; (· exact rfl); (· (simp [go_sem, List.take_of_length_le] <;> with_reducible rfl)))
      | (refine Gd.skip ?_ ?_ ?_; (· exact rfl); (· exact rfl))
      | fail
    refine Out.mk (xs := ?_) ?_ ?_ (by first | exact .inr rfl | exact .inl rfl)
    rotate_left
    · simp [go_sem, List.take_of_length_le] <;> with_reducible rfl
    exact .v _
theorem l9Kids (g : GrammarT) (rule : Int) (cuts : List Int) {k0 : Nat} {r : RuleT} (hk0 : rule = k0) (hr : g.2.2[k0]? = some r) (h4 : r.2.length ≤ 4) (hc : cuts.length = r.2.length + 1) : Pure Try.prog 98 [.ag (grammarC g), .v (.int .i64 rule), .im 1 (ints cuts)] (.im 3 (nodes (nodesK cuts 0 r.2))) := by
  subst hk0
  refine Pure.mk (rs := [.tmp 6]) (nt := 40) Try.func98 (by kernel_rfl) rfl rfl rfl (by simp) ?_
  simp only [sl, grammarC]
  repeat' first
    | (refine Holds.condT ?_ ?_; (· (simp [go_sem, List.take_of_length_le, hr, ruleC] <;> with_reducible rfl)))
    | (refine Holds.condF ?_ ?_; (· (simp [go_sem, List.take_of_length_le, hr, ruleC] <;> with_reducible rfl)))
    | refine Holds.seq ?_
    | refine Holds.skip ?_
    | refine Holds.exit ?_
    | refine Holds.ret ?_
    | refine thenA_normal ?_
    | refine thenA_exit ?_
    | refine thenA_ret ?_
    | refine inB_normal ?_
    | refine inB_ret ?_
    | refine inB_here ?_
    | (refine inB_past ?_ ?_; (· exact rfl))
    | refine Holds.reg ?_
    | refine Holds.block ?_
    | refine GS.nil ?_
    | refine Gd.nil ?_
    | (refine Holds.any mixed ?_ ?_; (· kernel_rfl))
    | (refine GS.step (s' := ?_) ?_ ?_ ?_; rotate_left; (· exact rfl); (· (simp [go_sem, List.take_of_length_le, hr, ruleC] <;> with_reducible rfl)))
    | (refine GS.skip ?_ ?_ ?_; (· exact rfl); (· exact rfl))
    | (refine Gd.go (s' := ?_) ?_ ?_ ?_; rotate_left; (· exact rfl); (· (simp [go_sem, List.take_of_length_le, hr, ruleC] <;> with_reducible rfl)))
    | (refine Gd.skip ?_ ?_ ?_; (· exact rfl); (· exact rfl))
    | fail
  refine Holds.niw 7 135 3 rfl ?_
  refine Holds.loop (ι := Nat × List Node3) (fun i => ⟨[(2, .im 1 (ints cuts)), (3, .pb 0 3 0 0), (7, .own 1 3 0 i.2.length), (15, .im 1 (ints r.2)), (16, .v (.int .i64 r.2.length)), (17, .v (.int .i64 i.1))], [(1, ⟨135, 3, nodes i.2⟩), (0, ⟨31, 3, [grammarC g]⟩)], 2⟩)
    (fun i => i.1 ≤ r.2.length ∧ i.2.length ≤ i.1 ∧ i.2 ++ nodesK cuts i.1 (r.2.drop i.1) = nodesK cuts 0 r.2) (fun i => r.2.length - i.1) (0, []) ⟨Nat.zero_le _, Nat.le_refl _, rfl⟩ ?_ ?_
  · exact Cov.ofn (id) rfl (by simp [go_sem, List.take_of_length_le, ren, ren1, ren2, okr, okr1, okr2, ChkT, ChkN, BlkN, nf, niw, grammarC, nodes]) (by simp [go_sem, List.take_of_length_le, ren, ren1, ren2, okr, okr1, okr2, ChkT, ChkN, BlkN, nf, niw, grammarC, nodes])
  rintro ⟨k, L⟩ ⟨hk, hL, hfold⟩
  dsimp only at hk hL hfold ⊢
  have stepk : wr64 ((k : Int) + 1) = ((k + 1 : Nat) : Int) := wr64_id (by omega) (by omega)
  repeat' first
    | (refine Holds.condT ?_ ?_; (· (simp [go_sem, List.take_of_length_le] <;> with_reducible rfl)))
    | (refine Holds.condF ?_ ?_; (· (simp [go_sem, List.take_of_length_le] <;> with_reducible rfl)))
    | refine Holds.seq ?_
    | refine Holds.skip ?_
    | refine Holds.exit ?_
    | refine Holds.ret ?_
    | refine thenA_normal ?_
    | refine thenA_exit ?_
    | refine thenA_ret ?_
    | refine inB_normal ?_
    | refine inB_ret ?_
    | refine inB_here ?_
    | (refine inB_past ?_ ?_; (· exact rfl))
    | refine Holds.reg ?_
    | refine Holds.block ?_
    | refine GS.nil ?_
    | refine Gd.nil ?_
    | (refine Holds.any mixed ?_ ?_; (· kernel_rfl))
    | (refine GS.step (s' := ?_) ?_ ?_ ?_; rotate_left; (· exact rfl); (· (simp [go_sem, List.take_of_length_le] <;> with_reducible rfl)))
    | (refine GS.skip ?_ ?_ ?_; (· exact rfl); (· exact rfl))
    | (refine Gd.go (s' := ?_) ?_ ?_ ?_; rotate_left; (· exact rfl); (· (simp [go_sem, List.take_of_length_le] <;> with_reducible rfl)))
    | (refine Gd.skip ?_ ?_ ?_; (· exact rfl); (· exact rfl))
    | fail
  refine Holds.cond rfl (fun h => ?_) (fun h => ?_)
  · have hlt : k < r.2.length := by simp at h; omega
    have hxi : r.2[k]? = some r.2[k] := List.getElem?_eq_getElem hlt
    generalize r.2[k] = x at hxi
    rw [nodesK_drop hxi] at hfold
    have hl0 : k < cuts.length := by omega
    have hl1 : k + 1 < cuts.length := by omega
    have h01 : (0 : Int) ≤ (k : Int) + 1 := by omega
    rw [show cuts.getD k 0 = cuts[k] by simp [hl0], show cuts.getD (k + 1) 0 = cuts[k + 1] by simp [hl1]] at hfold
    by_cases hx : x < 0
    · rw [if_pos hx] at hfold
      have hx' : ¬ 0 ≤ x := by omega
      repeat' first
        | (refine Holds.condT ?_ ?_; (· (simp [go_sem, List.take_of_length_le, hxi, hx, hx'] <;> with_reducible rfl)))
        | (refine Holds.condF ?_ ?_; (· (simp [go_sem, List.take_of_length_le, hxi, hx, hx'] <;> with_reducible rfl)))
        | refine Holds.seq ?_
        | refine Holds.skip ?_
        | refine Holds.exit ?_
        | refine Holds.ret ?_
        | refine thenA_normal ?_
        | refine thenA_exit ?_
        | refine thenA_ret ?_
        | refine inB_normal ?_
        | refine inB_ret ?_
        | refine inB_here ?_
        | (refine inB_past ?_ ?_; (· exact rfl))
        | refine Holds.reg ?_
        | refine Holds.block ?_
        | refine GS.nil ?_
        | refine Gd.nil ?_
        | (refine Holds.any mixed ?_ ?_; (· kernel_rfl))
        | (refine GS.step (s' := ?_) ?_ ?_ ?_; rotate_left; (· exact rfl); (· (simp [go_sem, List.take_of_length_le, hxi, hx, hx'] <;> with_reducible rfl)))
        | (refine GS.skip ?_ ?_ ?_; (· exact rfl); (· exact rfl))
        | (refine Gd.go (s' := ?_) ?_ ?_ ?_; rotate_left; (· exact rfl); (· (simp [go_sem, List.take_of_length_le, hxi, hx, hx'] <;> with_reducible rfl)))
        | (refine Gd.skip ?_ ?_ ?_; (· exact rfl); (· exact rfl))
        | fail
      refine ⟨(k + 1, L), ⟨by dsimp only; omega, by dsimp only; omega, hfold⟩, by dsimp only; omega, ?_⟩
      rw [stepk]
      exact Cov.ofn (id) rfl (by simp [go_sem, List.take_of_length_le, ren, ren1, ren2, okr, okr1, okr2, ChkT, ChkN, BlkN, nf, grammarC]) (by simp [go_sem, List.take_of_length_le, ren, ren1, ren2, okr, okr1, okr2, ChkT, ChkN, BlkN, nf, grammarC])
    · rw [if_neg hx] at hfold
      have hx' : 0 ≤ x := by omega
      have hb : (L.length + 1) * 24 ≤ 140737488355328 := by omega
      repeat' first
        | (refine Holds.condT ?_ ?_; (· (simp [go_sem, List.take_of_length_le, hxi, hx, hx'] <;> with_reducible rfl)))
        | (refine Holds.condF ?_ ?_; (· (simp [go_sem, List.take_of_length_le, hxi, hx, hx'] <;> with_reducible rfl)))
        | refine Holds.seq ?_
        | refine Holds.skip ?_
        | refine Holds.exit ?_
        | refine Holds.ret ?_
        | refine thenA_normal ?_
        | refine thenA_exit ?_
        | refine thenA_ret ?_
        | refine inB_normal ?_
        | refine inB_ret ?_
        | refine inB_here ?_
        | (refine inB_past ?_ ?_; (· exact rfl))
        | refine Holds.reg ?_
        | refine Holds.block ?_
        | refine GS.nil ?_
        | refine Gd.nil ?_
        | (refine GS.step (s' := ?_) ?_ ?_ ?_; rotate_left; (· exact rfl); (· (simp [go_sem, List.take_of_length_le, hxi, hx, hx'] <;> with_reducible rfl)))
        | (refine GS.skip ?_ ?_ ?_; (· exact rfl); (· exact rfl))
        | (refine Gd.go (s' := ?_) ?_ ?_ ?_; rotate_left; (· exact rfl); (· (simp [go_sem, List.take_of_length_le, hxi, hx, hx'] <;> with_reducible rfl)))
        | (refine Gd.skip ?_ ?_ ?_; (· exact rfl); (· exact rfl))
        | fail
      refine Holds.anx [11, 12, 1013] [0] (fun n => decide (2 ≤ n)) mixed ?_ ?_ ?_; (· kernel_rfl); (· kernel_rfl)
      repeat' first
        | (refine Holds.condT ?_ ?_; (· (simp [go_sem, List.take_of_length_le, stepk, h01, hl0, hl1, hb] <;> with_reducible rfl)))
        | (refine Holds.condF ?_ ?_; (· (simp [go_sem, List.take_of_length_le, stepk, h01, hl0, hl1, hb] <;> with_reducible rfl)))
        | refine Holds.seq ?_
        | refine Holds.skip ?_
        | refine Holds.exit ?_
        | refine Holds.ret ?_
        | refine thenA_normal ?_
        | refine thenA_exit ?_
        | refine thenA_ret ?_
        | refine inB_normal ?_
        | refine inB_ret ?_
        | refine inB_here ?_
        | (refine inB_past ?_ ?_; (· exact rfl))
        | refine Holds.reg ?_
        | refine Holds.block ?_
        | refine GS.nil ?_
        | refine Gd.nil ?_
        | (refine GS.step (s' := ?_) ?_ ?_ ?_; rotate_left; (· exact rfl); (· (simp [go_sem, List.take_of_length_le, stepk, h01, hl0, hl1, hb] <;> with_reducible rfl)))
        | (refine GS.skip ?_ ?_ ?_; (· exact rfl); (· exact rfl))
        | (refine Gd.go (s' := ?_) ?_ ?_ ?_; rotate_left; (· exact rfl); (· (simp [go_sem, List.take_of_length_le, stepk, h01, hl0, hl1, hb] <;> with_reducible rfl)))
        | (refine Gd.skip ?_ ?_ ?_; (· exact rfl); (· exact rfl))
        | refine Gx.nil ?_
        | (refine Gx.go (s' := ?_) rfl ?_ ?_ ?_; rotate_left; (· exact rfl); (· (simp [go_sem, List.take_of_length_le, stepk, h01, hl0, hl1, hb] <;> with_reducible rfl)))
        | (refine Gx.skip rfl ?_ ?_ ?_; (· exact rfl); (· exact rfl))
        | (refine Gx.skipO rfl ?_ ?_ ?_; (· exact rfl); (· exact rfl))
        | (refine Gx.wo (s' := ?_) rfl ?_ ?_ ?_; rotate_left; (· exact rfl); (· (simp [go_sem, List.take_of_length_le, stepk, h01, hl0, hl1, hb] <;> with_reducible rfl)))
        | (refine Gx.skipW rfl ?_ ?_ ?_; (· exact rfl); (· exact rfl))
        | (refine Gx.skipH rfl ?_ ?_ ?_; (· exact rfl); (· exact rfl))
        | (refine Gx.hid (r := ?_) rfl ?_ ?_ ?_ ?_; rotate_left; (· exact rfl); (· exact rfl); (· (simp [go_sem, List.take_of_length_le, stepk, h01, hl0, hl1, hb] <;> with_reducible rfl)))
        | (refine Gx.wr (s' := ?_) rfl ?_ ?_ ?_ ?_; rotate_left; (· exact rfl); (· (simp [go_sem, List.take_of_length_le, stepk, h01, hl0, hl1, hb] <;> with_reducible rfl)); (· (simp [go_sem, List.take_of_length_le, stepk, h01, hl0, hl1, hb])))
        | fail
      refine ⟨(k + 1, L ++ [(x, cuts[k], cuts[k + 1])]), ⟨by dsimp only; omega, by simp; omega, by simpa using hfold⟩, by dsimp only; omega, ?_⟩
      dsimp only
      rw [← nodes_snoc]
      exact Cov.ofn (nm [0, 4]) rfl (by simp [go_sem, List.take_of_length_le, ren, ren1, ren2, okr, okr1, okr2, ChkT, ChkN, BlkN, nf, grammarC, nodeC]) (by simp [go_sem, List.take_of_length_le, ren, ren1, ren2, okr, okr1, okr2, ChkT, ChkN, BlkN, nf, grammarC, nodeC])
  · have hlt : k = r.2.length := by simp at h; omega
    subst hlt
    rw [List.drop_length, nodesK, List.append_nil] at hfold
    subst hfold
    repeat' first
      | (refine Holds.condT ?_ ?_; (· (simp [go_sem, List.take_of_length_le] <;> with_reducible rfl)))
      | (refine Holds.condF ?_ ?_; (· (simp [go_sem, List.take_of_length_le] <;> with_reducible rfl)))
      | refine Holds.seq ?_
      | refine Holds.skip ?_
      | refine Holds.exit ?_
      | refine Holds.ret ?_
      | refine thenA_normal ?_
      | refine thenA_exit ?_
      | refine thenA_ret ?_
      | refine inB_normal ?_
      | refine inB_ret ?_
      | refine inB_here ?_
      | (refine inB_past ?_ ?_; (· exact rfl))
      | refine Holds.reg ?_
      | refine Holds.block ?_
      | refine GS.nil ?_
      | refine Gd.nil ?_
      | (refine Holds.any mixed ?_ ?_; (· kernel_rfl))
      | (refine GS.step (s' := ?_) ?_ ?_ ?_; rotate_left; (· exact rfl); (· (simp [go_sem, List.take_of_length_le] <;> with_reducible rfl)))
      | (refine GS.skip ?_ ?_ ?_; (· exact rfl); (· exact rfl))
      | (refine Gd.go (s' := ?_) ?_ ?_ ?_; rotate_left; (· exact rfl); (· (simp [go_sem, List.take_of_length_le] <;> with_reducible rfl)))
      | (refine Gd.skip ?_ ?_ ?_; (· exact rfl); (· exact rfl))
      | refine Gx.nil ?_
      | (refine Gx.go (s' := ?_) rfl ?_ ?_ ?_; rotate_left; (· exact rfl); (· (simp [go_sem, List.take_of_length_le] <;> with_reducible rfl)))
      | (refine Gx.skip rfl ?_ ?_ ?_; (· exact rfl); (· exact rfl))
      | (refine Gx.skipO rfl ?_ ?_ ?_; (· exact rfl); (· exact rfl))
      | (refine Gx.wo (s' := ?_) rfl ?_ ?_ ?_; rotate_left; (· exact rfl); (· (simp [go_sem, List.take_of_length_le] <;> with_reducible rfl)))
      | (refine Gx.skipW rfl ?_ ?_ ?_; (· exact rfl); (· exact rfl))
      | (refine Gx.skipH rfl ?_ ?_ ?_; (· exact rfl); (· exact rfl))
      | (refine Gx.hid (r := ?_) rfl ?_ ?_ ?_ ?_; rotate_left; (· exact rfl); (· exact rfl); (· (simp [go_sem, List.take_of_length_le] <;> with_reducible rfl)))
      | (refine Gx.wr (s' := ?_) rfl ?_ ?_ ?_ ?_; rotate_left; (· exact rfl); (· (simp [go_sem, List.take_of_length_le] <;> with_reducible rfl)); (· (simp [go_sem, List.take_of_length_le])))
      | fail
    refine Out.mk (xs := ?_) ?_ ?_ (by first | exact .inr rfl | exact .inl rfl)
    rotate_left
    · simp [go_sem, List.take_of_length_le] <;> with_reducible rfl
    exact Fz.all rfl rfl (by simp) rfl (nodes_ok _)
end Go.Proofs.Ytiabaknmgbpmoaa.En
end
section
namespace Go.Proofs.Ytiabaknmgbpmoaa.En
open Go.RowKit
set_option linter.unusedSimpArgs false
set_option linter.unusedVariables false
theorem szEs_wt : ∀ (es : List Edge3) (n : Int), 0 ≤ szEs n es → szEs n es + (wtL (fun e : Edge3 => e.2.2.length) es : Int) ≤ n
  | [], n, h => by simp [szEs, wtL]
  | e :: es, n, h => by
    unfold szEs at h ⊢
    split at h
    · omega
    · rename_i g
      rw [if_neg g]
      have h1 := less_wt (n := n) (k := e.2.2.length) (by omega)
      have h2 := szEs_wt es _ h
      simp only [wtL]; omega
theorem szForest_wt {n : Int} {x : ForestT} (h : 0 ≤ szForestF n x) : (wForest x : Int) ≤ 3 * n := by
  unfold szForestF szF at h
  split at h
  · omega
  · rename_i g
    have h1 := less_wt (n := n) (k := x.1.length) (by omega)
    unfold szEsAll at h
    split at h
    · omega
    · have h2 := szEs_wt x.2 _ h
      have e1 : wtL wNode x.1 = 3 * x.1.length := by rw [show wNode = fun _ => 3 from funext fun _ => rfl, wtL_const]
      have e2 : wtL wEdge x.2 = 2 * x.2.length + wtL (fun e : Edge3 => e.2.2.length) x.2 := by
        rw [show wEdge = fun e : Edge3 => (fun _ => 2) e + (fun y : Edge3 => y.2.2.length) e from funext fun e => by simp [wEdge], wtL_add, wtL_const]
      unfold wForest
      rw [e1, e2]
      omega
end Go.Proofs.Ytiabaknmgbpmoaa.En
end
section
namespace Go.Proofs.Ytiabaknmgbpmoaa.En
open Go.RowKit
set_option linter.unusedSimpArgs false
set_option linter.unusedVariables false
set_option maxHeartbeats 8000000
theorem rule_at {g : GrammarT} {e : Edge3} (h : inR e.2.1 0 ((g.2.2.length : Int) - 1) = true) : ∃ k : Nat, e.2.1 = k ∧ k < g.2.2.length ∧ g.2.2[k]? = some (ruleE g e) := by
  have h' : 0 ≤ e.2.1 ∧ e.2.1 ≤ (g.2.2.length : Int) - 1 := by simpa [inR] using h
  refine ⟨e.2.1.toNat, by omega, by omega, ?_⟩
  rw [ruleE, List.getD_eq_getElem?_getD, List.getElem?_eq_getElem (by omega)]; rfl
theorem l9Sized' (f : ForestT) : Pure Try.prog 54 [.ag (forestC f)] (.v (.bool (decide (f.1.length ≤ 600) && decide (f.2.length ≤ 600)))) := by
  refine Pure.mk (rs := [.tmp 2]) (nt := 13) Try.func54 (by kernel_rfl) rfl rfl rfl (by simp) ?_
  simp only [sl, forestC]
  by_cases h1 : f.1.length ≤ 600
  · have h1' : (f.1.length : Int) ≤ 600 := by omega
    by_cases h2 : f.2.length ≤ 600
    · have h2' : (f.2.length : Int) ≤ 600 := by omega
      simp only [h1, h2, decide_true, Bool.and_self]
      repeat' first
        | (refine Holds.condT ?_ ?_; (· (simp [go_sem, List.take_of_length_le, h1, h1', h2, h2'] <;> with_reducible rfl)))
        | (refine Holds.condF ?_ ?_; (· (simp [go_sem, List.take_of_length_le, h1, h1', h2, h2'] <;> with_reducible rfl)))
        | refine Holds.seq ?_
        | refine Holds.skip ?_
        | refine Holds.exit ?_
        | refine Holds.ret ?_
        | refine thenA_normal ?_
        | refine thenA_exit ?_
        | refine thenA_ret ?_
        | refine inB_normal ?_
        | refine inB_ret ?_
        | refine inB_here ?_
        | (refine inB_past ?_ ?_; (· exact rfl))
        | refine Holds.reg ?_
        | refine Holds.block ?_
        | refine GS.nil ?_
        | (refine GS.step (s' := ?_) ?_ ?_ ?_; rotate_left; (· exact rfl); (· (simp [go_sem, List.take_of_length_le, h1, h1', h2, h2'] <;> with_reducible rfl)))
        | (refine GS.skip ?_ ?_ ?_; (· exact rfl); (· exact rfl))
        | fail
      refine Out.mk (xs := ?_) ?_ ?_ (by first | exact .inr rfl | exact .inl rfl)
      rotate_left
      · simp [go_sem, List.take_of_length_le] <;> with_reducible rfl
      exact .v _
    · have h2' : ¬ (f.2.length : Int) ≤ 600 := by omega
      simp only [h1, h2, decide_true, decide_false, Bool.and_false]
      repeat' first
        | (refine Holds.condT ?_ ?_; (· (simp [go_sem, List.take_of_length_le, h1, h1', h2, h2'] <;> with_reducible rfl)))
        | (refine Holds.condF ?_ ?_; (· (simp [go_sem, List.take_of_length_le, h1, h1', h2, h2'] <;> with_reducible rfl)))
        | refine Holds.seq ?_
        | refine Holds.skip ?_
        | refine Holds.exit ?_
        | refine Holds.ret ?_
        | refine thenA_normal ?_
        | refine thenA_exit ?_
        | refine thenA_ret ?_
        | refine inB_normal ?_
        | refine inB_ret ?_
        | refine inB_here ?_
        | (refine inB_past ?_ ?_; (· exact rfl))
        | refine Holds.reg ?_
        | refine Holds.block ?_
        | refine GS.nil ?_
        | (refine GS.step (s' := ?_) ?_ ?_ ?_; rotate_left; (· exact rfl); (· (simp [go_sem, List.take_of_length_le, h1, h1', h2, h2'] <;> with_reducible rfl)))
        | (refine GS.skip ?_ ?_ ?_; (· exact rfl); (· exact rfl))
        | fail
      refine Out.mk (xs := ?_) ?_ ?_ (by first | exact .inr rfl | exact .inl rfl)
      rotate_left
      · simp [go_sem, List.take_of_length_le] <;> with_reducible rfl
      exact .v _
  · have h1' : ¬ (f.1.length : Int) ≤ 600 := by omega
    simp only [h1, decide_false, Bool.false_and]
    repeat' first
      | (refine Holds.condT ?_ ?_; (· (simp [go_sem, List.take_of_length_le, h1, h1'] <;> with_reducible rfl)))
      | (refine Holds.condF ?_ ?_; (· (simp [go_sem, List.take_of_length_le, h1, h1'] <;> with_reducible rfl)))
      | refine Holds.seq ?_
      | refine Holds.skip ?_
      | refine Holds.exit ?_
      | refine Holds.ret ?_
      | refine thenA_normal ?_
      | refine thenA_exit ?_
      | refine thenA_ret ?_
      | refine inB_normal ?_
      | refine inB_ret ?_
      | refine inB_here ?_
      | (refine inB_past ?_ ?_; (· exact rfl))
      | refine Holds.reg ?_
      | refine Holds.block ?_
      | refine GS.nil ?_
      | (refine GS.step (s' := ?_) ?_ ?_ ?_; rotate_left; (· exact rfl); (· (simp [go_sem, List.take_of_length_le, h1, h1'] <;> with_reducible rfl)))
      | (refine GS.skip ?_ ?_ ?_; (· exact rfl); (· exact rfl))
      | fail
    refine Out.mk (xs := ?_) ?_ ?_ (by first | exact .inr rfl | exact .inl rfl)
    rotate_left
    · simp [go_sem, List.take_of_length_le] <;> with_reducible rfl
    exact .v _
theorem l9Children (g : GrammarT) (hg : goodG g = true) (f : ForestT) (e : Edge3) (hn : f.1.length ≤ 600) (hc : e.2.2.length < 35184372088832) : Pure Try.prog 55 [.ag (grammarC g), .ag (forestC f), .ag (edgeC e)] (.tu [.im 1 (ints (kidsE g f e).1), .v (.bool (kidsE g f e).2)]) := by
  have hG : g.2.2.length ≤ 16 := by simp only [goodG, Bool.and_eq_true, decide_eq_true_eq] at hg; exact hg.1.2
  have hw : wr64 ((g.2.2.length : Int) - 1) = (g.2.2.length : Int) - 1 := wr64_id (by omega) (by omega)
  have c1 := l1In e.2.1 0 ((g.2.2.length : Int) - 1)
  unfold kidsE
  refine Pure.mk (rs := [.tmp 6, .tmp 7]) (nt := 58) Try.func55 (by kernel_rfl) rfl rfl rfl (by simp) ?_
  simp only [sl, grammarC, forestC, edgeC]
  repeat' first
    | (refine Holds.condT ?_ ?_; (· (simp [go_sem, List.take_of_length_le, hw] <;> with_reducible rfl)))
    | (refine Holds.condF ?_ ?_; (· (simp [go_sem, List.take_of_length_le, hw] <;> with_reducible rfl)))
    | refine Holds.seq ?_
    | refine Holds.skip ?_
    | refine Holds.exit ?_
    | refine Holds.ret ?_
    | refine thenA_normal ?_
    | refine thenA_exit ?_
    | refine thenA_ret ?_
    | refine inB_normal ?_
    | refine inB_ret ?_
    | refine inB_here ?_
    | (refine inB_past ?_ ?_; (· exact rfl))
    | refine Holds.reg ?_
    | refine Holds.block ?_
    | refine GS.nil ?_
    | refine Gd.nil ?_
    | (refine Holds.any mixed ?_ ?_; (· kernel_rfl))
    | (refine GS.step (s' := ?_) ?_ ?_ ?_; rotate_left; (· exact rfl); (· (simp [go_sem, List.take_of_length_le, hw] <;> with_reducible rfl)))
    | (refine GS.skip ?_ ?_ ?_; (· exact rfl); (· exact rfl))
    | (refine Gd.go (s' := ?_) ?_ ?_ ?_; rotate_left; (· exact rfl); (· (simp [go_sem, List.take_of_length_le, hw] <;> with_reducible rfl)))
    | (refine Gd.skip ?_ ?_ ?_; (· exact rfl); (· exact rfl))
    | fail
  cases hi : inR e.2.1 0 ((g.2.2.length : Int) - 1) with
  | false =>
    rw [hi] at c1
    first | refine GS.cc (c1) rfl rfl rfl rfl (by simp [go_sem, List.take_of_length_le] <;> with_reducible rfl) rfl (by simp [go_sem, List.take_of_length_le]) ?_ | refine Gd.cc (c1) rfl rfl rfl rfl (by simp [go_sem, List.take_of_length_le] <;> with_reducible rfl) rfl (by simp [go_sem, List.take_of_length_le]) ?_
    repeat' first
      | (refine Holds.condT ?_ ?_; (· (simp [go_sem, List.take_of_length_le] <;> with_reducible rfl)))
      | (refine Holds.condF ?_ ?_; (· (simp [go_sem, List.take_of_length_le] <;> with_reducible rfl)))
      | refine Holds.seq ?_
      | refine Holds.skip ?_
      | refine Holds.exit ?_
      | refine Holds.ret ?_
      | refine thenA_normal ?_
      | refine thenA_exit ?_
      | refine thenA_ret ?_
      | refine inB_normal ?_
      | refine inB_ret ?_
      | refine inB_here ?_
      | (refine inB_past ?_ ?_; (· exact rfl))
      | refine Holds.reg ?_
      | refine Holds.block ?_
      | refine GS.nil ?_
      | refine Gd.nil ?_
      | (refine Holds.any mixed ?_ ?_; (· kernel_rfl))
      | (refine GS.step (s' := ?_) ?_ ?_ ?_; rotate_left; (· exact rfl); (· (simp [go_sem, List.take_of_length_le] <;> with_reducible rfl)))
      | (refine GS.skip ?_ ?_ ?_; (· exact rfl); (· exact rfl))
      | (refine Gd.go (s' := ?_) ?_ ?_ ?_; rotate_left; (· exact rfl); (· (simp [go_sem, List.take_of_length_le] <;> with_reducible rfl)))
      | (refine Gd.skip ?_ ?_ ?_; (· exact rfl); (· exact rfl))
      | fail
    refine Out.mk (xs := ?_) ?_ ?_ (by first | exact .inr rfl | exact .inl rfl)
    rotate_left
    · simp [go_sem, List.take_of_length_le] <;> with_reducible rfl
    exact Fz.tuL (.cons (.nl 1) (.cons (.v _) .nil))
  | true =>
    rw [hi] at c1
    obtain ⟨k0, hk0, hkl, hr⟩ := rule_at hi
    have hr4 := (good_r4 hg hr).2
    generalize ruleE g e = r at hr hr4 ⊢
    obtain ⟨eN, eR, cuts⟩ := e
    dsimp only at hk0 hc c1 ⊢
    subst hk0
    have hw1 : wr64 ((r.2.length : Int) + 1) = ((r.2.length + 1 : Nat) : Int) := wr64_id (by omega) (by omega)
    by_cases hcl : cuts.length = r.2.length + 1
    · have hcl' : (cuts.length : Int) = ((r.2.length + 1 : Nat) : Int) := by omega
      simp only [hcl, decide_true, Bool.true_and, if_true]
      first | refine GS.cc (c1) rfl rfl rfl rfl (by simp [go_sem, List.take_of_length_le] <;> with_reducible rfl) rfl (by simp [go_sem, List.take_of_length_le]) ?_ | refine Gd.cc (c1) rfl rfl rfl rfl (by simp [go_sem, List.take_of_length_le] <;> with_reducible rfl) rfl (by simp [go_sem, List.take_of_length_le]) ?_
      repeat' first
        | (refine Holds.condT ?_ ?_; (· (simp [go_sem, List.take_of_length_le, hr, ruleC, hw1, hcl, hcl'] <;> with_reducible rfl)))
        | (refine Holds.condF ?_ ?_; (· (simp [go_sem, List.take_of_length_le, hr, ruleC, hw1, hcl, hcl'] <;> with_reducible rfl)))
        | refine Holds.seq ?_
        | refine Holds.skip ?_
        | refine Holds.exit ?_
        | refine Holds.ret ?_
        | refine thenA_normal ?_
        | refine thenA_exit ?_
        | refine thenA_ret ?_
        | refine inB_normal ?_
        | refine inB_ret ?_
        | refine inB_here ?_
        | (refine inB_past ?_ ?_; (· exact rfl))
        | refine Holds.reg ?_
        | refine Holds.block ?_
        | refine GS.nil ?_
        | refine Gd.nil ?_
        | (refine Holds.any mixed ?_ ?_; (· kernel_rfl))
        | (refine GS.step (s' := ?_) ?_ ?_ ?_; rotate_left; (· exact rfl); (· (simp [go_sem, List.take_of_length_le, hr, ruleC, hw1, hcl, hcl'] <;> with_reducible rfl)))
        | (refine GS.skip ?_ ?_ ?_; (· exact rfl); (· exact rfl))
        | (refine Gd.go (s' := ?_) ?_ ?_ ?_; rotate_left; (· exact rfl); (· (simp [go_sem, List.take_of_length_le, hr, ruleC, hw1, hcl, hcl'] <;> with_reducible rfl)))
        | (refine Gd.skip ?_ ?_ ?_; (· exact rfl); (· exact rfl))
        | fail
      have ck := l9Kids g (k0 : Int) cuts rfl hr hr4 hcl
      have hkl2 := nodesK_len cuts r.2 0
      generalize nodesK cuts 0 r.2 = ks at ck hkl2 ⊢
      first | refine GS.cc (ck) rfl rfl rfl rfl (by simp [go_sem, List.take_of_length_le, grammarC] <;> with_reducible rfl) rfl (by simp [go_sem, List.take_of_length_le, grammarC]) ?_ | refine Gd.cc (ck) rfl rfl rfl rfl (by simp [go_sem, List.take_of_length_le, grammarC] <;> with_reducible rfl) rfl (by simp [go_sem, List.take_of_length_le, grammarC]) ?_
      generalize hR : findK f.1 ks [] = R
      repeat' first
        | (refine Holds.condT ?_ ?_; (· (simp [go_sem, List.take_of_length_le] <;> with_reducible rfl)))
        | (refine Holds.condF ?_ ?_; (· (simp [go_sem, List.take_of_length_le] <;> with_reducible rfl)))
        | refine Holds.seq ?_
        | refine Holds.skip ?_
        | refine Holds.exit ?_
        | refine Holds.ret ?_
        | refine thenA_normal ?_
        | refine thenA_exit ?_
        | refine thenA_ret ?_
        | refine inB_normal ?_
        | refine inB_ret ?_
        | refine inB_here ?_
        | (refine inB_past ?_ ?_; (· exact rfl))
        | refine Holds.reg ?_
        | refine Holds.block ?_
        | refine GS.nil ?_
        | refine Gd.nil ?_
        | (refine Holds.any mixed ?_ ?_; (· kernel_rfl))
        | (refine GS.step (s' := ?_) ?_ ?_ ?_; rotate_left; (· exact rfl); (· (simp [go_sem, List.take_of_length_le] <;> with_reducible rfl)))
        | (refine GS.skip ?_ ?_ ?_; (· exact rfl); (· exact rfl))
        | (refine Gd.go (s' := ?_) ?_ ?_ ?_; rotate_left; (· exact rfl); (· (simp [go_sem, List.take_of_length_le] <;> with_reducible rfl)))
        | (refine Gd.skip ?_ ?_ ?_; (· exact rfl); (· exact rfl))
        | fail
      refine Holds.niw 8 3 1 rfl ?_
      refine Holds.loop (ι := Nat × List Int) (fun i => ⟨[(4, .pb 1 2 0 0), (8, .own 3 1 0 i.2.length), (40, .im 3 (nodes ks)), (41, .v (.int .i64 ks.length)), (42, .v (.int .i64 i.1))], [(3, ⟨3, 1, ints i.2⟩), (1, ⟨51, 2, [forestC f]⟩)], 4⟩)
        (fun i => i.1 ≤ ks.length ∧ i.2.length ≤ i.1 ∧ findK f.1 (ks.drop i.1) i.2 = R) (fun i => ks.length - i.1) (0, []) ⟨Nat.zero_le _, Nat.le_refl _, hR⟩ ?_ ?_
      · exact Cov.ofn (id) rfl (by simp [go_sem, List.take_of_length_le, ren, ren1, ren2, okr, okr1, okr2, ChkT, ChkN, BlkN, nf, niw, forestC]) (by simp [go_sem, List.take_of_length_le, ren, ren1, ren2, okr, okr1, okr2, ChkT, ChkN, BlkN, nf, niw, forestC])
      rintro ⟨k, L⟩ ⟨hk, hL, hfold⟩
      dsimp only at hk hL hfold ⊢
      have stepk : wr64 ((k : Int) + 1) = ((k + 1 : Nat) : Int) := wr64_id (by omega) (by omega)
      repeat' first
        | (refine Holds.condT ?_ ?_; (· (simp [go_sem, List.take_of_length_le] <;> with_reducible rfl)))
        | (refine Holds.condF ?_ ?_; (· (simp [go_sem, List.take_of_length_le] <;> with_reducible rfl)))
        | refine Holds.seq ?_
        | refine Holds.skip ?_
        | refine Holds.exit ?_
        | refine Holds.ret ?_
        | refine thenA_normal ?_
        | refine thenA_exit ?_
        | refine thenA_ret ?_
        | refine inB_normal ?_
        | refine inB_ret ?_
        | refine inB_here ?_
        | (refine inB_past ?_ ?_; (· exact rfl))
        | refine Holds.reg ?_
        | refine Holds.block ?_
        | refine GS.nil ?_
        | refine Gd.nil ?_
        | (refine Holds.any mixed ?_ ?_; (· kernel_rfl))
        | (refine GS.step (s' := ?_) ?_ ?_ ?_; rotate_left; (· exact rfl); (· (simp [go_sem, List.take_of_length_le] <;> with_reducible rfl)))
        | (refine GS.skip ?_ ?_ ?_; (· exact rfl); (· exact rfl))
        | (refine Gd.go (s' := ?_) ?_ ?_ ?_; rotate_left; (· exact rfl); (· (simp [go_sem, List.take_of_length_le] <;> with_reducible rfl)))
        | (refine Gd.skip ?_ ?_ ?_; (· exact rfl); (· exact rfl))
        | fail
      refine Holds.cond rfl (fun h => ?_) (fun h => ?_)
      · have hlt : k < ks.length := by simp at h; omega
        have hxi : ks[k]? = some ks[k] := List.getElem?_eq_getElem hlt
        generalize ks[k] = x at hxi
        rw [findK_drop L hxi] at hfold
        have ca := l9At f.1 x (by omega)
        generalize fstX f.1 x 0 = q at ca hfold
        repeat' first
          | (refine Holds.condT ?_ ?_; (· (simp [go_sem, List.take_of_length_le, hxi, nodeC, forestC] <;> with_reducible rfl)))
          | (refine Holds.condF ?_ ?_; (· (simp [go_sem, List.take_of_length_le, hxi, nodeC, forestC] <;> with_reducible rfl)))
          | refine Holds.seq ?_
          | refine Holds.skip ?_
          | refine Holds.exit ?_
          | refine Holds.ret ?_
          | refine thenA_normal ?_
          | refine thenA_exit ?_
          | refine thenA_ret ?_
          | refine inB_normal ?_
          | refine inB_ret ?_
          | refine inB_here ?_
          | (refine inB_past ?_ ?_; (· exact rfl))
          | refine Holds.reg ?_
          | refine Holds.block ?_
          | refine GS.nil ?_
          | refine Gd.nil ?_
          | (refine Holds.any mixed ?_ ?_; (· kernel_rfl))
          | (refine GS.step (s' := ?_) ?_ ?_ ?_; rotate_left; (· exact rfl); (· (simp [go_sem, List.take_of_length_le, hxi, nodeC, forestC] <;> with_reducible rfl)))
          | (refine GS.skip ?_ ?_ ?_; (· exact rfl); (· exact rfl))
          | (refine Gd.go (s' := ?_) ?_ ?_ ?_; rotate_left; (· exact rfl); (· (simp [go_sem, List.take_of_length_le, hxi, nodeC, forestC] <;> with_reducible rfl)))
          | (refine Gd.skip ?_ ?_ ?_; (· exact rfl); (· exact rfl))
          | fail
        first | refine GS.cc (ca) rfl rfl rfl rfl (by simp [go_sem, List.take_of_length_le, nodeC] <;> with_reducible rfl) rfl (by simp [go_sem, List.take_of_length_le, nodeC]) ?_ | refine Gd.cc (ca) rfl rfl rfl rfl (by simp [go_sem, List.take_of_length_le, nodeC] <;> with_reducible rfl) rfl (by simp [go_sem, List.take_of_length_le, nodeC]) ?_
        have hb : (L.length + 1) * 8 ≤ 140737488355328 := by omega
        by_cases hq : q < 0
        · rw [if_pos hq] at hfold
          subst hfold
          repeat' first
            | (refine Holds.condT ?_ ?_; (· (simp [go_sem, List.take_of_length_le, hq] <;> with_reducible rfl)))
            | (refine Holds.condF ?_ ?_; (· (simp [go_sem, List.take_of_length_le, hq] <;> with_reducible rfl)))
            | refine Holds.seq ?_
            | refine Holds.skip ?_
            | refine Holds.exit ?_
            | refine Holds.ret ?_
            | refine thenA_normal ?_
            | refine thenA_exit ?_
            | refine thenA_ret ?_
            | refine inB_normal ?_
            | refine inB_ret ?_
            | refine inB_here ?_
            | (refine inB_past ?_ ?_; (· exact rfl))
            | refine Holds.reg ?_
            | refine Holds.block ?_
            | refine GS.nil ?_
            | refine Gd.nil ?_
            | (refine Holds.any mixed ?_ ?_; (· kernel_rfl))
            | (refine GS.step (s' := ?_) ?_ ?_ ?_; rotate_left; (· exact rfl); (· (simp [go_sem, List.take_of_length_le, hq] <;> with_reducible rfl)))
            | (refine GS.skip ?_ ?_ ?_; (· exact rfl); (· exact rfl))
            | (refine Gd.go (s' := ?_) ?_ ?_ ?_; rotate_left; (· exact rfl); (· (simp [go_sem, List.take_of_length_le, hq] <;> with_reducible rfl)))
            | (refine Gd.skip ?_ ?_ ?_; (· exact rfl); (· exact rfl))
            | fail
          refine Out.mk (xs := ?_) ?_ ?_ (by first | exact .inr rfl | exact .inl rfl)
          rotate_left
          · simp [go_sem, List.take_of_length_le] <;> with_reducible rfl
          exact Fz.tuL (.cons (.nl 1) (.cons (.v _) .nil))
        · rw [if_neg hq] at hfold
          repeat' first
            | (refine Holds.condT ?_ ?_; (· (simp [go_sem, List.take_of_length_le, hq, hb] <;> with_reducible rfl)))
            | (refine Holds.condF ?_ ?_; (· (simp [go_sem, List.take_of_length_le, hq, hb] <;> with_reducible rfl)))
            | refine Holds.seq ?_
            | refine Holds.skip ?_
            | refine Holds.exit ?_
            | refine Holds.ret ?_
            | refine thenA_normal ?_
            | refine thenA_exit ?_
            | refine thenA_ret ?_
            | refine inB_normal ?_
            | refine inB_ret ?_
            | refine inB_here ?_
            | (refine inB_past ?_ ?_; (· exact rfl))
            | refine Holds.reg ?_
            | refine Holds.block ?_
            | refine GS.nil ?_
            | refine Gd.nil ?_
            | (refine Holds.any mixed ?_ ?_; (· kernel_rfl))
            | (refine GS.step (s' := ?_) ?_ ?_ ?_; rotate_left; (· exact rfl); (· (simp [go_sem, List.take_of_length_le, hq, hb] <;> with_reducible rfl)))
            | (refine GS.skip ?_ ?_ ?_; (· exact rfl); (· exact rfl))
            | (refine Gd.go (s' := ?_) ?_ ?_ ?_; rotate_left; (· exact rfl); (· (simp [go_sem, List.take_of_length_le, hq, hb] <;> with_reducible rfl)))
            | (refine Gd.skip ?_ ?_ ?_; (· exact rfl); (· exact rfl))
            | fail
          refine ⟨(k + 1, L ++ [q]), ⟨by dsimp only; omega, by simp; omega, hfold⟩, by dsimp only; omega, ?_⟩
          rw [stepk]
          exact Cov.ofn (nm [0, 1, 2, 7]) rfl (by simp [go_sem, List.take_of_length_le, ren, ren1, ren2, okr, okr1, okr2, ChkT, ChkN, BlkN, nf, forestC, ints_snoc]) (by simp [go_sem, List.take_of_length_le, ren, ren1, ren2, okr, okr1, okr2, ChkT, ChkN, BlkN, nf, forestC, ints_snoc])
      · have hlt : k = ks.length := by simp at h; omega
        subst hlt
        rw [List.drop_length, findK] at hfold
        subst hfold
        repeat' first
          | (refine Holds.condT ?_ ?_; (· (simp [go_sem, List.take_of_length_le] <;> with_reducible rfl)))
          | (refine Holds.condF ?_ ?_; (· (simp [go_sem, List.take_of_length_le] <;> with_reducible rfl)))
          | refine Holds.seq ?_
          | refine Holds.skip ?_
          | refine Holds.exit ?_
          | refine Holds.ret ?_
          | refine thenA_normal ?_
          | refine thenA_exit ?_
          | refine thenA_ret ?_
          | refine inB_normal ?_
          | refine inB_ret ?_
          | refine inB_here ?_
          | (refine inB_past ?_ ?_; (· exact rfl))
          | refine Holds.reg ?_
          | refine Holds.block ?_
          | refine GS.nil ?_
          | refine Gd.nil ?_
          | (refine Holds.any mixed ?_ ?_; (· kernel_rfl))
          | (refine GS.step (s' := ?_) ?_ ?_ ?_; rotate_left; (· exact rfl); (· (simp [go_sem, List.take_of_length_le] <;> with_reducible rfl)))
          | (refine GS.skip ?_ ?_ ?_; (· exact rfl); (· exact rfl))
          | (refine Gd.go (s' := ?_) ?_ ?_ ?_; rotate_left; (· exact rfl); (· (simp [go_sem, List.take_of_length_le] <;> with_reducible rfl)))
          | (refine Gd.skip ?_ ?_ ?_; (· exact rfl); (· exact rfl))
          | fail
        refine Out.mk (xs := ?_) ?_ ?_ (by first | exact .inr rfl | exact .inl rfl)
        rotate_left
        · simp [go_sem, List.take_of_length_le] <;> with_reducible rfl
        exact Fz.tuL (.cons (Fz.all rfl rfl (by simp) rfl (ints_cl _)) (.cons (.v _) .nil))
    · have hcl' : ((cuts.length : Int) != (r.2.length : Int) + 1) = true := by simp; omega
      simp only [hcl, decide_false, Bool.and_false]
      first | refine GS.cc (c1) rfl rfl rfl rfl (by simp [go_sem, List.take_of_length_le] <;> with_reducible rfl) rfl (by simp [go_sem, List.take_of_length_le]) ?_ | refine Gd.cc (c1) rfl rfl rfl rfl (by simp [go_sem, List.take_of_length_le] <;> with_reducible rfl) rfl (by simp [go_sem, List.take_of_length_le]) ?_
      repeat' first
        | (refine Holds.condT ?_ ?_; (· (simp [go_sem, List.take_of_length_le, hr, ruleC, hw1, hcl, hcl'] <;> with_reducible rfl)))
        | (refine Holds.condF ?_ ?_; (· (simp [go_sem, List.take_of_length_le, hr, ruleC, hw1, hcl, hcl'] <;> with_reducible rfl)))
        | refine Holds.seq ?_
        | refine Holds.skip ?_
        | refine Holds.exit ?_
        | refine Holds.ret ?_
        | refine thenA_normal ?_
        | refine thenA_exit ?_
        | refine thenA_ret ?_
        | refine inB_normal ?_
        | refine inB_ret ?_
        | refine inB_here ?_
        | (refine inB_past ?_ ?_; (· exact rfl))
        | refine Holds.reg ?_
        | refine Holds.block ?_
        | refine GS.nil ?_
        | refine Gd.nil ?_
        | (refine Holds.any mixed ?_ ?_; (· kernel_rfl))
        | (refine GS.step (s' := ?_) ?_ ?_ ?_; rotate_left; (· exact rfl); (· (simp [go_sem, List.take_of_length_le, hr, ruleC, hw1, hcl, hcl'] <;> with_reducible rfl)))
        | (refine GS.skip ?_ ?_ ?_; (· exact rfl); (· exact rfl))
        | (refine Gd.go (s' := ?_) ?_ ?_ ?_; rotate_left; (· exact rfl); (· (simp [go_sem, List.take_of_length_le, hr, ruleC, hw1, hcl, hcl'] <;> with_reducible rfl)))
        | (refine Gd.skip ?_ ?_ ?_; (· exact rfl); (· exact rfl))
        | fail
      refine Out.mk (xs := ?_) ?_ ?_ (by first | exact .inr rfl | exact .inl rfl)
      rotate_left
      · simp [go_sem, List.take_of_length_le] <;> with_reducible rfl
      exact Fz.tuL (.cons (.nl 1) (.cons (.v _) .nil))
end Go.Proofs.Ytiabaknmgbpmoaa.En
end
section
namespace Go.Proofs.Ytiabaknmgbpmoaa.En
open Go.RowKit
set_option linter.unusedSimpArgs false
set_option linter.unusedVariables false
set_option maxHeartbeats 8000000
theorem implKids (g : GrammarT) (hg : goodG g = true) (f : ForestT) (e : Edge3) (hn : f.1.length ≤ 600) (hc : e.2.2.length < 35184372088832) : Fn Try.prog 103 0 [.ag (grammarC g), .ag (forestC f), .ag (edgeC e)] [] (.tu [.own 0 1 0 (kidsE g f e).1.length, .v (.bool (kidsE g f e).2)]) 1 [(0, ⟨3, 1, ints (kidsE g f e).1⟩)] := by
  have hG : g.2.2.length ≤ 16 := by simp only [goodG, Bool.and_eq_true, decide_eq_true_eq] at hg; exact hg.1.2
  have hw : wr64 ((g.2.2.length : Int) - 1) = (g.2.2.length : Int) - 1 := wr64_id (by omega) (by omega)
  have c1 := implIn e.2.1 0 ((g.2.2.length : Int) - 1)
  unfold kidsE
  refine Fn.mk (rs := [.tmp 6, .tmp 7]) (nt := 75) Try.func103 (by kernel_rfl) rfl rfl rfl (by simp) ?_
  simp only [sl, grammarC, forestC, edgeC]
  repeat' first
    | (refine Holds.condT ?_ ?_; (· (simp [go_sem, List.take_of_length_le, hw] <;> with_reducible rfl)))
    | (refine Holds.condF ?_ ?_; (· (simp [go_sem, List.take_of_length_le, hw] <;> with_reducible rfl)))
    | refine Holds.seq ?_
    | refine Holds.skip ?_
    | refine Holds.exit ?_
    | refine Holds.ret ?_
    | refine thenA_normal ?_
    | refine thenA_exit ?_
    | refine thenA_ret ?_
    | refine inB_normal ?_
    | refine inB_ret ?_
    | refine inB_here ?_
    | (refine inB_past ?_ ?_; (· exact rfl))
    | refine Holds.reg ?_
    | refine Holds.block ?_
    | refine GS.nil ?_
    | refine Gd.nil ?_
    | (refine Holds.any mixed ?_ ?_; (· kernel_rfl))
    | (refine GS.step (s' := ?_) ?_ ?_ ?_; rotate_left; (· exact rfl); (· (simp [go_sem, List.take_of_length_le, hw] <;> with_reducible rfl)))
    | (refine GS.skip ?_ ?_ ?_; (· exact rfl); (· exact rfl))
    | (refine Gd.go (s' := ?_) ?_ ?_ ?_; rotate_left; (· exact rfl); (· (simp [go_sem, List.take_of_length_le, hw] <;> with_reducible rfl)))
    | (refine Gd.skip ?_ ?_ ?_; (· exact rfl); (· exact rfl))
    | fail
  cases hi : inR e.2.1 0 ((g.2.2.length : Int) - 1) with
  | false =>
    rw [hi] at c1
    simp only [Bool.false_and, Bool.false_eq_true, if_false]
    first | refine GS.cc (c1) rfl rfl rfl rfl (by simp [go_sem, List.take_of_length_le] <;> with_reducible rfl) rfl (by simp [go_sem, List.take_of_length_le]) ?_ | refine Gd.cc (c1) rfl rfl rfl rfl (by simp [go_sem, List.take_of_length_le] <;> with_reducible rfl) rfl (by simp [go_sem, List.take_of_length_le]) ?_
    repeat' first
      | (refine Holds.condT ?_ ?_; (· (simp [go_sem, List.take_of_length_le] <;> with_reducible rfl)))
      | (refine Holds.condF ?_ ?_; (· (simp [go_sem, List.take_of_length_le] <;> with_reducible rfl)))
      | refine Holds.seq ?_
      | refine Holds.skip ?_
      | refine Holds.exit ?_
      | refine Holds.ret ?_
      | refine thenA_normal ?_
      | refine thenA_exit ?_
      | refine thenA_ret ?_
      | refine inB_normal ?_
      | refine inB_ret ?_
      | refine inB_here ?_
      | (refine inB_past ?_ ?_; (· exact rfl))
      | refine Holds.reg ?_
      | refine Holds.block ?_
      | refine GS.nil ?_
      | refine Gd.nil ?_
      | (refine Holds.any mixed ?_ ?_; (· kernel_rfl))
      | (refine GS.step (s' := ?_) ?_ ?_ ?_; rotate_left; (· exact rfl); (· (simp [go_sem, List.take_of_length_le] <;> with_reducible rfl)))
      | (refine GS.skip ?_ ?_ ?_; (· exact rfl); (· exact rfl))
      | (refine Gd.go (s' := ?_) ?_ ?_ ?_; rotate_left; (· exact rfl); (· (simp [go_sem, List.take_of_length_le] <;> with_reducible rfl)))
      | (refine Gd.skip ?_ ?_ ?_; (· exact rfl); (· exact rfl))
      | fail
    refine OutF.cov (Cov.niw (t := 6) 3 1 rfl) ?_
    refine OutF.mkn (xs := ?_) (nm [3]) ?_ ?_ ?_ ?_ ?_ (by first | exact .inr rfl | exact .inl rfl)
    rotate_left
    · simp [go_sem, List.take_of_length_le, niw] <;> with_reducible rfl
    · simp [go_sem, List.take_of_length_le, ren, ren1, ren2, okr, okr1, okr2, ChkN, BlkN, List.range_succ, nf, niw]
    · simp [go_sem, List.take_of_length_le, ren, ren1, ren2, okr, okr1, okr2, ChkN, BlkN, List.range_succ, nf, niw]
    · simp [go_sem, List.take_of_length_le, ren, ren1, ren2, okr, okr1, okr2, ChkN, BlkN, List.range_succ, nf, niw]
    · rfl
  | true =>
    rw [hi] at c1
    obtain ⟨k0, hk0, hkl, hr⟩ := rule_at hi
    have hr4 := (good_r4 hg hr).2
    generalize ruleE g e = r at hr hr4 ⊢
    obtain ⟨eN, eR, cuts⟩ := e
    dsimp only at hk0 hc c1 ⊢
    subst hk0
    have hw1 : wr64 ((r.2.length : Int) + 1) = ((r.2.length + 1 : Nat) : Int) := wr64_id (by omega) (by omega)
    by_cases hcl : cuts.length = r.2.length + 1
    · have hcl' : (cuts.length : Int) = ((r.2.length + 1 : Nat) : Int) := by omega
      simp only [hcl, decide_true, Bool.true_and, if_true]
      first | refine GS.cc (c1) rfl rfl rfl rfl (by simp [go_sem, List.take_of_length_le] <;> with_reducible rfl) rfl (by simp [go_sem, List.take_of_length_le]) ?_ | refine Gd.cc (c1) rfl rfl rfl rfl (by simp [go_sem, List.take_of_length_le] <;> with_reducible rfl) rfl (by simp [go_sem, List.take_of_length_le]) ?_
      generalize hR : findK f.1 (nodesK cuts 0 r.2) [] = R
      repeat' first
        | (refine Holds.condT ?_ ?_; (· (simp [go_sem, List.take_of_length_le, hr, ruleC, hw1, hcl, hcl'] <;> with_reducible rfl)))
        | (refine Holds.condF ?_ ?_; (· (simp [go_sem, List.take_of_length_le, hr, ruleC, hw1, hcl, hcl'] <;> with_reducible rfl)))
        | refine Holds.seq ?_
        | refine Holds.skip ?_
        | refine Holds.exit ?_
        | refine Holds.ret ?_
        | refine thenA_normal ?_
        | refine thenA_exit ?_
        | refine thenA_ret ?_
        | refine inB_normal ?_
        | refine inB_ret ?_
        | refine inB_here ?_
        | (refine inB_past ?_ ?_; (· exact rfl))
        | refine Holds.reg ?_
        | refine Holds.block ?_
        | refine GS.nil ?_
        | refine Gd.nil ?_
        | (refine Holds.any mixed ?_ ?_; (· kernel_rfl))
        | (refine GS.step (s' := ?_) ?_ ?_ ?_; rotate_left; (· exact rfl); (· (simp [go_sem, List.take_of_length_le, hr, ruleC, hw1, hcl, hcl'] <;> with_reducible rfl)))
        | (refine GS.skip ?_ ?_ ?_; (· exact rfl); (· exact rfl))
        | (refine Gd.go (s' := ?_) ?_ ?_ ?_; rotate_left; (· exact rfl); (· (simp [go_sem, List.take_of_length_le, hr, ruleC, hw1, hcl, hcl'] <;> with_reducible rfl)))
        | (refine Gd.skip ?_ ?_ ?_; (· exact rfl); (· exact rfl))
        | fail
      refine Holds.loop (ι := Nat × List Int) (fun i => ⟨[(4, .pb 1 2 0 0), (5, .pb 2 3 0 0), (6, .v (.slice none 0 0)), (8, .own 3 1 0 i.2.length), (42, .im 1 (ints r.2)), (43, .v (.int .i64 r.2.length)), (44, .v (.int .i64 i.1))], [(3, ⟨3, 1, ints i.2⟩), (2, ⟨97, 3, [[.v (.int .i64 eN), .v (.int .i64 (k0 : Int)), .im 1 (ints cuts)]]⟩), (1, ⟨51, 2, [forestC f]⟩)], 4⟩)
        (fun i => i.1 ≤ r.2.length ∧ i.2.length ≤ i.1 ∧ findK f.1 (nodesK cuts i.1 (r.2.drop i.1)) i.2 = R) (fun i => r.2.length - i.1) (0, []) ⟨Nat.zero_le _, Nat.le_refl _, hR⟩ ?_ ?_
      · exact Cov.ofn (id) rfl (by simp [go_sem, List.take_of_length_le, ren, ren1, ren2, okr, okr1, okr2, ChkT, ChkN, BlkN, nf, forestC]) (by simp [go_sem, List.take_of_length_le, ren, ren1, ren2, okr, okr1, okr2, ChkT, ChkN, BlkN, nf, forestC])
      rintro ⟨k, L⟩ ⟨hk, hL, hfold⟩
      dsimp only at hk hL hfold ⊢
      have stepk : wr64 ((k : Int) + 1) = ((k + 1 : Nat) : Int) := wr64_id (by omega) (by omega)
      repeat' first
        | (refine Holds.condT ?_ ?_; (· (simp [go_sem, List.take_of_length_le] <;> with_reducible rfl)))
        | (refine Holds.condF ?_ ?_; (· (simp [go_sem, List.take_of_length_le] <;> with_reducible rfl)))
        | refine Holds.seq ?_
        | refine Holds.skip ?_
        | refine Holds.exit ?_
        | refine Holds.ret ?_
        | refine thenA_normal ?_
        | refine thenA_exit ?_
        | refine thenA_ret ?_
        | refine inB_normal ?_
        | refine inB_ret ?_
        | refine inB_here ?_
        | (refine inB_past ?_ ?_; (· exact rfl))
        | refine Holds.reg ?_
        | refine Holds.block ?_
        | refine GS.nil ?_
        | refine Gd.nil ?_
        | (refine Holds.any mixed ?_ ?_; (· kernel_rfl))
        | (refine GS.step (s' := ?_) ?_ ?_ ?_; rotate_left; (· exact rfl); (· (simp [go_sem, List.take_of_length_le] <;> with_reducible rfl)))
        | (refine GS.skip ?_ ?_ ?_; (· exact rfl); (· exact rfl))
        | (refine Gd.go (s' := ?_) ?_ ?_ ?_; rotate_left; (· exact rfl); (· (simp [go_sem, List.take_of_length_le] <;> with_reducible rfl)))
        | (refine Gd.skip ?_ ?_ ?_; (· exact rfl); (· exact rfl))
        | fail
      refine Holds.cond rfl (fun h => ?_) (fun h => ?_)
      · have hlt : k < r.2.length := by simp at h; omega
        have hxi : r.2[k]? = some r.2[k] := List.getElem?_eq_getElem hlt
        generalize r.2[k] = x at hxi
        rw [nodesK_drop hxi] at hfold
        by_cases hx : x < 0
        · rw [if_pos hx] at hfold
          repeat' first
            | (refine Holds.condT ?_ ?_; (· (simp [go_sem, List.take_of_length_le, hxi, hx] <;> with_reducible rfl)))
            | (refine Holds.condF ?_ ?_; (· (simp [go_sem, List.take_of_length_le, hxi, hx] <;> with_reducible rfl)))
            | refine Holds.seq ?_
            | refine Holds.skip ?_
            | refine Holds.exit ?_
            | refine Holds.ret ?_
            | refine thenA_normal ?_
            | refine thenA_exit ?_
            | refine thenA_ret ?_
            | refine inB_normal ?_
            | refine inB_ret ?_
            | refine inB_here ?_
            | (refine inB_past ?_ ?_; (· exact rfl))
            | refine Holds.reg ?_
            | refine Holds.block ?_
            | refine GS.nil ?_
            | refine Gd.nil ?_
            | (refine Holds.any mixed ?_ ?_; (· kernel_rfl))
            | (refine GS.step (s' := ?_) ?_ ?_ ?_; rotate_left; (· exact rfl); (· (simp [go_sem, List.take_of_length_le, hxi, hx] <;> with_reducible rfl)))
            | (refine GS.skip ?_ ?_ ?_; (· exact rfl); (· exact rfl))
            | (refine Gd.go (s' := ?_) ?_ ?_ ?_; rotate_left; (· exact rfl); (· (simp [go_sem, List.take_of_length_le, hxi, hx] <;> with_reducible rfl)))
            | (refine Gd.skip ?_ ?_ ?_; (· exact rfl); (· exact rfl))
            | fail
          refine ⟨(k + 1, L), ⟨by dsimp only; omega, by dsimp only; omega, hfold⟩, by dsimp only; omega, ?_⟩
          rw [stepk]
          exact Cov.ofn (id) rfl (by simp [go_sem, List.take_of_length_le, ren, ren1, ren2, okr, okr1, okr2, ChkT, ChkN, BlkN, nf, forestC]) (by simp [go_sem, List.take_of_length_le, ren, ren1, ren2, okr, okr1, okr2, ChkT, ChkN, BlkN, nf, forestC])
        · rw [if_neg hx] at hfold
          have hl0 : k < cuts.length := by omega
          have hl1 : k + 1 < cuts.length := by omega
          have h01 : (0 : Int) ≤ (k : Int) + 1 := by omega
          rw [show cuts.getD k 0 = cuts[k] by simp [hl0], show cuts.getD (k + 1) 0 = cuts[k + 1] by simp [hl1], findK] at hfold
          have ca := indexNode f.1 (x, cuts[k], cuts[k + 1]) (by omega)
          generalize fstX f.1 (x, cuts[k], cuts[k + 1]) 0 = q at ca hfold
          repeat' first
            | (refine Holds.condT ?_ ?_; (· (simp [go_sem, List.take_of_length_le, hxi, hx] <;> with_reducible rfl)))
            | (refine Holds.condF ?_ ?_; (· (simp [go_sem, List.take_of_length_le, hxi, hx] <;> with_reducible rfl)))
            | refine Holds.seq ?_
            | refine Holds.skip ?_
            | refine Holds.exit ?_
            | refine Holds.ret ?_
            | refine thenA_normal ?_
            | refine thenA_exit ?_
            | refine thenA_ret ?_
            | refine inB_normal ?_
            | refine inB_ret ?_
            | refine inB_here ?_
            | (refine inB_past ?_ ?_; (· exact rfl))
            | refine Holds.reg ?_
            | refine Holds.block ?_
            | refine GS.nil ?_
            | refine Gd.nil ?_
            | (refine GS.step (s' := ?_) ?_ ?_ ?_; rotate_left; (· exact rfl); (· (simp [go_sem, List.take_of_length_le, hxi, hx] <;> with_reducible rfl)))
            | (refine GS.skip ?_ ?_ ?_; (· exact rfl); (· exact rfl))
            | (refine Gd.go (s' := ?_) ?_ ?_ ?_; rotate_left; (· exact rfl); (· (simp [go_sem, List.take_of_length_le, hxi, hx] <;> with_reducible rfl)))
            | (refine Gd.skip ?_ ?_ ?_; (· exact rfl); (· exact rfl))
            | fail
          refine Holds.anx [14] [0, 1] (fun n => decide (4 ≤ n)) mixed ?_ ?_ ?_; (· kernel_rfl); (· kernel_rfl)
          repeat' first
            | (refine Holds.condT ?_ ?_; (· (simp [go_sem, List.take_of_length_le, stepk, h01, hl0, hl1, forestC] <;> with_reducible rfl)))
            | (refine Holds.condF ?_ ?_; (· (simp [go_sem, List.take_of_length_le, stepk, h01, hl0, hl1, forestC] <;> with_reducible rfl)))
            | refine Holds.seq ?_
            | refine Holds.skip ?_
            | refine Holds.exit ?_
            | refine Holds.ret ?_
            | refine thenA_normal ?_
            | refine thenA_exit ?_
            | refine thenA_ret ?_
            | refine inB_normal ?_
            | refine inB_ret ?_
            | refine inB_here ?_
            | (refine inB_past ?_ ?_; (· exact rfl))
            | refine Holds.reg ?_
            | refine Holds.block ?_
            | refine GS.nil ?_
            | refine Gd.nil ?_
            | (refine GS.step (s' := ?_) ?_ ?_ ?_; rotate_left; (· exact rfl); (· (simp [go_sem, List.take_of_length_le, stepk, h01, hl0, hl1, forestC] <;> with_reducible rfl)))
            | (refine GS.skip ?_ ?_ ?_; (· exact rfl); (· exact rfl))
            | (refine Gd.go (s' := ?_) ?_ ?_ ?_; rotate_left; (· exact rfl); (· (simp [go_sem, List.take_of_length_le, stepk, h01, hl0, hl1, forestC] <;> with_reducible rfl)))
            | (refine Gd.skip ?_ ?_ ?_; (· exact rfl); (· exact rfl))
            | refine Gx.nil ?_
            | (refine Gx.go (s' := ?_) rfl ?_ ?_ ?_; rotate_left; (· exact rfl); (· (simp [go_sem, List.take_of_length_le, stepk, h01, hl0, hl1, forestC] <;> with_reducible rfl)))
            | (refine Gx.skip rfl ?_ ?_ ?_; (· exact rfl); (· exact rfl))
            | (refine Gx.skipO rfl ?_ ?_ ?_; (· exact rfl); (· exact rfl))
            | (refine Gx.wo (s' := ?_) rfl ?_ ?_ ?_; rotate_left; (· exact rfl); (· (simp [go_sem, List.take_of_length_le, stepk, h01, hl0, hl1, forestC] <;> with_reducible rfl)))
            | (refine Gx.skipW rfl ?_ ?_ ?_; (· exact rfl); (· exact rfl))
            | (refine Gx.skipH rfl ?_ ?_ ?_; (· exact rfl); (· exact rfl))
            | (refine Gx.hid (r := ?_) rfl ?_ ?_ ?_ ?_; rotate_left; (· exact rfl); (· exact rfl); (· (simp [go_sem, List.take_of_length_le, stepk, h01, hl0, hl1, forestC] <;> with_reducible rfl)))
            | (refine Gx.wr (s' := ?_) rfl ?_ ?_ ?_ ?_; rotate_left; (· exact rfl); (· (simp [go_sem, List.take_of_length_le, stepk, h01, hl0, hl1, forestC] <;> with_reducible rfl)); (· (simp [go_sem, List.take_of_length_le, stepk, h01, hl0, hl1, forestC])))
            | fail
          first | refine GS.cc (ca) rfl rfl rfl rfl (by simp [go_sem, List.take_of_length_le, nodeC] <;> with_reducible rfl) rfl (by simp [go_sem, List.take_of_length_le, nodeC]) ?_ | refine Gd.cc (ca) rfl rfl rfl rfl (by simp [go_sem, List.take_of_length_le, nodeC] <;> with_reducible rfl) rfl (by simp [go_sem, List.take_of_length_le, nodeC]) ?_ | refine Gx.cc (ca) rfl rfl rfl rfl rfl (by simp [go_sem, List.take_of_length_le, nodeC] <;> with_reducible rfl) rfl (by simp [go_sem, List.take_of_length_le, nodeC]) ?_
          have hb : (L.length + 1) * 8 ≤ 140737488355328 := by omega
          by_cases hq : q < 0
          · rw [if_pos hq] at hfold
            subst hfold
            repeat' first
              | (refine Holds.condT ?_ ?_; (· (simp [go_sem, List.take_of_length_le, hq] <;> with_reducible rfl)))
              | (refine Holds.condF ?_ ?_; (· (simp [go_sem, List.take_of_length_le, hq] <;> with_reducible rfl)))
              | refine Holds.seq ?_
              | refine Holds.skip ?_
              | refine Holds.exit ?_
              | refine Holds.ret ?_
              | refine thenA_normal ?_
              | refine thenA_exit ?_
              | refine thenA_ret ?_
              | refine inB_normal ?_
              | refine inB_ret ?_
              | refine inB_here ?_
              | (refine inB_past ?_ ?_; (· exact rfl))
              | refine Holds.reg ?_
              | refine Holds.block ?_
              | refine GS.nil ?_
              | refine Gd.nil ?_
              | (refine Holds.any mixed ?_ ?_; (· kernel_rfl))
              | (refine GS.step (s' := ?_) ?_ ?_ ?_; rotate_left; (· exact rfl); (· (simp [go_sem, List.take_of_length_le, hq] <;> with_reducible rfl)))
              | (refine GS.skip ?_ ?_ ?_; (· exact rfl); (· exact rfl))
              | (refine Gd.go (s' := ?_) ?_ ?_ ?_; rotate_left; (· exact rfl); (· (simp [go_sem, List.take_of_length_le, hq] <;> with_reducible rfl)))
              | (refine Gd.skip ?_ ?_ ?_; (· exact rfl); (· exact rfl))
              | refine Gx.nil ?_
              | (refine Gx.go (s' := ?_) rfl ?_ ?_ ?_; rotate_left; (· exact rfl); (· (simp [go_sem, List.take_of_length_le, hq] <;> with_reducible rfl)))
              | (refine Gx.skip rfl ?_ ?_ ?_; (· exact rfl); (· exact rfl))
              | (refine Gx.skipO rfl ?_ ?_ ?_; (· exact rfl); (· exact rfl))
              | (refine Gx.wo (s' := ?_) rfl ?_ ?_ ?_; rotate_left; (· exact rfl); (· (simp [go_sem, List.take_of_length_le, hq] <;> with_reducible rfl)))
              | (refine Gx.skipW rfl ?_ ?_ ?_; (· exact rfl); (· exact rfl))
              | (refine Gx.skipH rfl ?_ ?_ ?_; (· exact rfl); (· exact rfl))
              | (refine Gx.hid (r := ?_) rfl ?_ ?_ ?_ ?_; rotate_left; (· exact rfl); (· exact rfl); (· (simp [go_sem, List.take_of_length_le, hq] <;> with_reducible rfl)))
              | (refine Gx.wr (s' := ?_) rfl ?_ ?_ ?_ ?_; rotate_left; (· exact rfl); (· (simp [go_sem, List.take_of_length_le, hq] <;> with_reducible rfl)); (· (simp [go_sem, List.take_of_length_le, hq])))
              | fail
            refine OutF.cov (Cov.niw (t := 6) 3 1 rfl) ?_
            refine OutF.mkn (xs := ?_) (nm [4]) ?_ ?_ ?_ ?_ ?_ (by first | exact .inr rfl | exact .inl rfl)
            rotate_left
            · simp [go_sem, List.take_of_length_le, niw] <;> with_reducible rfl
            · simp [go_sem, List.take_of_length_le, ren, ren1, ren2, okr, okr1, okr2, ChkN, BlkN, List.range_succ, nf, niw]
            · simp [go_sem, List.take_of_length_le, ren, ren1, ren2, okr, okr1, okr2, ChkN, BlkN, List.range_succ, nf, niw]
            · simp [go_sem, List.take_of_length_le, ren, ren1, ren2, okr, okr1, okr2, ChkN, BlkN, List.range_succ, nf, niw]
            · rfl
          · rw [if_neg hq] at hfold
            repeat' first
              | (refine Holds.condT ?_ ?_; (· (simp [go_sem, List.take_of_length_le, hq, hb, stepk] <;> with_reducible rfl)))
              | (refine Holds.condF ?_ ?_; (· (simp [go_sem, List.take_of_length_le, hq, hb, stepk] <;> with_reducible rfl)))
              | refine Holds.seq ?_
              | refine Holds.skip ?_
              | refine Holds.exit ?_
              | refine Holds.ret ?_
              | refine thenA_normal ?_
              | refine thenA_exit ?_
              | refine thenA_ret ?_
              | refine inB_normal ?_
              | refine inB_ret ?_
              | refine inB_here ?_
              | (refine inB_past ?_ ?_; (· exact rfl))
              | refine Holds.reg ?_
              | refine Holds.block ?_
              | refine GS.nil ?_
              | refine Gd.nil ?_
              | (refine Holds.any mixed ?_ ?_; (· kernel_rfl))
              | (refine GS.step (s' := ?_) ?_ ?_ ?_; rotate_left; (· exact rfl); (· (simp [go_sem, List.take_of_length_le, hq, hb, stepk] <;> with_reducible rfl)))
              | (refine GS.skip ?_ ?_ ?_; (· exact rfl); (· exact rfl))
              | (refine Gd.go (s' := ?_) ?_ ?_ ?_; rotate_left; (· exact rfl); (· (simp [go_sem, List.take_of_length_le, hq, hb, stepk] <;> with_reducible rfl)))
              | (refine Gd.skip ?_ ?_ ?_; (· exact rfl); (· exact rfl))
              | refine Gx.nil ?_
              | (refine Gx.go (s' := ?_) rfl ?_ ?_ ?_; rotate_left; (· exact rfl); (· (simp [go_sem, List.take_of_length_le, hq, hb, stepk] <;> with_reducible rfl)))
              | (refine Gx.skip rfl ?_ ?_ ?_; (· exact rfl); (· exact rfl))
              | (refine Gx.skipO rfl ?_ ?_ ?_; (· exact rfl); (· exact rfl))
              | (refine Gx.wo (s' := ?_) rfl ?_ ?_ ?_; rotate_left; (· exact rfl); (· (simp [go_sem, List.take_of_length_le, hq, hb, stepk] <;> with_reducible rfl)))
              | (refine Gx.skipW rfl ?_ ?_ ?_; (· exact rfl); (· exact rfl))
              | (refine Gx.skipH rfl ?_ ?_ ?_; (· exact rfl); (· exact rfl))
              | (refine Gx.hid (r := ?_) rfl ?_ ?_ ?_ ?_; rotate_left; (· exact rfl); (· exact rfl); (· (simp [go_sem, List.take_of_length_le, hq, hb, stepk] <;> with_reducible rfl)))
              | (refine Gx.wr (s' := ?_) rfl ?_ ?_ ?_ ?_; rotate_left; (· exact rfl); (· (simp [go_sem, List.take_of_length_le, hq, hb, stepk] <;> with_reducible rfl)); (· (simp [go_sem, List.take_of_length_le, hq, hb, stepk])))
              | fail
            refine ⟨(k + 1, L ++ [q]), ⟨by dsimp only; omega, by simp; omega, hfold⟩, by dsimp only; omega, ?_⟩
            exact Cov.ofn (nm [0, 1, 2, 6]) rfl (by simp [go_sem, List.take_of_length_le, ren, ren1, ren2, okr, okr1, okr2, ChkT, ChkN, BlkN, nf, forestC, ints_snoc]) (by simp [go_sem, List.take_of_length_le, ren, ren1, ren2, okr, okr1, okr2, ChkT, ChkN, BlkN, nf, forestC, ints_snoc])
      · have hlt : k = r.2.length := by simp at h; omega
        subst hlt
        rw [List.drop_length, nodesK, findK] at hfold
        subst hfold
        repeat' first
          | (refine Holds.condT ?_ ?_; (· (simp [go_sem, List.take_of_length_le] <;> with_reducible rfl)))
          | (refine Holds.condF ?_ ?_; (· (simp [go_sem, List.take_of_length_le] <;> with_reducible rfl)))
          | refine Holds.seq ?_
          | refine Holds.skip ?_
          | refine Holds.exit ?_
          | refine Holds.ret ?_
          | refine thenA_normal ?_
          | refine thenA_exit ?_
          | refine thenA_ret ?_
          | refine inB_normal ?_
          | refine inB_ret ?_
          | refine inB_here ?_
          | (refine inB_past ?_ ?_; (· exact rfl))
          | refine Holds.reg ?_
          | refine Holds.block ?_
          | refine GS.nil ?_
          | refine Gd.nil ?_
          | (refine Holds.any mixed ?_ ?_; (· kernel_rfl))
          | (refine GS.step (s' := ?_) ?_ ?_ ?_; rotate_left; (· exact rfl); (· (simp [go_sem, List.take_of_length_le] <;> with_reducible rfl)))
          | (refine GS.skip ?_ ?_ ?_; (· exact rfl); (· exact rfl))
          | (refine Gd.go (s' := ?_) ?_ ?_ ?_; rotate_left; (· exact rfl); (· (simp [go_sem, List.take_of_length_le] <;> with_reducible rfl)))
          | (refine Gd.skip ?_ ?_ ?_; (· exact rfl); (· exact rfl))
          | refine Gx.nil ?_
          | (refine Gx.go (s' := ?_) rfl ?_ ?_ ?_; rotate_left; (· exact rfl); (· (simp [go_sem, List.take_of_length_le] <;> with_reducible rfl)))
          | (refine Gx.skip rfl ?_ ?_ ?_; (· exact rfl); (· exact rfl))
          | (refine Gx.skipO rfl ?_ ?_ ?_; (· exact rfl); (· exact rfl))
          | (refine Gx.wo (s' := ?_) rfl ?_ ?_ ?_; rotate_left; (· exact rfl); (· (simp [go_sem, List.take_of_length_le] <;> with_reducible rfl)))
          | (refine Gx.skipW rfl ?_ ?_ ?_; (· exact rfl); (· exact rfl))
          | (refine Gx.skipH rfl ?_ ?_ ?_; (· exact rfl); (· exact rfl))
          | (refine Gx.hid (r := ?_) rfl ?_ ?_ ?_ ?_; rotate_left; (· exact rfl); (· exact rfl); (· (simp [go_sem, List.take_of_length_le] <;> with_reducible rfl)))
          | (refine Gx.wr (s' := ?_) rfl ?_ ?_ ?_ ?_; rotate_left; (· exact rfl); (· (simp [go_sem, List.take_of_length_le] <;> with_reducible rfl)); (· (simp [go_sem, List.take_of_length_le])))
          | fail
        refine OutF.mkn (xs := ?_) (nm [3]) ?_ ?_ ?_ ?_ ?_ (by first | exact .inr rfl | exact .inl rfl)
        rotate_left
        · simp [go_sem, List.take_of_length_le] <;> with_reducible rfl
        · simp [go_sem, List.take_of_length_le, ren, ren1, ren2, okr, okr1, okr2, ChkN, BlkN, List.range_succ, nf]
        · simp [go_sem, List.take_of_length_le, ren, ren1, ren2, okr, okr1, okr2, ChkN, BlkN, List.range_succ, nf]
        · simp [go_sem, List.take_of_length_le, ren, ren1, ren2, okr, okr1, okr2, ChkN, BlkN, List.range_succ, nf]
        · rfl
    · have hcl' : ((cuts.length : Int) != (r.2.length : Int) + 1) = true := by simp; omega
      simp only [hcl, decide_false, Bool.and_false, Bool.false_eq_true, if_false]
      first | refine GS.cc (c1) rfl rfl rfl rfl (by simp [go_sem, List.take_of_length_le] <;> with_reducible rfl) rfl (by simp [go_sem, List.take_of_length_le]) ?_ | refine Gd.cc (c1) rfl rfl rfl rfl (by simp [go_sem, List.take_of_length_le] <;> with_reducible rfl) rfl (by simp [go_sem, List.take_of_length_le]) ?_ | refine Gx.cc (c1) rfl rfl rfl rfl rfl (by simp [go_sem, List.take_of_length_le] <;> with_reducible rfl) rfl (by simp [go_sem, List.take_of_length_le]) ?_
      repeat' first
        | (refine Holds.condT ?_ ?_; (· (simp [go_sem, List.take_of_length_le, hr, ruleC, hw1, hcl, hcl'] <;> with_reducible rfl)))
        | (refine Holds.condF ?_ ?_; (· (simp [go_sem, List.take_of_length_le, hr, ruleC, hw1, hcl, hcl'] <;> with_reducible rfl)))
        | refine Holds.seq ?_
        | refine Holds.skip ?_
        | refine Holds.exit ?_
        | refine Holds.ret ?_
        | refine thenA_normal ?_
        | refine thenA_exit ?_
        | refine thenA_ret ?_
        | refine inB_normal ?_
        | refine inB_ret ?_
        | refine inB_here ?_
        | (refine inB_past ?_ ?_; (· exact rfl))
        | refine Holds.reg ?_
        | refine Holds.block ?_
        | refine GS.nil ?_
        | refine Gd.nil ?_
        | (refine Holds.any mixed ?_ ?_; (· kernel_rfl))
        | (refine GS.step (s' := ?_) ?_ ?_ ?_; rotate_left; (· exact rfl); (· (simp [go_sem, List.take_of_length_le, hr, ruleC, hw1, hcl, hcl'] <;> with_reducible rfl)))
        | (refine GS.skip ?_ ?_ ?_; (· exact rfl); (· exact rfl))
        | (refine Gd.go (s' := ?_) ?_ ?_ ?_; rotate_left; (· exact rfl); (· (simp [go_sem, List.take_of_length_le, hr, ruleC, hw1, hcl, hcl'] <;> with_reducible rfl)))
        | (refine Gd.skip ?_ ?_ ?_; (· exact rfl); (· exact rfl))
        | refine Gx.nil ?_
        | (refine Gx.go (s' := ?_) rfl ?_ ?_ ?_; rotate_left; (· exact rfl); (· (simp [go_sem, List.take_of_length_le, hr, ruleC, hw1, hcl, hcl'] <;> with_reducible rfl)))
        | (refine Gx.skip rfl ?_ ?_ ?_; (· exact rfl); (· exact rfl))
        | (refine Gx.skipO rfl ?_ ?_ ?_; (· exact rfl); (· exact rfl))
        | (refine Gx.wo (s' := ?_) rfl ?_ ?_ ?_; rotate_left; (· exact rfl); (· (simp [go_sem, List.take_of_length_le, hr, ruleC, hw1, hcl, hcl'] <;> with_reducible rfl)))
        | (refine Gx.skipW rfl ?_ ?_ ?_; (· exact rfl); (· exact rfl))
        | (refine Gx.skipH rfl ?_ ?_ ?_; (· exact rfl); (· exact rfl))
        | (refine Gx.hid (r := ?_) rfl ?_ ?_ ?_ ?_; rotate_left; (· exact rfl); (· exact rfl); (· (simp [go_sem, List.take_of_length_le, hr, ruleC, hw1, hcl, hcl'] <;> with_reducible rfl)))
        | (refine Gx.wr (s' := ?_) rfl ?_ ?_ ?_ ?_; rotate_left; (· exact rfl); (· (simp [go_sem, List.take_of_length_le, hr, ruleC, hw1, hcl, hcl'] <;> with_reducible rfl)); (· (simp [go_sem, List.take_of_length_le, hr, ruleC, hw1, hcl, hcl'])))
        | fail
      refine OutF.cov (Cov.niw (t := 6) 3 1 rfl) ?_
      refine OutF.mkn (xs := ?_) (nm [3]) ?_ ?_ ?_ ?_ ?_ (by first | exact .inr rfl | exact .inl rfl)
      rotate_left
      · simp [go_sem, List.take_of_length_le, niw] <;> with_reducible rfl
      · simp [go_sem, List.take_of_length_le, ren, ren1, ren2, okr, okr1, okr2, ChkN, BlkN, List.range_succ, nf, niw]
      · simp [go_sem, List.take_of_length_le, ren, ren1, ren2, okr, okr1, okr2, ChkN, BlkN, List.range_succ, nf, niw]
      · simp [go_sem, List.take_of_length_le, ren, ren1, ren2, okr, okr1, okr2, ChkN, BlkN, List.range_succ, nf, niw]
      · rfl
end Go.Proofs.Ytiabaknmgbpmoaa.En
end
section
namespace Go.Proofs.Ytiabaknmgbpmoaa.En
open Go.RowKit
set_option linter.unusedSimpArgs false
set_option linter.unusedVariables false
set_option maxHeartbeats 8000000
theorem edge_at {f : ForestT} {edge : Int} (h : inR edge 0 ((f.2.length : Int) - 1) = true) : ∃ k : Nat, edge = k ∧ k < f.2.length ∧ f.2[k]? = some (f.2.getD edge.toNat (0, 0, [])) := by
  have h' : 0 ≤ edge ∧ edge ≤ (f.2.length : Int) - 1 := by simpa [inR] using h
  refine ⟨edge.toNat, by omega, by omega, ?_⟩
  rw [List.getD_eq_getElem?_getD, List.getElem?_eq_getElem (by omega)]; rfl
end Go.Proofs.Ytiabaknmgbpmoaa.En
end
section
namespace Go.Proofs.Ytiabaknmgbpmoaa.En
open Go.RowKit
set_option linter.unusedSimpArgs false
set_option linter.unusedVariables false
set_option maxHeartbeats 4000000
def done4 (d : DoneT) : List Int := [d.1, d.2.1, d.2.2.1, d.2.2.2]
theorem done4_ext {a b : DoneT} : done4 a = done4 b ↔ a = b := by
  obtain ⟨a1, a2, a3, a4⟩ := a
  obtain ⟨b1, b2, b3, b4⟩ := b
  simp [done4]
/-- Are these steps those of a wave? -/
def waveOk (n : Nat) : Nat → List (Nat × Bool) → List DoneT → Bool
  | long, hs, [] => (((readyL n long hs).length : Int) == 0)
  | long, hs, d :: ds => hasN (readyL n long hs) d.1 && decide ((stepS n long hs d.1.toNat).1 = d) && waveOk n (goLong long (stepS n long hs d.1.toNat).2) (goHs (stepS n long hs d.1.toNat).2) ds
theorem idxs_mem {α : Type} (p : α → Bool) : ∀ (xs : List α) (k : Nat) (z : Int), z ∈ idxs p k xs → ∃ j : Nat, z = ((k + j : Nat) : Int) ∧ j < xs.length
  | [], k, z, h => by simp [idxs] at h
  | x :: xs, k, z, h => by
    have key : z ∈ idxs p (k + 1) xs → ∃ j : Nat, z = ((k + j : Nat) : Int) ∧ j < (x :: xs).length := fun h => by
      obtain ⟨j, h1, h2⟩ := idxs_mem p xs (k + 1) z h
      exact ⟨j + 1, by rw [h1]; congr 1; omega, by simpa using h2⟩
    unfold idxs at h
    split at h
    · rcases List.mem_cons.1 h with rfl | h
      · exact ⟨0, by simp, by simp⟩
      · exact key h
    · exact key h
theorem hasN_mem {xs : List Int} {n : Int} (h : hasN xs n = true) : n ∈ xs := by simpa [hasN] using h
theorem ready_lt {n long : Nat} {hs : List (Nat × Bool)} {z : Int} (h : hasN (readyL n long hs) z = true) : ∃ k : Nat, z = k ∧ k < hs.length := by
  obtain ⟨j, h1, h2⟩ := idxs_mem _ _ _ _ (hasN_mem h)
  exact ⟨j, by simpa using h1, h2⟩
/-- What hands keep to. -/
def okHs (H : Nat) (hs : List (Nat × Bool)) : Prop := hs.length = H ∧ ∀ h ∈ hs, h.1 ≤ 11
theorem okHs.step {H n long k : Nat} {hs : List (Nat × Bool)} (h : okHs H hs) (hn : n ≤ 10) (hk : k < hs.length) : okHs H (stepS n long hs k).2 := by
  have hg : hs.getD k (0, false) = hs[k] := by simp [hk]
  have h0 := h.2 _ (List.getElem_mem hk)
  unfold stepS
  rw [hg]
  dsimp only
  split
  · rename_i hc
    have h3 : hs[k].1 ≤ hs[k].1 * hs.length := Nat.le_mul_of_pos_right _ (by omega)
    refine ⟨by simpa using h.1, fun x hx => ?_⟩
    rcases List.mem_or_eq_of_mem_set hx with g | rfl
    · exact h.2 x g
    · show hs[k].1 + 1 ≤ 11
      omega
  · refine ⟨by simpa using h.1, fun x hx => ?_⟩
    rcases List.mem_or_eq_of_mem_set hx with g | rfl
    · exact h.2 x g
    · exact h0
theorem okHs.go {H : Nat} {hs : List (Nat × Bool)} (h : okHs H hs) : okHs H (goHs hs) := by
  unfold goHs
  split
  · exact ⟨by simpa using h.1, fun x hx => by rw [List.mem_map] at hx; obtain ⟨_, _, rfl⟩ := hx; exact Nat.zero_le _⟩
  · exact h
theorem goLong_le (long : Nat) (hs : List (Nat × Bool)) : goLong long hs ≤ long + 1 := by unfold goLong; split <;> omega
def startHs (H : Nat) : List (Nat × Bool) := List.replicate H (0, false)
theorem okHs.start (H : Nat) : okHs H (startHs H) := ⟨by simp [startHs], fun x hx => by simp [startHs] at hx; rw [hx.2]; exact Nat.zero_le _⟩
def isWaveV (n m : Int) (log : List DoneT) : Bool × Bool :=
  if inR n 0 10 && inR m 1 4 && decide (log.length ≤ 200) then (waveOk n.toNat 1 (startHs m.toNat) log, true) else (false, false)
end Go.Proofs.Ytiabaknmgbpmoaa.En
end
section
namespace Go.Proofs.Ytiabaknmgbpmoaa.En
open Go.RowKit
set_option linter.unusedSimpArgs false
set_option linter.unusedVariables false
set_option maxHeartbeats 8000000
def fillB (i n : Nat) : List Bool := List.replicate i true ++ List.replicate (n - i) false
theorem fillB_len {i n : Nat} (h : i ≤ n) : (fillB i n).length = n := by simp [fillB]; omega
theorem fillB_set {i n : Nat} (h : i < n) : (fillB i n).set i true = fillB (i + 1) n := by
  unfold fillB
  rw [List.set_append_right _ _ (by simp), List.length_replicate, Nat.sub_self, show n - i = (n - (i + 1)) + 1 by omega, List.replicate_succ, List.set_cons_zero, List.replicate_succ']
  simp
theorem fillB_end (n : Nat) : fillB n n = List.replicate n true := by simp [fillB]
theorem LeftI.zero (G : List (List Int)) : LeftI G (List.replicate G.length true) [] :=
  ⟨by simp, fun k hk => by simp [List.getElem?_replicate, hk], fun i u hi => by simp at hi⟩
theorem noneLeft_next {left : List Bool} {l : List Int} {j v : Nat} {b : Bool} (h : l[j]? = some (v : Int)) (hv : left[v]? = some b) : noneLeft left (l.take (j + 1)) = (noneLeft left (l.take j) && !b) := by
  simp [noneLeft, List.take_add_one, h, hv]
theorem noneLeft_app (left : List Bool) (a b : List Int) : noneLeft left (a ++ b) = (noneLeft left a && noneLeft left b) := by simp [noneLeft]
theorem kidsOver_next {g : GrammarT} {f : ForestT} {is : List Int} {a q : Nat} {e : Edge3} (h : is[a]? = some (q : Int)) (he : f.2[q]? = some e) : kidsOver g f (is.take (a + 1)) = kidsOver g f (is.take a) ++ (kidsE g f e).1 := by
  simp [kidsOver, List.take_add_one, h, he]
theorem any_idAt {xs : List Bool} {i : Nat} (h : xs[i]? = some true) : xs.any id = true := List.any_eq_true.2 ⟨true, List.mem_of_getElem? h, rfl⟩
theorem l9Round (g : GrammarT) (hg : goodG g = true) (f : ForestT) (hn : f.1.length ≤ 600) (hm : f.2.length ≤ 600) (hc : ∀ e ∈ f.2, e.2.2.length < 35184372088832) (hok : ∀ e ∈ f.2, okE g f e = true) : Pure Try.prog 56 [.ag (grammarC g), .ag (forestC f)] (.v (.bool (cycB (graphF g f f.2)))) := by
  have hGl := graphF_len g f f.2
  have hrg := graphF_rg g f f.2
  have hko : ∀ k, k < f.1.length → kidsOver g f (edgeIdx f k) = (graphF g f f.2).getD k [] := fun k hk => kidsOver_graph hok hk
  generalize graphF g f f.2 = G at hGl hrg hko ⊢
  have hz := LeftI.zero G
  rw [hGl] at hz
  refine Pure.mk (rs := [.tmp 4]) (nt := 89) Try.func56 (by kernel_rfl) rfl rfl rfl (by simp) ?_
  simp only [sl, grammarC, forestC]
  have hn0 : (0 : Int) ≤ (f.1.length : Int) := by omega
  have hn8 : (f.1.length : Int) ≤ 281474976710656 := by omega
  repeat' first
    | (refine Holds.condT ?_ ?_; (· (simp [go_sem, List.take_of_length_le, hn0, hn8] <;> with_reducible rfl)))
    | (refine Holds.condF ?_ ?_; (· (simp [go_sem, List.take_of_length_le, hn0, hn8] <;> with_reducible rfl)))
    | refine Holds.seq ?_
    | refine Holds.skip ?_
    | refine Holds.exit ?_
    | refine Holds.ret ?_
    | refine thenA_normal ?_
    | refine thenA_exit ?_
    | refine thenA_ret ?_
    | refine inB_normal ?_
    | refine inB_ret ?_
    | refine inB_here ?_
    | (refine inB_past ?_ ?_; (· exact rfl))
    | refine Holds.reg ?_
    | refine Holds.block ?_
    | refine GS.nil ?_
    | refine Gd.nil ?_
    | (refine Holds.any mixed ?_ ?_; (· kernel_rfl))
    | (refine GS.step (s' := ?_) ?_ ?_ ?_; rotate_left; (· exact rfl); (· (simp [go_sem, List.take_of_length_le, hn0, hn8] <;> with_reducible rfl)))
    | (refine GS.skip ?_ ?_ ?_; (· exact rfl); (· exact rfl))
    | (refine Gd.go (s' := ?_) ?_ ?_ ?_; rotate_left; (· exact rfl); (· (simp [go_sem, List.take_of_length_le, hn0, hn8] <;> with_reducible rfl)))
    | (refine Gd.skip ?_ ?_ ?_; (· exact rfl); (· exact rfl))
    | fail
  refine Holds.loop (ι := Nat) (fun i => ⟨[(2, .pb 0 3 0 0), (3, .pb 1 2 0 0), (5, .own 2 1 0 f.1.length), (23, .v (.int .i64 f.1.length)), (24, .v (.int .i64 i))], [(2, ⟨4, 1, bools (fillB i f.1.length)⟩), (1, ⟨51, 2, [forestC f]⟩), (0, ⟨31, 3, [grammarC g]⟩)], 3⟩)
    (fun i => i ≤ f.1.length) (fun i => f.1.length - i) 0 (Nat.zero_le _) ?_ ?_
  · exact Cov.ofn (id) rfl (by simp [go_sem, List.take_of_length_le, ren, ren1, ren2, okr, okr1, okr2, ChkT, ChkN, BlkN, nf, grammarC, forestC, fillB]) (by simp [go_sem, List.take_of_length_le, ren, ren1, ren2, okr, okr1, okr2, ChkT, ChkN, BlkN, nf, grammarC, forestC, fillB])
  intro i hi
  have stepi : wr64 ((i : Int) + 1) = ((i + 1 : Nat) : Int) := wr64_id (by omega) (by omega)
  have hfl := fillB_len hi
  repeat' first
    | (refine Holds.condT ?_ ?_; (· (simp [go_sem, List.take_of_length_le] <;> with_reducible rfl)))
    | (refine Holds.condF ?_ ?_; (· (simp [go_sem, List.take_of_length_le] <;> with_reducible rfl)))
    | refine Holds.seq ?_
    | refine Holds.skip ?_
    | refine Holds.exit ?_
    | refine Holds.ret ?_
    | refine thenA_normal ?_
    | refine thenA_exit ?_
    | refine thenA_ret ?_
    | refine inB_normal ?_
    | refine inB_ret ?_
    | refine inB_here ?_
    | (refine inB_past ?_ ?_; (· exact rfl))
    | refine Holds.reg ?_
    | refine Holds.block ?_
    | refine GS.nil ?_
    | refine Gd.nil ?_
    | (refine Holds.any mixed ?_ ?_; (· kernel_rfl))
    | (refine GS.step (s' := ?_) ?_ ?_ ?_; rotate_left; (· exact rfl); (· (simp [go_sem, List.take_of_length_le] <;> with_reducible rfl)))
    | (refine GS.skip ?_ ?_ ?_; (· exact rfl); (· exact rfl))
    | (refine Gd.go (s' := ?_) ?_ ?_ ?_; rotate_left; (· exact rfl); (· (simp [go_sem, List.take_of_length_le] <;> with_reducible rfl)))
    | (refine Gd.skip ?_ ?_ ?_; (· exact rfl); (· exact rfl))
    | fail
  refine Holds.cond rfl (fun h => ?_) (fun h => ?_)
  · have hlt : i < f.1.length := by simp at h; omega
    have hfs := fillB_set hlt
    repeat' first
      | (refine Holds.condT ?_ ?_; (· (simp [go_sem, List.take_of_length_le, hlt, hfl] <;> with_reducible rfl)))
      | (refine Holds.condF ?_ ?_; (· (simp [go_sem, List.take_of_length_le, hlt, hfl] <;> with_reducible rfl)))
      | refine Holds.seq ?_
      | refine Holds.skip ?_
      | refine Holds.exit ?_
      | refine Holds.ret ?_
      | refine thenA_normal ?_
      | refine thenA_exit ?_
      | refine thenA_ret ?_
      | refine inB_normal ?_
      | refine inB_ret ?_
      | refine inB_here ?_
      | (refine inB_past ?_ ?_; (· exact rfl))
      | refine Holds.reg ?_
      | refine Holds.block ?_
      | refine GS.nil ?_
      | refine Gd.nil ?_
      | (refine Holds.any mixed ?_ ?_; (· kernel_rfl))
      | (refine GS.step (s' := ?_) ?_ ?_ ?_; rotate_left; (· exact rfl); (· (simp [go_sem, List.take_of_length_le, hlt, hfl] <;> with_reducible rfl)))
      | (refine GS.skip ?_ ?_ ?_; (· exact rfl); (· exact rfl))
      | (refine Gd.go (s' := ?_) ?_ ?_ ?_; rotate_left; (· exact rfl); (· (simp [go_sem, List.take_of_length_le, hlt, hfl] <;> with_reducible rfl)))
      | (refine Gd.skip ?_ ?_ ?_; (· exact rfl); (· exact rfl))
      | fail
    refine ⟨i + 1, by omega, by omega, ?_⟩
    rw [stepi]
    exact Cov.ofn (id) rfl (by simp [go_sem, List.take_of_length_le, ren, ren1, ren2, okr, okr1, okr2, ChkT, ChkN, BlkN, nf, grammarC, forestC, hfs]) (by simp [go_sem, List.take_of_length_le, ren, ren1, ren2, okr, okr1, okr2, ChkT, ChkN, BlkN, nf, grammarC, forestC, hfs])
  have hle : i = f.1.length := by simp at h; omega
  subst hle
  rw [fillB_end]
  repeat' first
    | (refine Holds.condT ?_ ?_; (· (simp [go_sem, List.take_of_length_le] <;> with_reducible rfl)))
    | (refine Holds.condF ?_ ?_; (· (simp [go_sem, List.take_of_length_le] <;> with_reducible rfl)))
    | refine Holds.seq ?_
    | refine Holds.skip ?_
    | refine Holds.exit ?_
    | refine Holds.ret ?_
    | refine thenA_normal ?_
    | refine thenA_exit ?_
    | refine thenA_ret ?_
    | refine inB_normal ?_
    | refine inB_ret ?_
    | refine inB_here ?_
    | (refine inB_past ?_ ?_; (· exact rfl))
    | refine Holds.reg ?_
    | refine Holds.block ?_
    | refine GS.nil ?_
    | refine Gd.nil ?_
    | (refine Holds.any mixed ?_ ?_; (· kernel_rfl))
    | (refine GS.step (s' := ?_) ?_ ?_ ?_; rotate_left; (· exact rfl); (· (simp [go_sem, List.take_of_length_le] <;> with_reducible rfl)))
    | (refine GS.skip ?_ ?_ ?_; (· exact rfl); (· exact rfl))
    | (refine Gd.go (s' := ?_) ?_ ?_ ?_; rotate_left; (· exact rfl); (· (simp [go_sem, List.take_of_length_le] <;> with_reducible rfl)))
    | (refine Gd.skip ?_ ?_ ?_; (· exact rfl); (· exact rfl))
    | fail
  refine Holds.loop (ι := List Bool × Bool) (fun i => ⟨[(2, .pb 0 3 0 0), (3, .pb 1 2 0 0), (5, .own 2 1 0 f.1.length), (7, .v (.bool i.2))], [(2, ⟨4, 1, bools i.1⟩), (1, ⟨51, 2, [forestC f]⟩), (0, ⟨31, 3, [grammarC g]⟩)], 3⟩)
    (fun i => (∃ L, LeftI G i.1 L) ∧ (i.2 = false → Stab G i.1 f.1.length)) (fun i => 2 * cT i.1 + (if i.2 then 1 else 0)) (List.replicate f.1.length true, true) ⟨⟨_, hz⟩, fun e => by cases e⟩ ?_ ?_
  · exact Cov.ofn (id) rfl (by simp [go_sem, List.take_of_length_le, ren, ren1, ren2, okr, okr1, okr2, ChkT, ChkN, BlkN, nf, grammarC, forestC]) (by simp [go_sem, List.take_of_length_le, ren, ren1, ren2, okr, okr1, okr2, ChkT, ChkN, BlkN, nf, grammarC, forestC])
  rintro ⟨left0, more0⟩ ⟨hL0, hst0⟩
  dsimp only at hL0 hst0 ⊢
  have hl0 : left0.length = f.1.length := by obtain ⟨L, hL⟩ := hL0; rw [hL.ln, hGl]
  repeat' first
    | (refine Holds.condT ?_ ?_; (· (simp [go_sem, List.take_of_length_le] <;> with_reducible rfl)))
    | (refine Holds.condF ?_ ?_; (· (simp [go_sem, List.take_of_length_le] <;> with_reducible rfl)))
    | refine Holds.seq ?_
    | refine Holds.skip ?_
    | refine Holds.exit ?_
    | refine Holds.ret ?_
    | refine thenA_normal ?_
    | refine thenA_exit ?_
    | refine thenA_ret ?_
    | refine inB_normal ?_
    | refine inB_ret ?_
    | refine inB_here ?_
    | (refine inB_past ?_ ?_; (· exact rfl))
    | refine Holds.reg ?_
    | refine Holds.block ?_
    | refine GS.nil ?_
    | refine Gd.nil ?_
    | (refine Holds.any mixed ?_ ?_; (· kernel_rfl))
    | (refine GS.step (s' := ?_) ?_ ?_ ?_; rotate_left; (· exact rfl); (· (simp [go_sem, List.take_of_length_le] <;> with_reducible rfl)))
    | (refine GS.skip ?_ ?_ ?_; (· exact rfl); (· exact rfl))
    | (refine Gd.go (s' := ?_) ?_ ?_ ?_; rotate_left; (· exact rfl); (· (simp [go_sem, List.take_of_length_le] <;> with_reducible rfl)))
    | (refine Gd.skip ?_ ?_ ?_; (· exact rfl); (· exact rfl))
    | fail
  cases more0 with
  | true =>
    refine Holds.cond rfl (fun h => ?_) (fun h => by cases h)
    repeat' first
      | (refine Holds.condT ?_ ?_; (· (simp [go_sem, List.take_of_length_le] <;> with_reducible rfl)))
      | (refine Holds.condF ?_ ?_; (· (simp [go_sem, List.take_of_length_le] <;> with_reducible rfl)))
      | refine Holds.seq ?_
      | refine Holds.skip ?_
      | refine Holds.exit ?_
      | refine Holds.ret ?_
      | refine thenA_normal ?_
      | refine thenA_exit ?_
      | refine thenA_ret ?_
      | refine inB_normal ?_
      | refine inB_ret ?_
      | refine inB_here ?_
      | (refine inB_past ?_ ?_; (· exact rfl))
      | refine Holds.reg ?_
      | refine Holds.block ?_
      | refine GS.nil ?_
      | refine Gd.nil ?_
      | (refine Holds.any mixed ?_ ?_; (· kernel_rfl))
      | (refine GS.step (s' := ?_) ?_ ?_ ?_; rotate_left; (· exact rfl); (· (simp [go_sem, List.take_of_length_le] <;> with_reducible rfl)))
      | (refine GS.skip ?_ ?_ ?_; (· exact rfl); (· exact rfl))
      | (refine Gd.go (s' := ?_) ?_ ?_ ?_; rotate_left; (· exact rfl); (· (simp [go_sem, List.take_of_length_le] <;> with_reducible rfl)))
      | (refine Gd.skip ?_ ?_ ?_; (· exact rfl); (· exact rfl))
      | fail
    refine Holds.loop (ι := Nat × List Bool × Bool) (fun i => ⟨[(2, .pb 0 3 0 0), (3, .pb 1 2 0 0), (5, .own 2 1 0 f.1.length), (7, .v (.bool i.2.2)), (33, .v (.int .i64 f.1.length)), (34, .v (.int .i64 i.1))], [(2, ⟨4, 1, bools i.2.1⟩), (1, ⟨51, 2, [forestC f]⟩), (0, ⟨31, 3, [grammarC g]⟩)], 3⟩)
      (fun i => i.1 ≤ f.1.length ∧ TurnI G left0 i.2.1 i.2.2 i.1) (fun i => f.1.length - i.1) (0, left0, false) ⟨Nat.zero_le _, hL0, fun e => (by cases e), fun _ => ⟨rfl, fun u hu => absurd hu (Nat.not_lt_zero u)⟩⟩ ?_ ?_
    · exact Cov.ofn (id) rfl (by simp [go_sem, List.take_of_length_le, ren, ren1, ren2, okr, okr1, okr2, ChkT, ChkN, BlkN, nf, grammarC, forestC]) (by simp [go_sem, List.take_of_length_le, ren, ren1, ren2, okr, okr1, okr2, ChkT, ChkN, BlkN, nf, grammarC, forestC])
    rintro ⟨k, left, more⟩ ⟨hk, hT⟩
    dsimp only at hk hT ⊢
    have hll : left.length = f.1.length := by obtain ⟨L, hL⟩ := hT.li; rw [hL.ln, hGl]
    have stepk : wr64 ((k : Int) + 1) = ((k + 1 : Nat) : Int) := wr64_id (by omega) (by omega)
    repeat' first
      | (refine Holds.condT ?_ ?_; (· (simp [go_sem, List.take_of_length_le] <;> with_reducible rfl)))
      | (refine Holds.condF ?_ ?_; (· (simp [go_sem, List.take_of_length_le] <;> with_reducible rfl)))
      | refine Holds.seq ?_
      | refine Holds.skip ?_
      | refine Holds.exit ?_
      | refine Holds.ret ?_
      | refine thenA_normal ?_
      | refine thenA_exit ?_
      | refine thenA_ret ?_
      | refine inB_normal ?_
      | refine inB_ret ?_
      | refine inB_here ?_
      | (refine inB_past ?_ ?_; (· exact rfl))
      | refine Holds.reg ?_
      | refine Holds.block ?_
      | refine GS.nil ?_
      | refine Gd.nil ?_
      | (refine Holds.any mixed ?_ ?_; (· kernel_rfl))
      | (refine GS.step (s' := ?_) ?_ ?_ ?_; rotate_left; (· exact rfl); (· (simp [go_sem, List.take_of_length_le] <;> with_reducible rfl)))
      | (refine GS.skip ?_ ?_ ?_; (· exact rfl); (· exact rfl))
      | (refine Gd.go (s' := ?_) ?_ ?_ ?_; rotate_left; (· exact rfl); (· (simp [go_sem, List.take_of_length_le] <;> with_reducible rfl)))
      | (refine Gd.skip ?_ ?_ ?_; (· exact rfl); (· exact rfl))
      | fail
    refine Holds.cond rfl (fun h => ?_) (fun h => ?_)
    · have hlt : k < f.1.length := by simp at h; omega
      have hltL : k < left.length := by omega
      have hlk : left[k]? = some left[k] := List.getElem?_eq_getElem hltL
      generalize left[k] = lk0 at hlk
      have ce := l9Edges f (k : Int) hm
      have hkk := hko k hlt
      have hmem : ∀ z ∈ edgeIdx f k, ∃ j : Nat, z = (j : Int) ∧ j < f.2.length := fun z hz => by
        obtain ⟨j, e, hj⟩ := idxs_mem _ _ _ z hz
        exact ⟨j, by rw [e, Nat.zero_add], hj⟩
      have hel : (edgeIdx f k).length ≤ 600 := by have := idxs_len (fun e : Edge3 => e.1 == (k : Int)) f.2 0; simp only [edgeIdx]; omega
      generalize edgeIdx f k = is at ce hkk hmem hel
      repeat' first
        | (refine Holds.condT ?_ ?_; (· (simp [go_sem, List.take_of_length_le, hlt, hltL, get_E hlk, hlk, forestC] <;> with_reducible rfl)))
        | (refine Holds.condF ?_ ?_; (· (simp [go_sem, List.take_of_length_le, hlt, hltL, get_E hlk, hlk, forestC] <;> with_reducible rfl)))
        | refine Holds.seq ?_
        | refine Holds.skip ?_
        | refine Holds.exit ?_
        | refine Holds.ret ?_
        | refine thenA_normal ?_
        | refine thenA_exit ?_
        | refine thenA_ret ?_
        | refine inB_normal ?_
        | refine inB_ret ?_
        | refine inB_here ?_
        | (refine inB_past ?_ ?_; (· exact rfl))
        | refine Holds.reg ?_
        | refine Holds.block ?_
        | refine GS.nil ?_
        | refine Gd.nil ?_
        | (refine Holds.any mixed ?_ ?_; (· kernel_rfl))
        | (refine GS.step (s' := ?_) ?_ ?_ ?_; rotate_left; (· exact rfl); (· (simp [go_sem, List.take_of_length_le, hlt, hltL, get_E hlk, hlk, forestC] <;> with_reducible rfl)))
        | (refine GS.skip ?_ ?_ ?_; (· exact rfl); (· exact rfl))
        | (refine Gd.go (s' := ?_) ?_ ?_ ?_; rotate_left; (· exact rfl); (· (simp [go_sem, List.take_of_length_le, hlt, hltL, get_E hlk, hlk, forestC] <;> with_reducible rfl)))
        | (refine Gd.skip ?_ ?_ ?_; (· exact rfl); (· exact rfl))
        | fail
      first | refine GS.cc (ce) rfl rfl rfl rfl (by simp [go_sem, List.take_of_length_le, forestC] <;> with_reducible rfl) rfl (by simp [go_sem, List.take_of_length_le, forestC]) ?_ | refine Gd.cc (ce) rfl rfl rfl rfl (by simp [go_sem, List.take_of_length_le, forestC] <;> with_reducible rfl) rfl (by simp [go_sem, List.take_of_length_le, forestC]) ?_
      repeat' first
        | (refine Holds.condT ?_ ?_; (· (simp [go_sem, List.take_of_length_le] <;> with_reducible rfl)))
        | (refine Holds.condF ?_ ?_; (· (simp [go_sem, List.take_of_length_le] <;> with_reducible rfl)))
        | refine Holds.seq ?_
        | refine Holds.skip ?_
        | refine Holds.exit ?_
        | refine Holds.ret ?_
        | refine thenA_normal ?_
        | refine thenA_exit ?_
        | refine thenA_ret ?_
        | refine inB_normal ?_
        | refine inB_ret ?_
        | refine inB_here ?_
        | (refine inB_past ?_ ?_; (· exact rfl))
        | refine Holds.reg ?_
        | refine Holds.block ?_
        | refine GS.nil ?_
        | refine Gd.nil ?_
        | (refine Holds.any mixed ?_ ?_; (· kernel_rfl))
        | (refine GS.step (s' := ?_) ?_ ?_ ?_; rotate_left; (· exact rfl); (· (simp [go_sem, List.take_of_length_le] <;> with_reducible rfl)))
        | (refine GS.skip ?_ ?_ ?_; (· exact rfl); (· exact rfl))
        | (refine Gd.go (s' := ?_) ?_ ?_ ?_; rotate_left; (· exact rfl); (· (simp [go_sem, List.take_of_length_le] <;> with_reducible rfl)))
        | (refine Gd.skip ?_ ?_ ?_; (· exact rfl); (· exact rfl))
        | fail
      refine Holds.loop (ι := Nat) (fun a => ⟨[(2, .pb 0 3 0 0), (3, .pb 1 2 0 0), (5, .own 2 1 0 f.1.length), (7, .v (.bool more)), (8, .v (.int .i64 k)), (9, .v (.bool (lk0 && noneLeft left (kidsOver g f (is.take a))))), (33, .v (.int .i64 f.1.length)), (34, .v (.int .i64 k)), (43, .im 1 (ints is)), (44, .v (.int .i64 is.length)), (45, .v (.int .i64 a))], [(2, ⟨4, 1, bools left⟩), (1, ⟨51, 2, [forestC f]⟩), (0, ⟨31, 3, [grammarC g]⟩)], 3⟩)
        (fun a => a ≤ is.length) (fun a => is.length - a) 0 (Nat.zero_le _) ?_ ?_
      · exact Cov.ofn (id) rfl (by simp [go_sem, List.take_of_length_le, ren, ren1, ren2, okr, okr1, okr2, ChkT, ChkN, BlkN, nf, grammarC, forestC, kidsOver, noneLeft]) (by simp [go_sem, List.take_of_length_le, ren, ren1, ren2, okr, okr1, okr2, ChkT, ChkN, BlkN, nf, grammarC, forestC, kidsOver, noneLeft])
      intro a ha
      have stepa : wr64 ((a : Int) + 1) = ((a + 1 : Nat) : Int) := wr64_id (by omega) (by omega)
      repeat' first
        | (refine Holds.condT ?_ ?_; (· (simp [go_sem, List.take_of_length_le] <;> with_reducible rfl)))
        | (refine Holds.condF ?_ ?_; (· (simp [go_sem, List.take_of_length_le] <;> with_reducible rfl)))
        | refine Holds.seq ?_
        | refine Holds.skip ?_
        | refine Holds.exit ?_
        | refine Holds.ret ?_
        | refine thenA_normal ?_
        | refine thenA_exit ?_
        | refine thenA_ret ?_
        | refine inB_normal ?_
        | refine inB_ret ?_
        | refine inB_here ?_
        | (refine inB_past ?_ ?_; (· exact rfl))
        | refine Holds.reg ?_
        | refine Holds.block ?_
        | refine GS.nil ?_
        | refine Gd.nil ?_
        | (refine Holds.any mixed ?_ ?_; (· kernel_rfl))
        | (refine GS.step (s' := ?_) ?_ ?_ ?_; rotate_left; (· exact rfl); (· (simp [go_sem, List.take_of_length_le] <;> with_reducible rfl)))
        | (refine GS.skip ?_ ?_ ?_; (· exact rfl); (· exact rfl))
        | (refine Gd.go (s' := ?_) ?_ ?_ ?_; rotate_left; (· exact rfl); (· (simp [go_sem, List.take_of_length_le] <;> with_reducible rfl)))
        | (refine Gd.skip ?_ ?_ ?_; (· exact rfl); (· exact rfl))
        | fail
      refine Holds.cond rfl (fun h => ?_) (fun h => ?_)
      · have hlta : a < is.length := by simp at h; omega
        have hia : is[a]? = some is[a] := List.getElem?_eq_getElem hlta
        obtain ⟨q, hq, hql⟩ := hmem _ (List.getElem_mem hlta)
        rw [hq] at hia
        have heq : f.2[q]? = some f.2[q] := List.getElem?_eq_getElem hql
        have hem := List.getElem_mem hql
        generalize f.2[q] = e at heq hem
        have hnx := kidsOver_next (g := g) hia heq
        have ck := l9Children g hg f e hn (hc e hem)
        have hkr := kidsE_rg (g := g) (f := f) (e := e)
        have hkl := kidsE_len hg f e
        generalize (kidsE g f e).2 = okk at ck
        generalize (kidsE g f e).1 = kl at ck hnx hkr hkl
        generalize hfb : (lk0 && noneLeft left (kidsOver g f (is.take a))) = fb
        have hnx2 : (lk0 && noneLeft left (kidsOver g f (is.take (a + 1)))) = (fb && noneLeft left kl) := by rw [hnx, noneLeft_app, ← hfb, Bool.and_assoc]
        repeat' first
          | (refine Holds.condT ?_ ?_; (· (simp [go_sem, List.take_of_length_le, get_E hia, hia, hlta, get_E heq, heq, hql, grammarC, forestC, edgeC] <;> with_reducible rfl)))
          | (refine Holds.condF ?_ ?_; (· (simp [go_sem, List.take_of_length_le, get_E hia, hia, hlta, get_E heq, heq, hql, grammarC, forestC, edgeC] <;> with_reducible rfl)))
          | refine Holds.seq ?_
          | refine Holds.skip ?_
          | refine Holds.exit ?_
          | refine Holds.ret ?_
          | refine thenA_normal ?_
          | refine thenA_exit ?_
          | refine thenA_ret ?_
          | refine inB_normal ?_
          | refine inB_ret ?_
          | refine inB_here ?_
          | (refine inB_past ?_ ?_; (· exact rfl))
          | refine Holds.reg ?_
          | refine Holds.block ?_
          | refine GS.nil ?_
          | refine Gd.nil ?_
          | (refine Holds.any mixed ?_ ?_; (· kernel_rfl))
          | (refine GS.step (s' := ?_) ?_ ?_ ?_; rotate_left; (· exact rfl); (· (simp [go_sem, List.take_of_length_le, get_E hia, hia, hlta, get_E heq, heq, hql, grammarC, forestC, edgeC] <;> with_reducible rfl)))
          | (refine GS.skip ?_ ?_ ?_; (· exact rfl); (· exact rfl))
          | (refine Gd.go (s' := ?_) ?_ ?_ ?_; rotate_left; (· exact rfl); (· (simp [go_sem, List.take_of_length_le, get_E hia, hia, hlta, get_E heq, heq, hql, grammarC, forestC, edgeC] <;> with_reducible rfl)))
          | (refine Gd.skip ?_ ?_ ?_; (· exact rfl); (· exact rfl))
          | fail
        first | refine GS.cc (ck) rfl rfl rfl rfl (by simp [go_sem, List.take_of_length_le, grammarC, forestC, edgeC] <;> with_reducible rfl) rfl (by simp [go_sem, List.take_of_length_le, grammarC, forestC, edgeC]) ?_ | refine Gd.cc (ck) rfl rfl rfl rfl (by simp [go_sem, List.take_of_length_le, grammarC, forestC, edgeC] <;> with_reducible rfl) rfl (by simp [go_sem, List.take_of_length_le, grammarC, forestC, edgeC]) ?_
        repeat' first
          | (refine Holds.condT ?_ ?_; (· (simp [go_sem, List.take_of_length_le] <;> with_reducible rfl)))
          | (refine Holds.condF ?_ ?_; (· (simp [go_sem, List.take_of_length_le] <;> with_reducible rfl)))
          | refine Holds.seq ?_
          | refine Holds.skip ?_
          | refine Holds.exit ?_
          | refine Holds.ret ?_
          | refine thenA_normal ?_
          | refine thenA_exit ?_
          | refine thenA_ret ?_
          | refine inB_normal ?_
          | refine inB_ret ?_
          | refine inB_here ?_
          | (refine inB_past ?_ ?_; (· exact rfl))
          | refine Holds.reg ?_
          | refine Holds.block ?_
          | refine GS.nil ?_
          | refine Gd.nil ?_
          | (refine Holds.any mixed ?_ ?_; (· kernel_rfl))
          | (refine GS.step (s' := ?_) ?_ ?_ ?_; rotate_left; (· exact rfl); (· (simp [go_sem, List.take_of_length_le] <;> with_reducible rfl)))
          | (refine GS.skip ?_ ?_ ?_; (· exact rfl); (· exact rfl))
          | (refine Gd.go (s' := ?_) ?_ ?_ ?_; rotate_left; (· exact rfl); (· (simp [go_sem, List.take_of_length_le] <;> with_reducible rfl)))
          | (refine Gd.skip ?_ ?_ ?_; (· exact rfl); (· exact rfl))
          | fail
        refine Holds.loop (ι := Nat) (fun b => ⟨[(2, .pb 0 3 0 0), (3, .pb 1 2 0 0), (5, .own 2 1 0 f.1.length), (7, .v (.bool more)), (8, .v (.int .i64 k)), (9, .v (.bool (fb && noneLeft left (kl.take b)))), (33, .v (.int .i64 f.1.length)), (34, .v (.int .i64 k)), (43, .im 1 (ints is)), (44, .v (.int .i64 is.length)), (45, .v (.int .i64 a)), (60, .im 1 (ints kl)), (61, .v (.int .i64 kl.length)), (62, .v (.int .i64 b))], [(2, ⟨4, 1, bools left⟩), (1, ⟨51, 2, [forestC f]⟩), (0, ⟨31, 3, [grammarC g]⟩)], 3⟩)
          (fun b => b ≤ kl.length) (fun b => kl.length - b) 0 (Nat.zero_le _) ?_ ?_
        · exact Cov.ofn (id) rfl (by simp [go_sem, List.take_of_length_le, ren, ren1, ren2, okr, okr1, okr2, ChkT, ChkN, BlkN, nf, grammarC, forestC, noneLeft]) (by simp [go_sem, List.take_of_length_le, ren, ren1, ren2, okr, okr1, okr2, ChkT, ChkN, BlkN, nf, grammarC, forestC, noneLeft])
        intro b hb
        have stepb : wr64 ((b : Int) + 1) = ((b + 1 : Nat) : Int) := wr64_id (by omega) (by omega)
        repeat' first
          | (refine Holds.condT ?_ ?_; (· (simp [go_sem, List.take_of_length_le] <;> with_reducible rfl)))
          | (refine Holds.condF ?_ ?_; (· (simp [go_sem, List.take_of_length_le] <;> with_reducible rfl)))
          | refine Holds.seq ?_
          | refine Holds.skip ?_
          | refine Holds.exit ?_
          | refine Holds.ret ?_
          | refine thenA_normal ?_
          | refine thenA_exit ?_
          | refine thenA_ret ?_
          | refine inB_normal ?_
          | refine inB_ret ?_
          | refine inB_here ?_
          | (refine inB_past ?_ ?_; (· exact rfl))
          | refine Holds.reg ?_
          | refine Holds.block ?_
          | refine GS.nil ?_
          | refine Gd.nil ?_
          | (refine Holds.any mixed ?_ ?_; (· kernel_rfl))
          | (refine GS.step (s' := ?_) ?_ ?_ ?_; rotate_left; (· exact rfl); (· (simp [go_sem, List.take_of_length_le] <;> with_reducible rfl)))
          | (refine GS.skip ?_ ?_ ?_; (· exact rfl); (· exact rfl))
          | (refine Gd.go (s' := ?_) ?_ ?_ ?_; rotate_left; (· exact rfl); (· (simp [go_sem, List.take_of_length_le] <;> with_reducible rfl)))
          | (refine Gd.skip ?_ ?_ ?_; (· exact rfl); (· exact rfl))
          | fail
        refine Holds.cond rfl (fun h => ?_) (fun h => ?_)
        · have hltb : b < kl.length := by simp at h; omega
          have hkb : kl[b]? = some kl[b] := List.getElem?_eq_getElem hltb
          have hkr2 := hkr _ (List.getElem_mem hltb)
          obtain ⟨v, hv⟩ : ∃ v : Nat, kl[b] = (v : Int) := ⟨kl[b].toNat, by omega⟩
          rw [hv] at hkb hkr2
          have hvn : v < f.1.length := by omega
          have hvl : v < left.length := by omega
          have hlv : left[v]? = some left[v] := List.getElem?_eq_getElem hvl
          generalize left[v] = lv at hlv
          have hnb := noneLeft_next hkb hlv
          have hnb2 : (fb && noneLeft left (kl.take (b + 1))) = ((fb && noneLeft left (kl.take b)) && !lv) := by rw [hnb, Bool.and_assoc]
          generalize (fb && noneLeft left (kl.take b)) = fc at hnb2
          cases fc with
          | true =>
            repeat' first
              | (refine Holds.condT ?_ ?_; (· (simp [go_sem, List.take_of_length_le, get_E hkb, hkb, hltb, get_E hlv, hlv, hvn, hvl] <;> with_reducible rfl)))
              | (refine Holds.condF ?_ ?_; (· (simp [go_sem, List.take_of_length_le, get_E hkb, hkb, hltb, get_E hlv, hlv, hvn, hvl] <;> with_reducible rfl)))
              | refine Holds.seq ?_
              | refine Holds.skip ?_
              | refine Holds.exit ?_
              | refine Holds.ret ?_
              | refine thenA_normal ?_
              | refine thenA_exit ?_
              | refine thenA_ret ?_
              | refine inB_normal ?_
              | refine inB_ret ?_
              | refine inB_here ?_
              | (refine inB_past ?_ ?_; (· exact rfl))
              | refine Holds.reg ?_
              | refine Holds.block ?_
              | refine GS.nil ?_
              | refine Gd.nil ?_
              | (refine Holds.any mixed ?_ ?_; (· kernel_rfl))
              | (refine GS.step (s' := ?_) ?_ ?_ ?_; rotate_left; (· exact rfl); (· (simp [go_sem, List.take_of_length_le, get_E hkb, hkb, hltb, get_E hlv, hlv, hvn, hvl] <;> with_reducible rfl)))
              | (refine GS.skip ?_ ?_ ?_; (· exact rfl); (· exact rfl))
              | (refine Gd.go (s' := ?_) ?_ ?_ ?_; rotate_left; (· exact rfl); (· (simp [go_sem, List.take_of_length_le, get_E hkb, hkb, hltb, get_E hlv, hlv, hvn, hvl] <;> with_reducible rfl)))
              | (refine Gd.skip ?_ ?_ ?_; (· exact rfl); (· exact rfl))
              | fail
            refine ⟨b + 1, by omega, by omega, ?_⟩
            rw [stepb, hnb2, Bool.true_and]
            exact Cov.ofn (id) rfl (by simp [go_sem, List.take_of_length_le, ren, ren1, ren2, okr, okr1, okr2, ChkT, ChkN, BlkN, nf, grammarC, forestC]) (by simp [go_sem, List.take_of_length_le, ren, ren1, ren2, okr, okr1, okr2, ChkT, ChkN, BlkN, nf, grammarC, forestC])
          | false =>
            repeat' first
              | (refine Holds.condT ?_ ?_; (· (simp [go_sem, List.take_of_length_le, get_E hkb, hkb, hltb] <;> with_reducible rfl)))
              | (refine Holds.condF ?_ ?_; (· (simp [go_sem, List.take_of_length_le, get_E hkb, hkb, hltb] <;> with_reducible rfl)))
              | refine Holds.seq ?_
              | refine Holds.skip ?_
              | refine Holds.exit ?_
              | refine Holds.ret ?_
              | refine thenA_normal ?_
              | refine thenA_exit ?_
              | refine thenA_ret ?_
              | refine inB_normal ?_
              | refine inB_ret ?_
              | refine inB_here ?_
              | (refine inB_past ?_ ?_; (· exact rfl))
              | refine Holds.reg ?_
              | refine Holds.block ?_
              | refine GS.nil ?_
              | refine Gd.nil ?_
              | (refine Holds.any mixed ?_ ?_; (· kernel_rfl))
              | (refine GS.step (s' := ?_) ?_ ?_ ?_; rotate_left; (· exact rfl); (· (simp [go_sem, List.take_of_length_le, get_E hkb, hkb, hltb] <;> with_reducible rfl)))
              | (refine GS.skip ?_ ?_ ?_; (· exact rfl); (· exact rfl))
              | (refine Gd.go (s' := ?_) ?_ ?_ ?_; rotate_left; (· exact rfl); (· (simp [go_sem, List.take_of_length_le, get_E hkb, hkb, hltb] <;> with_reducible rfl)))
              | (refine Gd.skip ?_ ?_ ?_; (· exact rfl); (· exact rfl))
              | fail
            refine ⟨b + 1, by omega, by omega, ?_⟩
            rw [stepb, hnb2, Bool.false_and]
            exact Cov.ofn (id) rfl (by simp [go_sem, List.take_of_length_le, ren, ren1, ren2, okr, okr1, okr2, ChkT, ChkN, BlkN, nf, grammarC, forestC]) (by simp [go_sem, List.take_of_length_le, ren, ren1, ren2, okr, okr1, okr2, ChkT, ChkN, BlkN, nf, grammarC, forestC])
        · have hleb : b = kl.length := by simp at h; omega
          subst hleb
          rw [List.take_length]
          repeat' first
            | (refine Holds.condT ?_ ?_; (· (simp [go_sem, List.take_of_length_le] <;> with_reducible rfl)))
            | (refine Holds.condF ?_ ?_; (· (simp [go_sem, List.take_of_length_le] <;> with_reducible rfl)))
            | refine Holds.seq ?_
            | refine Holds.skip ?_
            | refine Holds.exit ?_
            | refine Holds.ret ?_
            | refine thenA_normal ?_
            | refine thenA_exit ?_
            | refine thenA_ret ?_
            | refine inB_normal ?_
            | refine inB_ret ?_
            | refine inB_here ?_
            | (refine inB_past ?_ ?_; (· exact rfl))
            | refine Holds.reg ?_
            | refine Holds.block ?_
            | refine GS.nil ?_
            | refine Gd.nil ?_
            | (refine Holds.any mixed ?_ ?_; (· kernel_rfl))
            | (refine GS.step (s' := ?_) ?_ ?_ ?_; rotate_left; (· exact rfl); (· (simp [go_sem, List.take_of_length_le] <;> with_reducible rfl)))
            | (refine GS.skip ?_ ?_ ?_; (· exact rfl); (· exact rfl))
            | (refine Gd.go (s' := ?_) ?_ ?_ ?_; rotate_left; (· exact rfl); (· (simp [go_sem, List.take_of_length_le] <;> with_reducible rfl)))
            | (refine Gd.skip ?_ ?_ ?_; (· exact rfl); (· exact rfl))
            | fail
          refine ⟨a + 1, by omega, by omega, ?_⟩
          rw [stepa, hnx2]
          exact Cov.ofn (id) rfl (by simp [go_sem, List.take_of_length_le, ren, ren1, ren2, okr, okr1, okr2, ChkT, ChkN, BlkN, nf, grammarC, forestC]) (by simp [go_sem, List.take_of_length_le, ren, ren1, ren2, okr, okr1, okr2, ChkT, ChkN, BlkN, nf, grammarC, forestC])
      · have hlea : a = is.length := by simp at h; omega
        subst hlea
        rw [List.take_length, hkk]
        generalize hfb : (lk0 && noneLeft left (G.getD k [])) = fb
        repeat' first
          | (refine Holds.condT ?_ ?_; (· (simp [go_sem, List.take_of_length_le] <;> with_reducible rfl)))
          | (refine Holds.condF ?_ ?_; (· (simp [go_sem, List.take_of_length_le] <;> with_reducible rfl)))
          | refine Holds.seq ?_
          | refine Holds.skip ?_
          | refine Holds.exit ?_
          | refine Holds.ret ?_
          | refine thenA_normal ?_
          | refine thenA_exit ?_
          | refine thenA_ret ?_
          | refine inB_normal ?_
          | refine inB_ret ?_
          | refine inB_here ?_
          | (refine inB_past ?_ ?_; (· exact rfl))
          | refine Holds.reg ?_
          | refine Holds.block ?_
          | refine GS.nil ?_
          | refine Gd.nil ?_
          | (refine Holds.any mixed ?_ ?_; (· kernel_rfl))
          | (refine GS.step (s' := ?_) ?_ ?_ ?_; rotate_left; (· exact rfl); (· (simp [go_sem, List.take_of_length_le] <;> with_reducible rfl)))
          | (refine GS.skip ?_ ?_ ?_; (· exact rfl); (· exact rfl))
          | (refine Gd.go (s' := ?_) ?_ ?_ ?_; rotate_left; (· exact rfl); (· (simp [go_sem, List.take_of_length_le] <;> with_reducible rfl)))
          | (refine Gd.skip ?_ ?_ ?_; (· exact rfl); (· exact rfl))
          | fail
        cases fb with
        | true =>
          rw [Bool.and_eq_true] at hfb
          have hst := hT.free (by omega) (by rw [hlk, hfb.1]) (fun y hy => by have := hrg k y hy; omega) hfb.2
          refine Holds.cond rfl (fun h => ?_) (fun h => by cases h)
          repeat' first
            | (refine Holds.condT ?_ ?_; (· (simp [go_sem, List.take_of_length_le, hlt, hltL] <;> with_reducible rfl)))
            | (refine Holds.condF ?_ ?_; (· (simp [go_sem, List.take_of_length_le, hlt, hltL] <;> with_reducible rfl)))
            | refine Holds.seq ?_
            | refine Holds.skip ?_
            | refine Holds.exit ?_
            | refine Holds.ret ?_
            | refine thenA_normal ?_
            | refine thenA_exit ?_
            | refine thenA_ret ?_
            | refine inB_normal ?_
            | refine inB_ret ?_
            | refine inB_here ?_
            | (refine inB_past ?_ ?_; (· exact rfl))
            | refine Holds.reg ?_
            | refine Holds.block ?_
            | refine GS.nil ?_
            | refine Gd.nil ?_
            | (refine Holds.any mixed ?_ ?_; (· kernel_rfl))
            | (refine GS.step (s' := ?_) ?_ ?_ ?_; rotate_left; (· exact rfl); (· (simp [go_sem, List.take_of_length_le, hlt, hltL] <;> with_reducible rfl)))
            | (refine GS.skip ?_ ?_ ?_; (· exact rfl); (· exact rfl))
            | (refine Gd.go (s' := ?_) ?_ ?_ ?_; rotate_left; (· exact rfl); (· (simp [go_sem, List.take_of_length_le, hlt, hltL] <;> with_reducible rfl)))
            | (refine Gd.skip ?_ ?_ ?_; (· exact rfl); (· exact rfl))
            | fail
          refine ⟨(k + 1, left.set k false, true), ⟨by dsimp only; omega, hst⟩, by dsimp only; omega, ?_⟩
          rw [stepk]
          exact Cov.ofn (id) rfl (by simp [go_sem, List.take_of_length_le, ren, ren1, ren2, okr, okr1, okr2, ChkT, ChkN, BlkN, nf, grammarC, forestC]) (by simp [go_sem, List.take_of_length_le, ren, ren1, ren2, okr, okr1, okr2, ChkT, ChkN, BlkN, nf, grammarC, forestC])
        | false =>
          have hst := hT.stay (fun y hy => by have := hrg k y hy; omega) (fun e => by rw [hlk] at e; injection e with e; rw [e, Bool.true_and] at hfb; exact hfb)
          refine Holds.cond rfl (fun h => by cases h) (fun h => ?_)
          repeat' first
            | (refine Holds.condT ?_ ?_; (· (simp [go_sem, List.take_of_length_le] <;> with_reducible rfl)))
            | (refine Holds.condF ?_ ?_; (· (simp [go_sem, List.take_of_length_le] <;> with_reducible rfl)))
            | refine Holds.seq ?_
            | refine Holds.skip ?_
            | refine Holds.exit ?_
            | refine Holds.ret ?_
            | refine thenA_normal ?_
            | refine thenA_exit ?_
            | refine thenA_ret ?_
            | refine inB_normal ?_
            | refine inB_ret ?_
            | refine inB_here ?_
            | (refine inB_past ?_ ?_; (· exact rfl))
            | refine Holds.reg ?_
            | refine Holds.block ?_
            | refine GS.nil ?_
            | refine Gd.nil ?_
            | (refine Holds.any mixed ?_ ?_; (· kernel_rfl))
            | (refine GS.step (s' := ?_) ?_ ?_ ?_; rotate_left; (· exact rfl); (· (simp [go_sem, List.take_of_length_le] <;> with_reducible rfl)))
            | (refine GS.skip ?_ ?_ ?_; (· exact rfl); (· exact rfl))
            | (refine Gd.go (s' := ?_) ?_ ?_ ?_; rotate_left; (· exact rfl); (· (simp [go_sem, List.take_of_length_le] <;> with_reducible rfl)))
            | (refine Gd.skip ?_ ?_ ?_; (· exact rfl); (· exact rfl))
            | fail
          refine ⟨(k + 1, left, more), ⟨by dsimp only; omega, hst⟩, by dsimp only; omega, ?_⟩
          rw [stepk]
          exact Cov.ofn (id) rfl (by simp [go_sem, List.take_of_length_le, ren, ren1, ren2, okr, okr1, okr2, ChkT, ChkN, BlkN, nf, grammarC, forestC]) (by simp [go_sem, List.take_of_length_le, ren, ren1, ren2, okr, okr1, okr2, ChkT, ChkN, BlkN, nf, grammarC, forestC])
    · have hlek : k = f.1.length := by simp at h; omega
      subst hlek
      repeat' first
        | (refine Holds.condT ?_ ?_; (· (simp [go_sem, List.take_of_length_le] <;> with_reducible rfl)))
        | (refine Holds.condF ?_ ?_; (· (simp [go_sem, List.take_of_length_le] <;> with_reducible rfl)))
        | refine Holds.seq ?_
        | refine Holds.skip ?_
        | refine Holds.exit ?_
        | refine Holds.ret ?_
        | refine thenA_normal ?_
        | refine thenA_exit ?_
        | refine thenA_ret ?_
        | refine inB_normal ?_
        | refine inB_ret ?_
        | refine inB_here ?_
        | (refine inB_past ?_ ?_; (· exact rfl))
        | refine Holds.reg ?_
        | refine Holds.block ?_
        | refine GS.nil ?_
        | refine Gd.nil ?_
        | (refine Holds.any mixed ?_ ?_; (· kernel_rfl))
        | (refine GS.step (s' := ?_) ?_ ?_ ?_; rotate_left; (· exact rfl); (· (simp [go_sem, List.take_of_length_le] <;> with_reducible rfl)))
        | (refine GS.skip ?_ ?_ ?_; (· exact rfl); (· exact rfl))
        | (refine Gd.go (s' := ?_) ?_ ?_ ?_; rotate_left; (· exact rfl); (· (simp [go_sem, List.take_of_length_le] <;> with_reducible rfl)))
        | (refine Gd.skip ?_ ?_ ?_; (· exact rfl); (· exact rfl))
        | fail
      refine ⟨(left, more), ⟨hT.li, fun e => (hT.no e).2⟩, ?_, ?_⟩
      · dsimp only
        cases more with
        | true => have := hT.yes rfl; simp only [if_true]; omega
        | false => have := (hT.no rfl).1; subst this; simp only [if_true, Bool.false_eq_true, if_false]; omega
      exact Cov.ofn (id) rfl (by simp [go_sem, List.take_of_length_le, ren, ren1, ren2, okr, okr1, okr2, ChkT, ChkN, BlkN, nf, grammarC, forestC]) (by simp [go_sem, List.take_of_length_le, ren, ren1, ren2, okr, okr1, okr2, ChkT, ChkN, BlkN, nf, grammarC, forestC])
  | false =>
    refine Holds.cond rfl (fun h => by cases h) (fun h => ?_)
    have hend : left0.any id = cycB G := by
      obtain ⟨L, hL⟩ := hL0
      exact left_end hL (fun u hu hl => hst0 rfl u (by omega) hu hl)
    rw [← hend]
    repeat' first
      | (refine Holds.condT ?_ ?_; (· (simp [go_sem, List.take_of_length_le] <;> with_reducible rfl)))
      | (refine Holds.condF ?_ ?_; (· (simp [go_sem, List.take_of_length_le] <;> with_reducible rfl)))
      | refine Holds.seq ?_
      | refine Holds.skip ?_
      | refine Holds.exit ?_
      | refine Holds.ret ?_
      | refine thenA_normal ?_
      | refine thenA_exit ?_
      | refine thenA_ret ?_
      | refine inB_normal ?_
      | refine inB_ret ?_
      | refine inB_here ?_
      | (refine inB_past ?_ ?_; (· exact rfl))
      | refine Holds.reg ?_
      | refine Holds.block ?_
      | refine GS.nil ?_
      | refine Gd.nil ?_
      | (refine Holds.any mixed ?_ ?_; (· kernel_rfl))
      | (refine GS.step (s' := ?_) ?_ ?_ ?_; rotate_left; (· exact rfl); (· (simp [go_sem, List.take_of_length_le] <;> with_reducible rfl)))
      | (refine GS.skip ?_ ?_ ?_; (· exact rfl); (· exact rfl))
      | (refine Gd.go (s' := ?_) ?_ ?_ ?_; rotate_left; (· exact rfl); (· (simp [go_sem, List.take_of_length_le] <;> with_reducible rfl)))
      | (refine Gd.skip ?_ ?_ ?_; (· exact rfl); (· exact rfl))
      | fail
    refine Holds.loop (ι := Nat) (fun i => ⟨[(81, .own 2 1 0 f.1.length), (82, .v (.int .i64 f.1.length)), (83, .v (.int .i64 i))], [(2, ⟨4, 1, bools left0⟩)], 3⟩)
      (fun i => i ≤ f.1.length ∧ (left0.take i).any id = false) (fun i => f.1.length - i) 0 ⟨Nat.zero_le _, rfl⟩ ?_ ?_
    · exact Cov.ofn (id) rfl (by simp [go_sem, List.take_of_length_le, ren, ren1, ren2, okr, okr1, okr2, ChkT, ChkN, BlkN, nf, grammarC, forestC]) (by simp [go_sem, List.take_of_length_le, ren, ren1, ren2, okr, okr1, okr2, ChkT, ChkN, BlkN, nf, grammarC, forestC])
    rintro i ⟨hi, hno⟩
    have stepi : wr64 ((i : Int) + 1) = ((i + 1 : Nat) : Int) := wr64_id (by omega) (by omega)
    repeat' first
      | (refine Holds.condT ?_ ?_; (· (simp [go_sem, List.take_of_length_le] <;> with_reducible rfl)))
      | (refine Holds.condF ?_ ?_; (· (simp [go_sem, List.take_of_length_le] <;> with_reducible rfl)))
      | refine Holds.seq ?_
      | refine Holds.skip ?_
      | refine Holds.exit ?_
      | refine Holds.ret ?_
      | refine thenA_normal ?_
      | refine thenA_exit ?_
      | refine thenA_ret ?_
      | refine inB_normal ?_
      | refine inB_ret ?_
      | refine inB_here ?_
      | (refine inB_past ?_ ?_; (· exact rfl))
      | refine Holds.reg ?_
      | refine Holds.block ?_
      | refine GS.nil ?_
      | refine Gd.nil ?_
      | (refine Holds.any mixed ?_ ?_; (· kernel_rfl))
      | (refine GS.step (s' := ?_) ?_ ?_ ?_; rotate_left; (· exact rfl); (· (simp [go_sem, List.take_of_length_le] <;> with_reducible rfl)))
      | (refine GS.skip ?_ ?_ ?_; (· exact rfl); (· exact rfl))
      | (refine Gd.go (s' := ?_) ?_ ?_ ?_; rotate_left; (· exact rfl); (· (simp [go_sem, List.take_of_length_le] <;> with_reducible rfl)))
      | (refine Gd.skip ?_ ?_ ?_; (· exact rfl); (· exact rfl))
      | fail
    refine Holds.cond rfl (fun h => ?_) (fun h => ?_)
    · have hlt : i < f.1.length := by simp at h; omega
      have hltL : i < left0.length := by omega
      have hxi : left0[i]? = some left0[i] := List.getElem?_eq_getElem hltL
      generalize left0[i] = x at hxi
      cases x with
      | true =>
        rw [any_idAt hxi]
        repeat' first
          | (refine Holds.condT ?_ ?_; (· (simp [go_sem, List.take_of_length_le, hlt, hltL, get_E hxi, hxi] <;> with_reducible rfl)))
          | (refine Holds.condF ?_ ?_; (· (simp [go_sem, List.take_of_length_le, hlt, hltL, get_E hxi, hxi] <;> with_reducible rfl)))
          | refine Holds.seq ?_
          | refine Holds.skip ?_
          | refine Holds.exit ?_
          | refine Holds.ret ?_
          | refine thenA_normal ?_
          | refine thenA_exit ?_
          | refine thenA_ret ?_
          | refine inB_normal ?_
          | refine inB_ret ?_
          | refine inB_here ?_
          | (refine inB_past ?_ ?_; (· exact rfl))
          | refine Holds.reg ?_
          | refine Holds.block ?_
          | refine GS.nil ?_
          | refine Gd.nil ?_
          | (refine Holds.any mixed ?_ ?_; (· kernel_rfl))
          | (refine GS.step (s' := ?_) ?_ ?_ ?_; rotate_left; (· exact rfl); (· (simp [go_sem, List.take_of_length_le, hlt, hltL, get_E hxi, hxi] <;> with_reducible rfl)))
          | (refine GS.skip ?_ ?_ ?_; (· exact rfl); (· exact rfl))
          | (refine Gd.go (s' := ?_) ?_ ?_ ?_; rotate_left; (· exact rfl); (· (simp [go_sem, List.take_of_length_le, hlt, hltL, get_E hxi, hxi] <;> with_reducible rfl)))
          | (refine Gd.skip ?_ ?_ ?_; (· exact rfl); (· exact rfl))
          | fail
        refine Out.mk (xs := ?_) ?_ ?_ (by first | exact .inr rfl | exact .inl rfl)
        rotate_left
        · simp [go_sem, List.take_of_length_le] <;> with_reducible rfl
        exact .v _
      | false =>
        repeat' first
          | (refine Holds.condT ?_ ?_; (· (simp [go_sem, List.take_of_length_le, hlt, hltL, get_E hxi, hxi] <;> with_reducible rfl)))
          | (refine Holds.condF ?_ ?_; (· (simp [go_sem, List.take_of_length_le, hlt, hltL, get_E hxi, hxi] <;> with_reducible rfl)))
          | refine Holds.seq ?_
          | refine Holds.skip ?_
          | refine Holds.exit ?_
          | refine Holds.ret ?_
          | refine thenA_normal ?_
          | refine thenA_exit ?_
          | refine thenA_ret ?_
          | refine inB_normal ?_
          | refine inB_ret ?_
          | refine inB_here ?_
          | (refine inB_past ?_ ?_; (· exact rfl))
          | refine Holds.reg ?_
          | refine Holds.block ?_
          | refine GS.nil ?_
          | refine Gd.nil ?_
          | (refine Holds.any mixed ?_ ?_; (· kernel_rfl))
          | (refine GS.step (s' := ?_) ?_ ?_ ?_; rotate_left; (· exact rfl); (· (simp [go_sem, List.take_of_length_le, hlt, hltL, get_E hxi, hxi] <;> with_reducible rfl)))
          | (refine GS.skip ?_ ?_ ?_; (· exact rfl); (· exact rfl))
          | (refine Gd.go (s' := ?_) ?_ ?_ ?_; rotate_left; (· exact rfl); (· (simp [go_sem, List.take_of_length_le, hlt, hltL, get_E hxi, hxi] <;> with_reducible rfl)))
          | (refine Gd.skip ?_ ?_ ?_; (· exact rfl); (· exact rfl))
          | fail
        refine ⟨i + 1, ⟨by omega, ?_⟩, by omega, ?_⟩
        · rw [List.take_add_one, hxi, List.any_append, hno]; rfl
        rw [stepi]
        exact Cov.ofn (id) rfl (by simp [go_sem, List.take_of_length_le, ren, ren1, ren2, okr, okr1, okr2, ChkT, ChkN, BlkN, nf]) (by simp [go_sem, List.take_of_length_le, ren, ren1, ren2, okr, okr1, okr2, ChkT, ChkN, BlkN, nf])
    · have hle : i = f.1.length := by simp at h; omega
      subst hle
      rw [List.take_of_length_le (by omega)] at hno
      rw [hno]
      repeat' first
        | (refine Holds.condT ?_ ?_; (· (simp [go_sem, List.take_of_length_le] <;> with_reducible rfl)))
        | (refine Holds.condF ?_ ?_; (· (simp [go_sem, List.take_of_length_le] <;> with_reducible rfl)))
        | refine Holds.seq ?_
        | refine Holds.skip ?_
        | refine Holds.exit ?_
        | refine Holds.ret ?_
        | refine thenA_normal ?_
        | refine thenA_exit ?_
        | refine thenA_ret ?_
        | refine inB_normal ?_
        | refine inB_ret ?_
        | refine inB_here ?_
        | (refine inB_past ?_ ?_; (· exact rfl))
        | refine Holds.reg ?_
        | refine Holds.block ?_
        | refine GS.nil ?_
        | refine Gd.nil ?_
        | (refine Holds.any mixed ?_ ?_; (· kernel_rfl))
        | (refine GS.step (s' := ?_) ?_ ?_ ?_; rotate_left; (· exact rfl); (· (simp [go_sem, List.take_of_length_le] <;> with_reducible rfl)))
        | (refine GS.skip ?_ ?_ ?_; (· exact rfl); (· exact rfl))
        | (refine Gd.go (s' := ?_) ?_ ?_ ?_; rotate_left; (· exact rfl); (· (simp [go_sem, List.take_of_length_le] <;> with_reducible rfl)))
        | (refine Gd.skip ?_ ?_ ?_; (· exact rfl); (· exact rfl))
        | fail
      refine Out.mk (xs := ?_) ?_ ?_ (by first | exact .inr rfl | exact .inl rfl)
      rotate_left
      · simp [go_sem, List.take_of_length_le] <;> with_reducible rfl
      exact .v _
end Go.Proofs.Ytiabaknmgbpmoaa.En
end
section
namespace Go.Proofs.Ytiabaknmgbpmoaa.En
open Go.RowKit
set_option linter.unusedVariables false
variable {P : Program} {nt : NT} {s s' : AS} {ops : Array Oper} {K : AS → Prop} {o : Oper} {l : List Oper} {i : Nat}
/-- As GS.step, for an operation that does not end in the slot D. -/
theorem GS.stepD (D : Nat) (hD : (o.dst == some D) = false) (hg : gd ops s o = some true) (ha : astep P nt s o = some s') (h : GS P nt ops K l (i + 1) s') : GS P nt ops K (o :: l) i s := GS.step hg ha h
end Go.Proofs.Ytiabaknmgbpmoaa.En
end
section
namespace Go.Proofs.Ytiabaknmgbpmoaa.En
open Go.RowKit
set_option linter.unusedSimpArgs false
set_option linter.unusedVariables false
section
attribute [local semireducible] G Gq Holds GS Pure Out Fn OutF
variable {P : Program} {nt : NT} {Q : Exit → AS → Prop} {s s' s1 s2 t : AS} {ops : Array Oper} {K K1 KF : AS → Prop} {i : Nat} {o : Oper} {l : List Oper} {C : Ctx} {a : Act} {w : World} {S : Nat → Prop} {Ow : Owners} {L : Names} {md : Region.Mode} {M : Nat → Bool} {ws hs : List Nat}
def okP : Kd3 → Kd3 → Bool
  | .o, _ => false
  | _, .o => false
  | .w, .h => true
  | .h, .w => true
  | .w, _ => false
  | _, .w => false
  | _, _ => true
theorem okP_spec {x y : Kd3} (h : okP x y = true) : (x = .w → y = .h) ∧ (y = .w → x = .h) ∧ x ≠ .o ∧ y ≠ .o := by
  cases x <;> cases y <;> simp_all [okP]
def kapI (md : Region.Mode) (ops : Array Oper) (ws hs : List Nat) (i : Nat) : Bool :=
  (List.range ops.size).all fun j => i == j || okP (kind ws hs i) (kind ws hs j) || depB md ops ops.size i j || depB md ops ops.size j i
theorem anyX_firstI (hK : ∀ s s', Eqv s s' → K s → K s') {i : Nat} (hkap : kapI md ops ws hs i = true) {oi : Oper} (hi : ops[i]? = some oi) :
    ∀ (fuel : Nat) (listed : Array Bool) (s s1 : AS), DC md ops listed →
      (∀ j oj, ops[j]? = some oj → j ≠ i → listed.getD j true = false → (∀ e ∈ oj.after, Region.binds md e = true → e.on ≠ i) → oi.apart ops oj = true) →
      i ∈ Region.ready md ops listed → xS P nt ops M (kind ws hs i) oi s s1 → AnyX P nt md ops ws hs M K fuel (listed.setIfInBounds i true) s1 → AnyX P nt md ops ws hs M K (fuel + 1) listed s := by
  intro fuel
  induction fuel with
  | zero =>
    intro listed s s1 _ _ hr hy H
    refine ⟨fun h => (by rw [h] at hr; cases hr), fun j hj => ?_⟩
    by_cases hji : j = i
    · subst hji; exact ⟨oi, s1, hi, hy, H⟩
    · have := ready_mono hj hji
      rw [H.1] at this
      cases this
  | succ fuel ih =>
    intro listed s s1 hdc hfree hr hy H
    refine ⟨fun h => (by rw [h] at hr; cases hr), fun j hj => ?_⟩
    by_cases hji : j = i
    · subst hji; exact ⟨oi, s1, hi, hy, H⟩
    · obtain ⟨oj, s2, hoj, hsj, hkj⟩ := H.2 j (ready_mono hj hji)
      obtain ⟨hjun, oj', hoj', hall⟩ := mem_ready.1 hj
      rw [hoj] at hoj'
      cases hoj'
      have hnot : ∀ e ∈ oj.after, Region.binds md e = true → e.on ≠ i := fun e he hb heq => by
        have h1 := hall e he hb
        rw [heq, ready_un hr] at h1
        cases h1
      obtain ⟨a1, a2, a3⟩ := Oper.apart_spec (hfree j oj hoj hji hjun hnot)
      have hjl : j < ops.size := (Array.getElem?_eq_some_iff.1 hoj).1
      have kk : (kind ws hs i = .w → kind ws hs j = .h) ∧ (kind ws hs j = .w → kind ws hs i = .h) ∧ kind ws hs i ≠ .o ∧ kind ws hs j ≠ .o := by
        simp only [kapI, List.all_eq_true] at hkap
        have := hkap j (List.mem_range.2 hjl)
        simp only [Bool.or_eq_true, beq_iff_eq] at this
        rcases this with ((h | h) | h) | h
        · exact absurd h.symm hji
        · exact okP_spec h
        · exact absurd hj (dep_not hdc (ready_un hr) _ _ h).2
        · exact absurd hr (dep_not hdc (ready_un hj) _ _ h).2
      obtain ⟨t, s2', g1, g2, g3⟩ := xS.comm kk a1 a2 a3 hy hsj
      refine ⟨oj, t, hoj, g1, ?_⟩
      have hfree' : ∀ k ok, ops[k]? = some ok → k ≠ i → (listed.setIfInBounds j true).getD k true = false →
          (∀ e ∈ ok.after, Region.binds md e = true → e.on ≠ i) → oi.apart ops ok = true := fun k ok hk hki hun hno => by
        refine hfree k ok hk hki ?_ hno
        by_cases hjk : j = k
        · subst hjk; exact hjun
        · rw [getD_set_ne true hjk] at hun; exact hun
      refine ih (listed.setIfInBounds j true) t s2' (hdc.set hj) hfree' (ready_mono hr (Ne.symm hji)) g2 ?_
      rw [Array.setIfInBounds_comm _ _ hji]
      exact AnyX.eqv hK _ _ _ _ g3 hkj
def setN : Nat → Nat → Array Bool → Array Bool
  | 0, _, x => x
  | n + 1, k, x => setN n (k + 1) (x.setIfInBounds k true)
theorem Gx.closed {k : Nat} : ∀ s s', Eqv s s' → Gx P nt ops ws hs M K k l s → Gx P nt ops ws hs M K k l s' := fun s s' e h => .eqv e.symm h
theorem Gx.nil_inv {k : Nat} (hK : ∀ s s', Eqv s s' → K s → K s') (h : Gx P nt ops ws hs M K k [] s) : K s := by
  generalize hl : ([] : List Oper) = l at h
  induction h with
  | nil h => exact h
  | step _ _ _ => cases hl
  | eqv he _ ih => exact hK _ _ he.symm (ih hl)
theorem Gx.one {k : Nat} (hK : ∀ s s', Eqv s s' → K s → K s') (h : Gx P nt ops ws hs M K k [o] s) : ∃ s', xS P nt ops M (kind ws hs k) o s s' ∧ K s' := by
  generalize hl : [o] = l at h
  induction h with
  | nil h => cases hl
  | step hx h _ => cases hl; exact ⟨_, hx, h.nil_inv hK⟩
  | eqv he _ ih =>
    obtain ⟨s', hx, hk⟩ := ih hl
    obtain ⟨t', e', hx'⟩ := hx.eqv he.symm
    exact ⟨t', hx', hK _ _ e' hk⟩
/-- The walk over some operations, ahead of what is known of the rest. -/
theorem anyX_lexB (hKF : ∀ s s', Eqv s s' → KF s → KF s') {n2 : Nat} {k : Nat} {l : List Oper} {s : AS} (h : Gx P nt ops ws hs M K1 k l s) : ∀ (listed : Array Bool), DC md ops listed → (∀ j, j < l.length → l[j]? = ops[k + j]?) →
    Region.lexFrom md ops (l.length + n2) k listed = true → (∀ i, k ≤ i → i < k + l.length → kapI md ops ws hs i = true) →
    (∀ s, K1 s → DC md ops (setN l.length k listed) → Region.lexFrom md ops n2 (k + l.length) (setN l.length k listed) = true → AnyX P nt md ops ws hs M KF n2 (setN l.length k listed) s) → AnyX P nt md ops ws hs M KF (l.length + n2) listed s := by
  induction h with
  | nil h => intro listed hdc _ hB _ hb; simpa [setN] using hb _ h hdc (by simpa [setN] using hB)
  | eqv he _ ih => intro listed hdc hl hB hk hb; exact AnyX.eqv hKF _ _ _ _ he.symm (ih listed hdc hl hB hk hb)
  | step hx _ ih =>
    rename_i k o l s s' _
    intro listed hdc hl hB hk hb
    have h0 : ops[k]? = some o := by simpa using (hl 0 (by simp)).symm
    rw [show (o :: l).length + n2 = (l.length + n2) + 1 by simp only [List.length_cons]; omega] at hB ⊢
    simp only [Region.lexFrom, Bool.and_eq_true] at hB
    obtain ⟨⟨hr, hf⟩, hB'⟩ := hB
    have hr' : k ∈ Region.ready md ops listed := by simpa using hr
    refine anyX_firstI hKF (hk k (Nat.le_refl _) (by simp)) h0 (l.length + n2) listed s s' hdc (Region.free_spec h0 hf) hr' hx (ih _ (hdc.set hr') (fun j hj => ?_) hB' (fun i h1 h2 => hk i (by omega) (by simp only [List.length_cons]; omega)) ?_)
    · have := hl (j + 1) (by simp only [List.length_cons]; omega); simpa [Nat.add_assoc, Nat.add_comm 1 j] using this
    · intro s hs' hd hB2
      refine hb s hs' hd ?_
      simp only [List.length_cons, setN]
      rw [show k + (l.length + 1) = k + 1 + l.length by omega]; exact hB2
/-- Two operations, each ahead of the other. -/
def Dia (P : Program) (nt : NT) (ops : Array Oper) (ws hs : List Nat) (M : Nat → Bool) (K : AS → Prop) (c : Nat) (oc oj : Oper) (l2 : List Oper) (s : AS) : Prop :=
  Gx P nt ops ws hs M (fun s1 => Gx P nt ops ws hs M (fun s2 => Gx P nt ops ws hs M K (c + 2) l2 s2) (c + 1) [oj] s1) c [oc] s ∧
  Gx P nt ops ws hs M (fun s1 => Gx P nt ops ws hs M (fun s2 => Gx P nt ops ws hs M K (c + 2) l2 s2) c [oc] s1) (c + 1) [oj] s
def diaB (md : Region.Mode) (ops : Array Oper) (c : Nat) : Bool :=
  let x := setN c 0 (Array.replicate ops.size false)
  (Region.ready md ops x).all (fun i => i == c || i == c + 1) && (Region.ready md ops (x.setIfInBounds c true)).all (fun i => i == c + 1) && (Region.ready md ops (x.setIfInBounds (c + 1) true)).all (fun i => i == c) &&
    (Region.ready md ops x).contains c && (Region.ready md ops (x.setIfInBounds c true)).contains (c + 1) && (Region.ready md ops (x.setIfInBounds (c + 1) true)).contains c && decide (c + 1 < ops.size)
def kapD (md : Region.Mode) (ops : Array Oper) (ws hs : List Nat) (c : Nat) : Bool := (List.range ops.size).all fun i => i == c || i == c + 1 || kapI md ops ws hs i
theorem Holds.dia {id c : Nat} {l1 l2 : List Oper} {oc oj : Oper} {y : Code} {Q' : Exit → AS → Prop} (s0 : AS) (ws hs : List Nat) (M : Nat → Bool) (hm : P.follows .mixedOrders = true) (h1 : l.take c = l1) (h2 : l.drop c = oc :: oj :: l2)
    (hB : Region.lexB .any l.toArray = true) (hD : (diaB .any l.toArray c && kapD .any l.toArray ws hs c) = true)
    (hx : Gx P nt l.toArray ws hs M (fun s => Dia P nt l.toArray ws hs M (fun s' => Cov nt.k s0 s') c oc oj l2 s) 0 l1 s) (hk : Holds P nt y Q' s0) : Holds P nt (.region id l.toArray true) (thenA (Holds P nt y Q') Q) s := by
  intro C a w S Ow L hn hR
  simp only [Bool.and_eq_true] at hD
  obtain ⟨hD, hkap⟩ := hD
  simp only [diaB, Bool.and_eq_true, List.all_eq_true, decide_eq_true_eq, Bool.or_eq_true, beq_iff_eq, List.contains_iff_mem, List.size_toArray] at hD
  obtain ⟨⟨⟨⟨⟨⟨d1, d2⟩, d3⟩, d4⟩, d5⟩, d6⟩, d7⟩ := hD
  simp only [kapD, List.all_eq_true, Bool.or_eq_true, beq_iff_eq, List.mem_range, List.size_toArray] at hkap
  simp only [Region.lexB, Bool.and_eq_true] at hB
  refine wp_region_any hm ?_
  have hlen : l.length = l1.length + (l2.length + 1 + 1) := by
    have h3 := congrArg List.length h1
    have h4 := congrArg List.length h2
    simp only [List.length_take, List.length_drop, List.length_cons] at h3 h4
    omega
  have hc : l1.length = c := by
    have h3 := congrArg List.length h1
    simp only [List.length_take] at h3
    omega
  have hl1 : ∀ j, j < l1.length → l1[j]? = l.toArray[0 + j]? := fun j hj => by
    rw [← h1, List.getElem?_take, if_pos (by omega), Nat.zero_add, List.getElem?_toArray]
  have hl2 : ∀ j, (oc :: oj :: l2)[j]? = l.toArray[c + j]? := fun j => by
    rw [← h2, List.getElem?_drop, List.getElem?_toArray]
  -- K: closed under Eqv
  let KF : AS → Prop := fun s => ∃ s1, Eqv s1 s ∧ Cov nt.k s0 s1
  have hKF : ∀ s s' : AS, Eqv s s' → KF s → KF s' := fun s s' e ⟨s1, e1, q⟩ => ⟨s1, e1.trans e, q⟩
  have mono : ∀ {K K' : AS → Prop} (hk : ∀ s, K s → K' s) {k : Nat} {l' : List Oper} {s : AS}, Gx P nt l.toArray ws hs M K k l' s → Gx P nt l.toArray ws hs M K' k l' s := by
    intro K K' hk k l' s h
    induction h with
    | nil h => exact .nil (hk _ h)
    | step hx _ ih => exact .step hx ih
    | eqv he _ ih => exact .eqv he ih
  have base : ∀ s, Dia P nt l.toArray ws hs M (fun s' => Cov nt.k s0 s') c oc oj l2 s → DC .any l.toArray (setN c 0 (Array.replicate l.length false)) →
      Region.lexFrom .any l.toArray (l2.length + 1 + 1) c (setN c 0 (Array.replicate l.length false)) = true → AnyX P nt .any l.toArray ws hs M KF (l2.length + 1 + 1) (setN c 0 (Array.replicate l.length false)) s := by
    intro s ⟨w1, w2⟩ hdc hB2
    generalize setN c 0 (Array.replicate l.length false) = x at hdc hB2 d1 d2 d3 d4 d5 d6
    have o1 : l.toArray[c]? = some oc := by simpa using (hl2 0).symm
    have o2 : l.toArray[c + 1]? = some oj := by simpa using (hl2 1).symm
    simp only [Region.lexFrom, Bool.and_eq_true] at hB2
    have hB3 := hB2.2.2
    have hdc2 := (hdc.set d4).set d5
    have rest : ∀ s, Gx P nt l.toArray ws hs M (fun s' => Cov nt.k s0 s') (c + 2) l2 s → AnyX P nt .any l.toArray ws hs M KF l2.length ((x.setIfInBounds c true).setIfInBounds (c + 1) true) s := by
      intro s hg
      have hg2 := mono (K' := KF) (fun s h => ⟨s, Eqv.refl s, h⟩) hg
      have := anyX_lexB (md := .any) (n2 := 0) hKF hg2 ((x.setIfInBounds c true).setIfInBounds (c + 1) true) hdc2 (fun j hj => by
        have := hl2 (j + 2); simpa [Nat.add_assoc, Nat.add_comm 2 j] using this) (by simpa using hB3) (fun i h1 h2 => by
          rcases hkap i (by omega) with (h | h) | h
          · omega
          · omega
          · exact h) (fun s hs' _ hB4 => ⟨by simpa [Region.lexFrom] using hB4, hs'⟩)
      simpa using this
    obtain ⟨sa, xa, ga⟩ := w1.one (fun s s' e h => Gx.closed s s' e h)
    obtain ⟨sb, xb, gb⟩ := Gx.one (fun s s' e h => Gx.closed s s' e h) ga
    obtain ⟨sc, xc, gc⟩ := w2.one (fun s s' e h => Gx.closed s s' e h)
    obtain ⟨sd, xd, gd⟩ := Gx.one (fun s s' e h => Gx.closed s s' e h) gc
    refine ⟨fun h => (by rw [h] at d4; cases d4), fun i hi => ?_⟩
    rcases d1 i hi with rfl | rfl
    · refine ⟨oc, sa, o1, xa, fun h => (by rw [h] at d5; cases d5), fun i hi => ?_⟩
      obtain rfl := d2 i hi
      exact ⟨oj, sb, o2, xb, rest sb gb⟩
    · refine ⟨oj, sc, o2, xc, fun h => (by rw [h] at d6; cases d6), fun i hi => ?_⟩
      obtain rfl := d3 i hi
      refine ⟨oc, sd, o1, xd, ?_⟩
      rw [Array.setIfInBounds_comm _ _ (by omega)]
      exact rest sd gd
  have := anyX_lexB (md := .any) (n2 := l2.length + 1 + 1) hKF hx (Array.replicate l.length false) (fun j o _ hj => by
    have : (Array.replicate l.length false).getD j false = false := by
      simp only [Array.getD_eq_getD_getElem?, Array.getElem?_replicate]; split <;> rfl
    rw [this] at hj; cases hj) hl1 (by rw [← hlen]; simpa using hB.2) (fun i h1 h2 => by
      rcases hkap i (by omega) with (h | h) | h
      · omega
      · omega
      · exact h) (by rw [hc, Nat.zero_add]; exact base)
  rw [← hlen] at this
  refine wpAny_of_anyX (K := KF) (fun s' a w S Ow L hk' hR => ?_) hn _ _ _ _ _ _ _ _ (hR.drawn (w' := { w with drawn := w.drawn + 1 }) rfl rfl rfl rfl) (by simpa using this)
  obtain ⟨s1, e, q⟩ := hk'
  exact ⟨s1, S, Ow, L, thenA_normal (Holds.cov q hk), hR.eqv e.symm⟩
/-- Calls in such a region that look at own rows and make new ones. -/
theorem FzL.sub {bl bl' : List (Nat × Blk)} {xs ys : List AV} (h : FzL bl xs ys) (e : bl = bl') : FzL bl' xs ys := e ▸ h
theorem Wr.fnd {c : Operand} {aas : Array Operand} {ts : Array TypeId} {f : FuncId} {xs cap args : List AV} {m : Nat} {outs bl' : List (Nat × Blk)} {r : AV} (hp : Fn P f 0 args [] r m outs) (hop : o.op = .call ⟨.value c, aas, ts⟩) (hg : gd ops s o = some true) (hd : okd nt.n o.dst = true)
    (hc : ev s c = some (.fn f cap)) (he : aas.toList.mapM (ev s) = some xs) (hf : FzL s.bl (xs ++ cap) args) (hom : outs.all (fun p => decide (p.1 < m)) = true)
    (hor : Ony r) (hoo : ∀ p ∈ outs, onyR p.2.xs) (hr : okr m r = true) (hren : RenB (fun n => s.nx + n) m outs bl') (hM : (bl' ++ s.bl).filter (fun p => !M p.1) = s.bl.filter fun p => !M p.1) : Wr P nt ops M s o (En.ren (fun n => s.nx + n) r) (bl' ++ s.bl) (s.nx + m) := by
  refine ⟨hM, fun tm' h' C a w S Ow L i Q K hn ho hR hK => ?_⟩
  have hev : ∀ y ∈ o.op.operands, ev ⟨tm', s.bl, s.nx⟩ y = ev s y := ev_tm (s1 := ⟨tm', s.bl, s.nx⟩) h'
  have hev' := hev
  rw [hop] at hev'
  simp only [Op.operands, Call.operands] at hev'
  exact fnd_wp (s := ⟨tm', s.bl, s.nx⟩) ho (by rw [gd_tm (s := s) h']; exact hg) hop hd (by rw [hev' _ (by simp)]; exact hc)
    (by rw [mapM_congr (g := ev s) fun y hy => hev' y (by simp at hy; simp [hy])]; exact he) hf hom hp hor hoo hr hren hn hR hK
theorem Gx.fnnd {k : Nat} {c : Operand} {aas : Array Operand} {ts : Array TypeId} {f : FuncId} {xs cap args : List AV} {m : Nat} {outs bl' : List (Nat × Blk)} {r : AV} (hp : Fn P f 0 args [] r m outs) (hk : kind ws hs k = .w) (hop : o.op = .call ⟨.value c, aas, ts⟩) (hg : gd ops s o = some true) (hd : okd nt.n o.dst = true)
    (hc : ev s c = some (.fn f cap)) (he : aas.toList.mapM (ev s) = some xs) (hf : FzL s.bl (xs ++ cap) args) (hom : outs.all (fun p => decide (p.1 < m)) = true)
    (hor : Ony r) (hoo : ∀ p ∈ outs, onyR p.2.xs) (hr : okr m r = true) (hren : RenB (fun n => s.nx + n) m outs bl') (hM : (bl' ++ s.bl).filter (fun p => !M p.1) = s.bl.filter fun p => !M p.1) (hs1 : put (aft0 s m bl') o.dst (En.ren (fun n => s.nx + n) r) = s1) (h : Gx P nt ops ws hs M K (k + 1) l s1) : Gx P nt ops ws hs M K k (o :: l) s := by
  subst hs1
  refine .step (s' := put (aft0 s m bl') o.dst (En.ren (fun n => s.nx + n) r)) ?_ h
  rw [hk]
  exact ⟨_, _, _, Wr.fnd hp hop hg hd hc he hf hom hor hoo hr hren hM, rfl⟩
theorem Gx.fnndo {k : Nat} {c : Operand} {aas : Array Operand} {ts : Array TypeId} {f : FuncId} {xs cap args : List AV} {m : Nat} {outs bl' : List (Nat × Blk)} {r : AV} (hp : Fn P f 0 args [] r m outs) (hk : kind ws hs k = .o) (hop : o.op = .call ⟨.value c, aas, ts⟩) (hg : gd ops s o = some true) (hd : okd nt.n o.dst = true)
    (hc : ev s c = some (.fn f cap)) (he : aas.toList.mapM (ev s) = some xs) (hf : FzL s.bl (xs ++ cap) args) (hom : outs.all (fun p => decide (p.1 < m)) = true)
    (hor : Ony r) (hoo : ∀ p ∈ outs, onyR p.2.xs) (hr : okr m r = true) (hren : RenB (fun n => s.nx + n) m outs bl') (hs1 : put (aft0 s m bl') o.dst (En.ren (fun n => s.nx + n) r) = s1) (h : Gx P nt ops ws hs M K (k + 1) l s1) : Gx P nt ops ws hs M K k (o :: l) s := by
  subst hs1
  refine .step (s' := put (aft0 s m bl') o.dst (En.ren (fun n => s.nx + n) r)) ?_ h
  rw [hk]
  exact ⟨_, _, _, Wr.fnd (M := fun _ => true) hp hop hg hd hc he hf hom hor hoo hr hren (hid_all _ _), rfl⟩
end
end Go.Proofs.Ytiabaknmgbpmoaa.En
end
section
namespace Go.Proofs.Ytiabaknmgbpmoaa.En
open Go.RowKit
set_option linter.unusedSimpArgs false
set_option linter.unusedVariables false
section
attribute [local semireducible] G Gq Holds GS Pure Out Fn OutF
variable {P : Program} {nt : NT} {Q : Exit → AS → Prop} {s s' : AS} {K : AS → Prop} {c : Code}
theorem Cov.reblk {q n : Nat} {b b' : Blk} (hb : lb s.bl n = some b) (he : b'.e = b.e) (hz : b'.sz = b.sz) (hl : b'.xs.length = b.xs.length)
    (hr : ∀ (j : Nat) (row' : List AV), b'.xs[j]? = some row' → ∃ row, b.xs[j]? = some row ∧ row'.length = row.length ∧ ∀ (i : Nat) (x' : AV), row'[i]? = some x' → ∃ x, row[i]? = some x ∧ ∀ (w : World) (S : Nat → Prop) (Ow : Owners) (L : Names) (p : Path) (u : Value), Rep w S Ow L p x u → Rep w S Ow L p x' u) : Cov q ⟨s.tm, st s.bl n b', s.nx⟩ s := by
  intro C a w S Ow L _ h
  refine ⟨S, Ow, L, { fix := h.fix, keep := h.keep, inS := h.inS, upS := h.upS, ltS := h.ltS, owS := h.owS, ow := h.ow, ow0 := h.ow0, fresh := h.fresh, named := h.named, freshO := h.freshO, slot := h.slot, size := h.size, defers := h.defers, blk := fun m k hm => ?_ }⟩
  simp only [lb_st] at hm
  by_cases e : n = m
  · subst e
    rw [if_pos rfl, hb] at hm
    cases hm
    obtain ⟨loc, hL, hB⟩ := h.blk n b hb
    refine ⟨loc, hL, ?_⟩
    match loc, hB with
    | none, hB =>
      have h0 : b.xs.length = 0 := by rw [show b.xs = [] from hB]; rfl
      show b'.xs = []
      exact List.eq_nil_of_length_eq_zero (by omega)
    | some (bb, o, cap), ⟨h1, cs, us, h2, h3, h4, h5, h6, h7⟩ =>
      refine ⟨h1, cs, us, (by show w.heap[bb]? = some (.cells cs b'.e (0, 0)); rw [he]; exact h2), (by show cs.size = (o + cap) * b'.sz; rw [hz]; exact h3), (by show b'.xs.length ≤ cap; omega), fun j row hj => ?_, fun j row i x hj hi => ?_, fun j row i x hj hi => ?_⟩
      · obtain ⟨r, hr1, hr2, _⟩ := hr j row hj
        show row.length = b'.sz
        rw [hr2, hz]; exact h5 j r hr1
      · obtain ⟨r, hr1, _, hr3⟩ := hr j row hj
        obtain ⟨y, hy, _⟩ := hr3 i x hi
        show cs[(o + j) * b'.sz + i]? = some (us j i)
        rw [hz]; exact h6 j r i y hr1 hy
      · obtain ⟨r, hr1, _, hr3⟩ := hr j row hj
        obtain ⟨y, hy, hR⟩ := hr3 i x hi
        exact hR _ _ _ _ _ _ (h7 j r i y hr1 hy)
  · rw [if_neg e] at hm
    exact h.blk m k hm
theorem Cov.nilO {q n m : Nat} {e e1 : TypeId} {z : Nat} (hb : lb s.bl n = some ⟨e, 1, List.replicate m [.v (.slice none 0 0)]⟩) : Cov q ⟨s.tm, st s.bl n ⟨e, 1, List.replicate m [.ow e1 z []]⟩, s.nx⟩ s :=
  Cov.reblk hb rfl rfl (by simp) fun j row' hj => by
    rw [List.getElem?_replicate] at hj
    split at hj
    · rename_i hlt
      injection hj with hj
      subst hj
      refine ⟨[.v (.slice none 0 0)], by rw [List.getElem?_replicate, if_pos hlt], rfl, fun i x' hi => ?_⟩
      cases i with
      | zero =>
        simp only [List.getElem?_cons_zero, Option.some.injEq] at hi
        subst hi
        refine ⟨_, rfl, fun w S Ow L p u hu => ?_⟩
        obtain ⟨rfl, _⟩ := hu.v_inv
        exact .ow_nil _ _ _
      | succ i => simp at hi
    · cases hj
theorem Holds.nilO (n m : Nat) {e : TypeId} (e1 : TypeId) (z : Nat) (hb : lb s.bl n = some ⟨e, 1, List.replicate m [.v (.slice none 0 0)]⟩) (hs : (⟨s.tm, st s.bl n ⟨e, 1, List.replicate m [.ow e1 z []]⟩, s.nx⟩ : AS) = s') (h : Holds P nt c Q s') : Holds P nt c Q s := Holds.cov (Cov.nilO hb) (by rw [hs]; exact h)
end
end Go.Proofs.Ytiabaknmgbpmoaa.En
end
section
namespace Go.Proofs.Ytiabaknmgbpmoaa.En
open Go.RowKit
set_option linter.unusedSimpArgs false
set_option linter.unusedVariables false
set_option maxHeartbeats 4000000
def wIntS (x : List Int) : Nat := wtL w1 x
def mIntS (k : Int) (x : List Int) : List Int := cnt k x
theorem wIntS_m (k : Int) (x : List Int) : wIntS (mIntS k x) = wIntS x := by simp [wIntS, mIntS]
def intsO1 (x : List Int) : List AV := [.ow 3 1 (ints x)]
def intssO (l : List (List Int)) : List (List AV) := l.map intsO1
@[simp] theorem intssO_len (l : List (List Int)) : (intssO l).length = l.length := by simp [intssO]
@[simp] theorem intssO_get (l : List (List Int)) (i : Nat) : (intssO l)[i]? = (l[i]?).map intsO1 := by simp [intssO]
@[simp] theorem intssO_gE (l : List (List Int)) (i : Nat) (h : i < (intssO l).length) : (intssO l)[i] = intsO1 (l[i]'(by simpa using h)) := by simp [intssO]
theorem intssO_all (p : AV → Prop) (l : List (List Int)) (h : ∀ x ∈ l, ∀ y ∈ intsO1 x, p y) : ∀ row ∈ intssO l, ∀ y ∈ row, p y := by
  intro row hr y hy
  simp only [intssO, List.mem_map] at hr
  obtain ⟨n, hn, rfl⟩ := hr
  exact h n hn y hy
@[simp] theorem nfr_intssO (l : List (List Int)) : nfr (intssO l) := intssO_all _ l fun x _ y hy => by simp only [intsO1, List.mem_cons, List.not_mem_nil, or_false] at hy; rcases hy with rfl <;> rfl
@[simp] theorem onyR_intssO (l : List (List Int)) : onyR (intssO l) := intssO_all _ l fun x _ y hy => by simp only [intsO1, List.mem_cons, List.not_mem_nil, or_false] at hy; rcases hy with rfl <;> simp
theorem fz_intssO {bl : List (Nat × Blk)} {n len : Nat} {e : TypeId} (l : List (List Int)) (hk : lb bl n = some ⟨e, 1, intssO l⟩) (hl : len = l.length) : Fz bl (.own n 1 0 len) (.im 1 (intss l)) := Fz.rowsO l intsO1 intsC hk rfl rfl (fun x _ => show FzL bl (intsO1 x) (intsC x) from by simp only [intsO1, intsC]; exact .cons (Fz.owI (ints_cl _)) (.nil)) hl
theorem fzw_intssO {bl : List (Nat × Blk)} {e : TypeId} (l : List (List Int)) : Fz bl (.ow e 1 (intssO l)) (.im 1 (intss l)) := Fz.rowsW l intsO1 intsC (fun x _ => show FzL bl (intsO1 x) (intsC x) from by simp only [intsO1, intsC]; exact .cons (Fz.owI (ints_cl _)) (.nil))
theorem toIntSSO (l : List (List Int)) (h0 : l.length < 5864062014806) (h1 : ∀ q ∈ l, q.length < 35184372088832) : Fn Try.prog 66 0 [.im 1 (intss l)] [] (.own 0 1 0 l.length) 1 [(0, ⟨25, 1, intssO l⟩)] := by
  refine Fn.mk (rs := [.tmp 2]) (nt := 23) Try.func66 (by kernel_rfl) rfl rfl rfl (by simp) ?_
  simp only [sl]
  repeat' first
    | refine Holds.seq ?_
    | refine Holds.skip ?_
    | refine Holds.exit ?_
    | refine Holds.ret ?_
    | refine thenA_normal ?_
    | refine thenA_exit ?_
    | refine thenA_ret ?_
    | refine inB_normal ?_
    | refine inB_ret ?_
    | refine inB_here ?_
    | (refine inB_past ?_ ?_; (· exact rfl))
    | refine Holds.reg ?_
    | refine Holds.block ?_
    | refine GS.nil ?_
    | (refine GS.step (s' := ?_) ?_ ?_ ?_; rotate_left; (· exact rfl); (· (simp [go_sem, List.take_of_length_le, (show (0:Int) ≤ (l.length : Int) by omega), (show (24:Int) * l.length ≤ 281474976710656 by omega), (show (l.length : Int) ≤ 281474976710656 by omega)] <;> with_reducible rfl)))
    | (refine GS.skip ?_ ?_ ?_; (· exact rfl); (· exact rfl))
    | fail
  refine Holds.loop (ι := Nat) (fun i => ⟨[(0, .im 1 (intss l)), (3, .own 0 1 0 l.length), (4, .v (.int .i64 i))], [(0, ⟨25, 1, half (intssO l) [.v (.slice none 0 0)] i⟩)], 1⟩) (fun i => i ≤ l.length) (fun i => l.length - i) 0 (Nat.zero_le _) ?_ ?_
  · have hnf0 : nfr (List.replicate l.length ([.v (.slice none 0 0)] : List AV)) := .rep (by simp [nf])
    exact Cov.ofn (id) rfl (by simp [go_sem, List.take_of_length_le, ren, ren1, ren2, okr, okr1, okr2, ChkT, ChkN, BlkN, nf, half, hnf0]) (by simp [go_sem, List.take_of_length_le, ren, ren1, ren2, okr, okr1, okr2, ChkT, ChkN, BlkN, nf, half, hnf0])
  intro i hi
  repeat' first
    | refine Holds.seq ?_
    | refine Holds.skip ?_
    | refine Holds.exit ?_
    | refine Holds.ret ?_
    | refine thenA_normal ?_
    | refine thenA_exit ?_
    | refine thenA_ret ?_
    | refine inB_normal ?_
    | refine inB_ret ?_
    | refine inB_here ?_
    | (refine inB_past ?_ ?_; (· exact rfl))
    | refine Holds.reg ?_
    | refine Holds.block ?_
    | refine GS.nil ?_
    | (refine GS.step (s' := ?_) ?_ ?_ ?_; rotate_left; (· exact rfl); (· (simp [go_sem, List.take_of_length_le] <;> with_reducible rfl)))
    | (refine GS.skip ?_ ?_ ?_; (· exact rfl); (· exact rfl))
    | fail
  refine Holds.cond rfl (fun hl => ?_) (fun hl => ?_)
  · have hlt : i < l.length := by simpa using hl
    have hxi : l[i]? = some l[i] := List.getElem?_eq_getElem hlt
    have hhi := half_get (intssO l) [.v (.slice none 0 0)] i (by simpa using hlt)
    have hhs := half_set (intssO l) [.v (.slice none 0 0)] i (by simpa using hlt) (intsO1 l[i]) (by simp [hxi])
    have hnf : nfr (half (intssO l) [.v (.slice none 0 0)] i) := nfr_half (by simp) (by simp [nf])
    have hnf1 : nfr (half (intssO l) [.v (.slice none 0 0)] (i + 1)) := nfr_half (by simp) (by simp [nf])
    simp only [intsO1] at hhs
    repeat' first
      | refine Holds.seq ?_
      | refine Holds.skip ?_
      | refine Holds.exit ?_
      | refine Holds.ret ?_
      | refine thenA_normal ?_
      | refine thenA_exit ?_
      | refine thenA_ret ?_
      | refine inB_normal ?_
      | refine inB_ret ?_
      | refine inB_here ?_
      | (refine inB_past ?_ ?_; (· exact rfl))
      | refine Holds.reg ?_
      | refine Holds.block ?_
      | refine GS.nil ?_
      | (refine GS.step (s' := ?_) ?_ ?_ ?_; rotate_left; (· exact rfl); (· (simp [go_sem, List.take_of_length_le, hxi, hlt, intsC] <;> with_reducible rfl)))
      | (refine GS.skip ?_ ?_ ?_; (· exact rfl); (· exact rfl))
      | fail
    refine GS.fnn [] (toIntSO l[i] (h1 _ (List.getElem_mem hlt))) rfl rfl rfl rfl (by simp [go_sem, List.take_of_length_le, ren, ren1, ren2, okr, okr1, okr2, ChkN, BlkN, List.range_succ, nf, intsC] <;> with_reducible rfl) (by simp [go_sem, List.take_of_length_le, ren, ren1, ren2, okr, okr1, okr2, ChkN, BlkN, List.range_succ, nf, intsC]) (by simp [go_sem, List.take_of_length_le, ren, ren1, ren2, okr, okr1, okr2, ChkN, BlkN, List.range_succ, nf, intsC]) (by simp [List.range_succ, lb]) (ChkN.toB (by simp [go_sem, List.take_of_length_le, ren, ren1, ren2, okr, okr1, okr2, ChkN, BlkN, List.range_succ, nf, intsC])) (by decide) (by simp) rfl (.nfr (by simp) .nil) (by simp [go_sem, List.take_of_length_le, ren, ren1, ren2, okr, okr1, okr2, ChkN, BlkN, List.range_succ, nf, intsC] <;> with_reducible rfl) ?_
    repeat' first
      | refine Holds.seq ?_
      | refine Holds.skip ?_
      | refine Holds.exit ?_
      | refine Holds.ret ?_
      | refine thenA_normal ?_
      | refine thenA_exit ?_
      | refine thenA_ret ?_
      | refine inB_normal ?_
      | refine inB_ret ?_
      | refine inB_here ?_
      | (refine inB_past ?_ ?_; (· exact rfl))
      | refine Holds.reg ?_
      | refine Holds.block ?_
      | refine GS.nil ?_
      | (refine GS.step (s' := ?_) ?_ ?_ ?_; rotate_left; (· exact rfl); (· (simp [go_sem, List.take_of_length_le, hxi, hlt, hhi, hhs, intsC] <;> with_reducible rfl)))
      | (refine GS.skip ?_ ?_ ?_; (· exact rfl); (· exact rfl))
      | fail
    refine ⟨i + 1, by omega, by omega, ?_⟩
    rw [wr64_id (by omega) (by omega)]
    refine Cov.trans ?_ (Cov.close 0 i 0 rfl (set_get hhi) rfl rfl rfl rfl (by first | rfl | simp) (by simp))
    simp only [rm, st, List.set_set, List.set_cons_zero, List.set_cons_succ, hhs]
    exact Cov.ofn (id) rfl (by simp [go_sem, List.take_of_length_le, ren, ren1, ren2, okr, okr1, okr2, ChkT, ChkN, BlkN, nf, hnf, hnf1]) (by simp [go_sem, List.take_of_length_le, ren, ren1, ren2, okr, okr1, okr2, ChkT, ChkN, BlkN, nf, hnf, hnf1])
  · have hle : i = l.length := by
      have : ¬ i < l.length := by simpa using hl
      omega
    subst hle
    rw [show half (intssO l) [.v (.slice none 0 0)] l.length = intssO l by have := half_all (intssO l) ([.v (.slice none 0 0)] : List AV); rwa [show (intssO l).length = l.length by simp] at this]
    repeat' first
      | refine Holds.seq ?_
      | refine Holds.skip ?_
      | refine Holds.exit ?_
      | refine Holds.ret ?_
      | refine thenA_normal ?_
      | refine thenA_exit ?_
      | refine thenA_ret ?_
      | refine inB_normal ?_
      | refine inB_ret ?_
      | refine inB_here ?_
      | (refine inB_past ?_ ?_; (· exact rfl))
      | refine Holds.reg ?_
      | refine Holds.block ?_
      | refine GS.nil ?_
      | (refine GS.step (s' := ?_) ?_ ?_ ?_; rotate_left; (· exact rfl); (· (simp [go_sem, List.take_of_length_le] <;> with_reducible rfl)))
      | (refine GS.skip ?_ ?_ ?_; (· exact rfl); (· exact rfl))
      | fail
    refine OutF.mkn (xs := ?_) (nm [0]) ?_ ?_ ?_ ?_ ?_ (by first | exact .inr rfl | exact .inl rfl)
    rotate_left
    · simp [go_sem, List.take_of_length_le] <;> with_reducible rfl
    · simp [go_sem, List.take_of_length_le, ren, ren1, ren2, okr, okr1, okr2, ChkN, BlkN, List.range_succ, nf]
    · simp [go_sem, List.take_of_length_le, ren, ren1, ren2, okr, okr1, okr2, ChkN, BlkN, List.range_succ, nf]
    · simp [go_sem, List.take_of_length_le, ren, ren1, ren2, okr, okr1, okr2, ChkN, BlkN, List.range_succ, nf]
    · rfl
theorem markIntSS (l : List (List Int)) (k : Int) (h0 : 0 ≤ k) (h1 : k + wtL wIntS l ≤ 4611686018427387904) (h2 : l.length ≤ 4611686018427387904) : Fn Try.prog 32 1 [.own 0 1 0 l.length, .v (.int .i64 k)] [(0, ⟨25, 1, intssO l⟩)] (.v (.int .i64 (k + wtL wIntS l))) 1 [(0, ⟨25, 1, intssO (mkL wIntS mIntS k l)⟩)] := by
  have hl0 : (intssO (mkL wIntS mIntS k l)).length = (intssO l).length := by simp
  have hl1 : (intssO l).length = l.length := by simp
  refine Fn.mk (rs := [.tmp 4]) (nt := 19) Try.func32 (by kernel_rfl) rfl rfl rfl (by simp) ?_
  simp only [sl]
  repeat' first
    | refine Holds.seq ?_
    | refine Holds.skip ?_
    | refine Holds.exit ?_
    | refine Holds.ret ?_
    | refine thenA_normal ?_
    | refine thenA_exit ?_
    | refine thenA_ret ?_
    | refine inB_normal ?_
    | refine inB_ret ?_
    | refine inB_here ?_
    | (refine inB_past ?_ ?_; (· exact rfl))
    | refine Holds.reg ?_
    | refine Holds.block ?_
    | refine GS.nil ?_
    | (refine GS.step (s' := ?_) ?_ ?_ ?_; rotate_left; (· exact rfl); (· (simp [go_sem, List.take_of_length_le] <;> with_reducible rfl)))
    | (refine GS.skip ?_ ?_ ?_; (· exact rfl); (· exact rfl))
    | fail
  refine Holds.loop (ι := Nat) (fun i => ⟨[(0, .own 0 1 0 l.length), (1, .v (.int .i64 (k + wtL wIntS (l.take i)))), (5, .v (.int .i64 i))], [(0, ⟨25, 1, mid (intssO (mkL wIntS mIntS k l)) (intssO l) i⟩)], 1⟩) (fun i => i ≤ l.length) (fun i => l.length - i) 0 (Nat.zero_le _) ?_ ?_
  · exact Cov.ofn (id) rfl (by simp [go_sem, List.take_of_length_le, ren, ren1, ren2, okr, okr1, okr2, ChkT, ChkN, BlkN, nf, wtL]) (by simp [go_sem, List.take_of_length_le, ren, ren1, ren2, okr, okr1, okr2, ChkT, ChkN, BlkN, nf, wtL])
  intro i hi
  have hml := (mid_len (i := i) hl0).trans hl1
  repeat' first
    | refine Holds.seq ?_
    | refine Holds.skip ?_
    | refine Holds.exit ?_
    | refine Holds.ret ?_
    | refine thenA_normal ?_
    | refine thenA_exit ?_
    | refine thenA_ret ?_
    | refine inB_normal ?_
    | refine inB_ret ?_
    | refine inB_here ?_
    | (refine inB_past ?_ ?_; (· exact rfl))
    | refine Holds.reg ?_
    | refine Holds.block ?_
    | refine GS.nil ?_
    | (refine GS.step (s' := ?_) ?_ ?_ ?_; rotate_left; (· exact rfl); (· (simp [go_sem, List.take_of_length_le, hml] <;> with_reducible rfl)))
    | (refine GS.skip ?_ ?_ ?_; (· exact rfl); (· exact rfl))
    | fail
  refine Holds.cond rfl (fun hl => ?_) (fun hl => ?_)
  · have hlt : i < l.length := by simpa using hl
    have hxi : l[i]? = some l[i] := List.getElem?_eq_getElem hlt
    have hwn := wtL_next wIntS hxi
    have hwl := wtL_le wIntS l (i + 1)
    have hmk : (mkL wIntS mIntS k l)[i]? = some (mIntS (k + wtL wIntS (l.take i)) l[i]) := by rw [mkL_get, hxi]; rfl
    have hhi := (mid_get hl0 (i := i) (by simpa using hlt)).trans (show (intssO l)[i]? = some (intsO1 l[i]) by simp [hxi])
    have hhs := mid_set hl0 (i := i) (by simpa using hlt) (show (intssO (mkL wIntS mIntS k l))[i]? = some (intsO1 (mIntS (k + wtL wIntS (l.take i)) l[i])) by simp [hmk])
    have hnf : nfr (mid (intssO (mkL wIntS mIntS k l)) (intssO l) i) := nfr_mid (by simp) (by simp)
    have hnf1 : nfr (mid (intssO (mkL wIntS mIntS k l)) (intssO l) (i + 1)) := nfr_mid (by simp) (by simp)
    have hW0 : (0 : Int) ≤ (wtL wIntS (l.take i) : Int) := Int.natCast_nonneg _
    generalize wtL wIntS (l.take i) = W at hwn hmk hhs hW0 ⊢
    generalize hX : l[i] = x at hxi hwn hmk hhi hhs
    simp only [wIntS] at hwn
    simp only [intsO1, mIntS] at hhs
    simp only [intsO1] at hhi
    have hhe := get_E hhi
    repeat' first
      | refine Holds.seq ?_
      | refine Holds.skip ?_
      | refine Holds.exit ?_
      | refine Holds.ret ?_
      | refine thenA_normal ?_
      | refine thenA_exit ?_
      | refine thenA_ret ?_
      | refine inB_normal ?_
      | refine inB_ret ?_
      | refine inB_here ?_
      | (refine inB_past ?_ ?_; (· exact rfl))
      | refine Holds.reg ?_
      | refine Holds.block ?_
      | refine GS.nil ?_
      | (refine GS.step (s' := ?_) ?_ ?_ ?_; rotate_left; (· exact rfl); (· (simp [go_sem, List.take_of_length_le, hml, hhi, hhe, hlt, hl0] <;> with_reducible rfl)))
      | (refine GS.skip ?_ ?_ ?_; (· exact rfl); (· exact rfl))
      | fail
    refine GS.fnn [1] (markIntS x ((k + W : Int)) (by omega) (by omega)) rfl rfl rfl rfl (by simp [go_sem, List.take_of_length_le, ren, ren1, ren2, okr, okr1, okr2, ChkN, BlkN, List.range_succ, nf, hml, hhi, hhe, hlt, hl0] <;> with_reducible rfl) (by simp [go_sem, List.take_of_length_le, ren, ren1, ren2, okr, okr1, okr2, ChkN, BlkN, List.range_succ, nf, hml, hhi, hhe, hlt, hl0]) (by simp [go_sem, List.take_of_length_le, ren, ren1, ren2, okr, okr1, okr2, ChkN, BlkN, List.range_succ, nf, hml, hhi, hhe, hlt, hl0]) (by simp [List.range_succ, lb]) (ChkN.toB (by simp [go_sem, List.take_of_length_le, ren, ren1, ren2, okr, okr1, okr2, ChkN, BlkN, List.range_succ, nf, hml, hhi, hhe, hlt, hl0])) (by decide) (by simp) rfl (.nfr (by simp) .nil) (by simp [go_sem, List.take_of_length_le, ren, ren1, ren2, okr, okr1, okr2, ChkN, BlkN, List.range_succ, nf, hml, hhi, hhe, hlt, hl0] <;> with_reducible rfl) ?_
    repeat' first
      | refine Holds.seq ?_
      | refine Holds.skip ?_
      | refine Holds.exit ?_
      | refine Holds.ret ?_
      | refine thenA_normal ?_
      | refine thenA_exit ?_
      | refine thenA_ret ?_
      | refine inB_normal ?_
      | refine inB_ret ?_
      | refine inB_here ?_
      | (refine inB_past ?_ ?_; (· exact rfl))
      | refine Holds.reg ?_
      | refine Holds.block ?_
      | refine GS.nil ?_
      | (refine GS.step (s' := ?_) ?_ ?_ ?_; rotate_left; (· exact rfl); (· (simp [go_sem, List.take_of_length_le, hml, hhi, hhe, hlt, hl0] <;> with_reducible rfl)))
      | (refine GS.skip ?_ ?_ ?_; (· exact rfl); (· exact rfl))
      | fail
    refine ⟨i + 1, by omega, by omega, ?_⟩
    rw [show wr64 ((i : Int) + 1) = ((i + 1 : Nat) : Int) from wr64_id (by omega) (by omega), hwn]
    refine Cov.trans ?_ (Cov.close 0 i 0 rfl (set_get hhi) rfl rfl rfl rfl (by first | rfl | simp) (by simp))
    simp only [rm, st, List.set_set, List.set_cons_zero, List.set_cons_succ]
    exact Cov.ofn (id) rfl (by simp [go_sem, List.take_of_length_le, ren, ren1, ren2, okr, okr1, okr2, ChkT, ChkN, BlkN, nf, hhs, hnf, hnf1, Int.add_assoc]) (by simp [go_sem, List.take_of_length_le, ren, ren1, ren2, okr, okr1, okr2, ChkT, ChkN, BlkN, nf, hhs, hnf, hnf1])
  · have hle : i = l.length := by
      have : ¬ i < l.length := by simpa using hl
      omega
    subst hle
    rw [mid_all (by simp) (by simp), List.take_length]
    repeat' first
      | refine Holds.seq ?_
      | refine Holds.skip ?_
      | refine Holds.exit ?_
      | refine Holds.ret ?_
      | refine thenA_normal ?_
      | refine thenA_exit ?_
      | refine thenA_ret ?_
      | refine inB_normal ?_
      | refine inB_ret ?_
      | refine inB_here ?_
      | (refine inB_past ?_ ?_; (· exact rfl))
      | refine Holds.reg ?_
      | refine Holds.block ?_
      | refine GS.nil ?_
      | (refine GS.step (s' := ?_) ?_ ?_ ?_; rotate_left; (· exact rfl); (· (simp [go_sem, List.take_of_length_le] <;> with_reducible rfl)))
      | (refine GS.skip ?_ ?_ ?_; (· exact rfl); (· exact rfl))
      | fail
    refine OutF.mkn (xs := ?_) (nm [0]) ?_ ?_ ?_ ?_ ?_ (by first | exact .inr rfl | exact .inl rfl)
    rotate_left
    · simp [go_sem, List.take_of_length_le] <;> with_reducible rfl
    · simp [go_sem, List.take_of_length_le, ren, ren1, ren2, okr, okr1, okr2, ChkN, BlkN, List.range_succ, nf]
    · simp [go_sem, List.take_of_length_le, ren, ren1, ren2, okr, okr1, okr2, ChkN, BlkN, List.range_succ, nf]
    · simp [go_sem, List.take_of_length_le, ren, ren1, ren2, okr, okr1, okr2, ChkN, BlkN, List.range_succ, nf]
    · rfl
theorem heldIntSS (l : List (List Int)) (k : Int) (h0 : 0 ≤ k) (h1 : k + wtL wIntS l ≤ 4611686018427387904) (h2 : l.length ≤ 4611686018427387904) : Pure Try.prog 33 [.im 1 (intss (mkL wIntS mIntS k l)), .v (.int .i64 k)] (.v (.int .i64 (k + wtL wIntS l))) := by
  have hl0 : (intss (mkL wIntS mIntS k l)).length = l.length := by simp
  refine Pure.mk (rs := [.tmp 4]) (nt := 21) Try.func33 (by kernel_rfl) rfl rfl rfl (by simp) ?_
  simp only [sl]
  repeat' first
    | refine Holds.seq ?_
    | refine Holds.skip ?_
    | refine Holds.exit ?_
    | refine Holds.ret ?_
    | refine thenA_normal ?_
    | refine thenA_exit ?_
    | refine thenA_ret ?_
    | refine inB_normal ?_
    | refine inB_ret ?_
    | refine inB_here ?_
    | (refine inB_past ?_ ?_; (· exact rfl))
    | refine Holds.reg ?_
    | refine Holds.block ?_
    | refine GS.nil ?_
    | (refine GS.step (s' := ?_) ?_ ?_ ?_; rotate_left; (· exact rfl); (· (simp [go_sem, List.take_of_length_le] <;> with_reducible rfl)))
    | (refine GS.skip ?_ ?_ ?_; (· exact rfl); (· exact rfl))
    | fail
  refine Holds.loop (ι := Nat) (fun i => ⟨[(0, .im 1 (intss (mkL wIntS mIntS k l))), (1, .v (.int .i64 (k + wtL wIntS (l.take i)))), (5, .v (.int .i64 i))], [], 0⟩) (fun i => i ≤ l.length) (fun i => l.length - i) 0 (Nat.zero_le _) ?_ ?_
  · exact Cov.ofn (id) rfl (by simp [go_sem, List.take_of_length_le, ren, ren1, ren2, okr, okr1, okr2, ChkT, ChkN, BlkN, nf, wtL]) (by simp [go_sem, List.take_of_length_le, ren, ren1, ren2, okr, okr1, okr2, ChkT, ChkN, BlkN, nf, wtL])
  intro i hi
  repeat' first
    | refine Holds.seq ?_
    | refine Holds.skip ?_
    | refine Holds.exit ?_
    | refine Holds.ret ?_
    | refine thenA_normal ?_
    | refine thenA_exit ?_
    | refine thenA_ret ?_
    | refine inB_normal ?_
    | refine inB_ret ?_
    | refine inB_here ?_
    | (refine inB_past ?_ ?_; (· exact rfl))
    | refine Holds.reg ?_
    | refine Holds.block ?_
    | refine GS.nil ?_
    | (refine GS.step (s' := ?_) ?_ ?_ ?_; rotate_left; (· exact rfl); (· (simp [go_sem, List.take_of_length_le, hl0] <;> with_reducible rfl)))
    | (refine GS.skip ?_ ?_ ?_; (· exact rfl); (· exact rfl))
    | fail
  refine Holds.cond rfl (fun hl => ?_) (fun hl => ?_)
  · have hlt : i < l.length := by simpa using hl
    have hxi : l[i]? = some l[i] := List.getElem?_eq_getElem hlt
    have hwn := wtL_next wIntS hxi
    have hwl := wtL_le wIntS l (i + 1)
    have hhi : (intss (mkL wIntS mIntS k l))[i]? = some (intsC (mIntS (k + wtL wIntS (l.take i)) l[i])) := by simp [mkL_get, hxi]
    have hW0 : (0 : Int) ≤ (wtL wIntS (l.take i) : Int) := Int.natCast_nonneg _
    generalize wtL wIntS (l.take i) = W at hwn hhi hW0 ⊢
    generalize hX : l[i] = x at hxi hwn hhi
    simp only [wIntS] at hwn
    simp only [intsC, mIntS] at hhi
    have hhe := get_E hhi
    generalize intss (mkL wIntS mIntS k l) = rowsM at hhi hhe hl0 ⊢
    repeat' first
      | refine Holds.seq ?_
      | refine Holds.skip ?_
      | refine Holds.exit ?_
      | refine Holds.ret ?_
      | refine thenA_normal ?_
      | refine thenA_exit ?_
      | refine thenA_ret ?_
      | refine inB_normal ?_
      | refine inB_ret ?_
      | refine inB_here ?_
      | (refine inB_past ?_ ?_; (· exact rfl))
      | refine Holds.reg ?_
      | refine Holds.block ?_
      | refine GS.nil ?_
      | (refine GS.step (s' := ?_) ?_ ?_ ?_; rotate_left; (· exact rfl); (· (simp [go_sem, List.take_of_length_le, hhi, hhe, hlt, hl0] <;> with_reducible rfl)))
      | (refine GS.skip ?_ ?_ ?_; (· exact rfl); (· exact rfl))
      | fail
    have hc0 := heldIntS x ((k + W : Int)) (by omega) (by omega)
    refine GS.cc (hc0) rfl rfl rfl rfl (by simp [go_sem, List.take_of_length_le, hhi, hhe, hlt, hl0] <;> with_reducible rfl) rfl (by simp [go_sem, List.take_of_length_le, hhi, hhe, hlt, hl0]) ?_
    repeat' first
      | refine Holds.seq ?_
      | refine Holds.skip ?_
      | refine Holds.exit ?_
      | refine Holds.ret ?_
      | refine thenA_normal ?_
      | refine thenA_exit ?_
      | refine thenA_ret ?_
      | refine inB_normal ?_
      | refine inB_ret ?_
      | refine inB_here ?_
      | (refine inB_past ?_ ?_; (· exact rfl))
      | refine Holds.reg ?_
      | refine Holds.block ?_
      | refine GS.nil ?_
      | (refine GS.step (s' := ?_) ?_ ?_ ?_; rotate_left; (· exact rfl); (· (simp [go_sem, List.take_of_length_le, hhi, hhe, hlt, hl0] <;> with_reducible rfl)))
      | (refine GS.skip ?_ ?_ ?_; (· exact rfl); (· exact rfl))
      | fail
    refine Holds.cond rfl (fun hl => absurd hl (by simp; omega)) (fun hl => ?_)
    repeat' first
      | refine Holds.seq ?_
      | refine Holds.skip ?_
      | refine Holds.exit ?_
      | refine Holds.ret ?_
      | refine thenA_normal ?_
      | refine thenA_exit ?_
      | refine thenA_ret ?_
      | refine inB_normal ?_
      | refine inB_ret ?_
      | refine inB_here ?_
      | (refine inB_past ?_ ?_; (· exact rfl))
      | refine Holds.reg ?_
      | refine Holds.block ?_
      | refine GS.nil ?_
      | (refine GS.step (s' := ?_) ?_ ?_ ?_; rotate_left; (· exact rfl); (· (simp [go_sem, List.take_of_length_le, hhi, hhe, hlt, hl0] <;> with_reducible rfl)))
      | (refine GS.skip ?_ ?_ ?_; (· exact rfl); (· exact rfl))
      | fail
    refine ⟨i + 1, by omega, by omega, ?_⟩
    rw [show wr64 ((i : Int) + 1) = ((i + 1 : Nat) : Int) from wr64_id (by omega) (by omega), hwn]
    exact Cov.ofn (id) rfl (by simp [go_sem, List.take_of_length_le, ren, ren1, ren2, okr, okr1, okr2, ChkT, ChkN, BlkN, nf, Int.add_assoc]) (by simp [go_sem, List.take_of_length_le, ren, ren1, ren2, okr, okr1, okr2, ChkT, ChkN, BlkN, nf])
  · have hle : i = l.length := by
      have : ¬ i < l.length := by simpa using hl
      omega
    subst hle
    rw [List.take_length]
    repeat' first
      | refine Holds.seq ?_
      | refine Holds.skip ?_
      | refine Holds.exit ?_
      | refine Holds.ret ?_
      | refine thenA_normal ?_
      | refine thenA_exit ?_
      | refine thenA_ret ?_
      | refine inB_normal ?_
      | refine inB_ret ?_
      | refine inB_here ?_
      | (refine inB_past ?_ ?_; (· exact rfl))
      | refine Holds.reg ?_
      | refine Holds.block ?_
      | refine GS.nil ?_
      | (refine GS.step (s' := ?_) ?_ ?_ ?_; rotate_left; (· exact rfl); (· (simp [go_sem, List.take_of_length_le, hl0] <;> with_reducible rfl)))
      | (refine GS.skip ?_ ?_ ?_; (· exact rfl); (· exact rfl))
      | fail
    refine Out.mk (xs := ?_) ?_ ?_ (by first | exact .inr rfl | exact .inl rfl)
    rotate_left
    · simp [go_sem, List.take_of_length_le] <;> with_reducible rfl
    exact .v _
end Go.Proofs.Ytiabaknmgbpmoaa.En
end
section
namespace Go.Proofs.Ytiabaknmgbpmoaa.En
open Go.RowKit
set_option linter.unusedSimpArgs false
set_option linter.unusedVariables false
set_option maxHeartbeats 4000000
theorem intssO_one (r : List Int) : [[AV.ow 3 1 (ints r)]] = intssO [r] := by simp [intssO, intsO1]
theorem oAt (xs : List (List Int)) (r : List AV) : (intssO xs ++ [r])[xs.length]? = some r := by simp
theorem oSnoc (xs : List (List Int)) (r : List AV) (q : List Int) : (intssO xs ++ [r]).set xs.length [.ow 3 1 (ints q)] = intssO (xs ++ [q]) := by
  have h : (intssO xs).length = xs.length := intssO_len xs
  rw [List.set_append_right _ _ (by omega), h, Nat.sub_self]; simp [intssO, intsO1]
theorem oApp (xs : List (List Int)) (q : List Int) : intssO xs ++ [[.ow 3 1 (ints q)]] = intssO (xs ++ [q]) := by simp [intssO, intsO1]
theorem oSet (xs : List (List Int)) {i : Nat} {q : List Int} (h : xs[i]? = some q) : (intssO xs).set i [.ow 3 1 (ints q)] = intssO xs := by
  obtain ⟨hi, e⟩ := List.getElem?_eq_some_iff.1 h
  subst e
  refine List.ext_getElem? fun k => ?_
  by_cases hk : i = k
  · subst hk; simp [List.getElem?_set, hi, intsO1]
  · simp [List.getElem?_set, hk]
theorem oPut (xs : List (List Int)) (i : Nat) (q : List Int) : (intssO xs).set i [.ow 3 1 (ints q)] = intssO (xs.set i q) := by simp [intssO, intsO1, List.map_set]
theorem oGet {xs : List (List Int)} {i : Nat} {q : List Int} (h : xs[i]? = some q) : (intssO xs)[i]? = some [.ow 3 1 (ints q)] := by simp [h, intsO1]
theorem Fz.pbM {bl : List (Nat × Blk)} {n sz : Nat} {k : Blk} {row ys : List AV} (hk : lb bl n = some k) (hx : k.xs = [row]) (hz : k.sz = sz) (h : FzL bl row ys) : Fz bl (.pb n sz 0 0) (.pi ys) := by
  subst hz
  exact .pb n 0 0 k row ys hk (by rw [hx]; rfl) (by rw [List.drop_zero]; exact Nat.le_of_eq h.len) (fun q x y h1 h2 => h.get q x y (by simpa using h1) h2)
theorem indexFuncIntS (g : FuncId) (cap : List AV) (p : (List Int) → Bool) (xs : List (List Int)) (hx : xs.length < 4611686018427387904) (hcap : cap.all cl1 = true) (hg : ∀ x ∈ xs, Pure Try.prog g (.im 1 (ints x) :: cap) (.v (.bool (p x)))) : Pure Try.prog 72 [.im 1 (intss xs), .fn g cap] (.v (.int .i64 (fstP p xs 0))) := by
  refine Pure.mk (rs := [.tmp 4]) (nt := 19) Try.func72 (by kernel_rfl) rfl rfl rfl (by simp) ?_
  simp only [sl]
  repeat' first
    | refine Holds.seq ?_
    | refine Holds.skip ?_
    | refine Holds.exit ?_
    | refine Holds.ret ?_
    | refine thenA_normal ?_
    | refine thenA_exit ?_
    | refine thenA_ret ?_
    | refine inB_normal ?_
    | refine inB_ret ?_
    | refine inB_here ?_
    | (refine inB_past ?_ ?_; (· exact rfl))
    | refine Holds.reg ?_
    | refine Holds.block ?_
    | refine GS.nil ?_
    | (refine GS.step (s' := ?_) ?_ ?_ ?_; rotate_left; (· exact rfl); (· (simp [go_sem, List.take_of_length_le] <;> with_reducible rfl)))
    | (refine GS.skip ?_ ?_ ?_; (· exact rfl); (· exact rfl))
    | fail
  refine Holds.loop (ι := Nat) (fun i => ⟨[(0, .im 1 (intss xs)), (1, .fn g cap), (7, .v (.int .i64 xs.length)), (8, .v (.int .i64 i))], [], 0⟩) (fun i => i ≤ xs.length ∧ ∀ j, j < i → ∀ x, xs[j]? = some x → p x = false) (fun i => xs.length - i) 0 ⟨Nat.zero_le _, fun j hj => absurd hj (Nat.not_lt_zero j)⟩ ?_ ?_
  · exact Cov.ofn id rfl (by simp [go_sem, ren, ren1, okr, okr1, ChkT, okr1_cap hcap, ren1_cap hcap]) (by simp [ChkN])
  rintro i ⟨hi, hno⟩
  repeat' first
    | refine Holds.seq ?_
    | refine Holds.skip ?_
    | refine Holds.exit ?_
    | refine Holds.ret ?_
    | refine thenA_normal ?_
    | refine thenA_exit ?_
    | refine thenA_ret ?_
    | refine inB_normal ?_
    | refine inB_ret ?_
    | refine inB_here ?_
    | (refine inB_past ?_ ?_; (· exact rfl))
    | refine Holds.reg ?_
    | refine Holds.block ?_
    | refine GS.nil ?_
    | (refine GS.step (s' := ?_) ?_ ?_ ?_; rotate_left; (· exact rfl); (· (simp [go_sem, List.take_of_length_le] <;> with_reducible rfl)))
    | (refine GS.skip ?_ ?_ ?_; (· exact rfl); (· exact rfl))
    | fail
  refine Holds.cond rfl (fun hl => ?_) (fun hl => ?_)
  · have hlt : i < xs.length := by simpa using hl
    have hxi : xs[i]? = some xs[i] := List.getElem?_eq_getElem hlt
    have hgi := hg _ (List.getElem_mem hlt)
    repeat' first
      | refine Holds.seq ?_
      | refine Holds.skip ?_
      | refine Holds.exit ?_
      | refine Holds.ret ?_
      | refine thenA_normal ?_
      | refine thenA_exit ?_
      | refine thenA_ret ?_
      | refine inB_normal ?_
      | refine inB_ret ?_
      | refine inB_here ?_
      | (refine inB_past ?_ ?_; (· exact rfl))
      | refine Holds.reg ?_
      | refine Holds.block ?_
      | refine GS.nil ?_
      | (refine GS.step (s' := ?_) ?_ ?_ ?_; rotate_left; (· exact rfl); (· (simp [go_sem, List.take_of_length_le, hxi , intsC] <;> with_reducible rfl)))
      | (refine GS.skip ?_ ?_ ?_; (· exact rfl); (· exact rfl))
      | fail
    refine GS.cc (hgi) rfl rfl rfl rfl (by simp [go_sem, List.take_of_length_le, hcap, all_cl1 hcap , intsC] <;> with_reducible rfl) rfl (by simp [go_sem, List.take_of_length_le, hcap, all_cl1 hcap , intsC]) ?_
    repeat' first
      | refine Holds.seq ?_
      | refine Holds.skip ?_
      | refine Holds.exit ?_
      | refine Holds.ret ?_
      | refine thenA_normal ?_
      | refine thenA_exit ?_
      | refine thenA_ret ?_
      | refine inB_normal ?_
      | refine inB_ret ?_
      | refine inB_here ?_
      | (refine inB_past ?_ ?_; (· exact rfl))
      | refine Holds.reg ?_
      | refine Holds.block ?_
      | refine GS.nil ?_
      | (refine GS.step (s' := ?_) ?_ ?_ ?_; rotate_left; (· exact rfl); (· (simp [go_sem, List.take_of_length_le] <;> with_reducible rfl)))
      | (refine GS.skip ?_ ?_ ?_; (· exact rfl); (· exact rfl))
      | fail
    refine Holds.cond rfl (fun hl => ?_) (fun hl => ?_)
    · rw [fstP_at xs i 0 hxi hl hno, Nat.zero_add]
      repeat' first
        | refine Holds.seq ?_
        | refine Holds.skip ?_
        | refine Holds.exit ?_
        | refine Holds.ret ?_
        | refine thenA_normal ?_
        | refine thenA_exit ?_
        | refine thenA_ret ?_
        | refine inB_normal ?_
        | refine inB_ret ?_
        | refine inB_here ?_
        | (refine inB_past ?_ ?_; (· exact rfl))
        | refine Holds.reg ?_
        | refine Holds.block ?_
        | refine GS.nil ?_
        | (refine GS.step (s' := ?_) ?_ ?_ ?_; rotate_left; (· exact rfl); (· (simp [go_sem, List.take_of_length_le] <;> with_reducible rfl)))
        | (refine GS.skip ?_ ?_ ?_; (· exact rfl); (· exact rfl))
        | fail
      refine Out.mk (xs := ?_) ?_ ?_ (by first | exact .inr rfl | exact .inl rfl)
      rotate_left
      · simp [go_sem, List.take_of_length_le] <;> with_reducible rfl
      exact .v _
    · repeat' first
        | refine Holds.seq ?_
        | refine Holds.skip ?_
        | refine Holds.exit ?_
        | refine Holds.ret ?_
        | refine thenA_normal ?_
        | refine thenA_exit ?_
        | refine thenA_ret ?_
        | refine inB_normal ?_
        | refine inB_ret ?_
        | refine inB_here ?_
        | (refine inB_past ?_ ?_; (· exact rfl))
        | refine Holds.reg ?_
        | refine Holds.block ?_
        | refine GS.nil ?_
        | (refine GS.step (s' := ?_) ?_ ?_ ?_; rotate_left; (· exact rfl); (· (simp [go_sem, List.take_of_length_le] <;> with_reducible rfl)))
        | (refine GS.skip ?_ ?_ ?_; (· exact rfl); (· exact rfl))
        | fail
      refine ⟨i + 1, ⟨by omega, fun j hj x hxj => ?_⟩, by omega, ?_⟩
      · by_cases e : j = i
        · subst e; rw [hxi] at hxj; cases hxj; exact hl
        · exact hno j (by omega) x hxj
      rw [wr64_id (by omega) (by omega)]
      exact Cov.ofn id rfl (by simp [go_sem, ren, ren1, okr, okr1, ChkT, okr1_cap hcap, ren1_cap hcap]) (by simp [ChkN])
  · have hle : i = xs.length := by
      have : ¬ i < xs.length := by simpa using hl
      omega
    rw [fstP_no xs 0 fun j x hj => hno j (by have := (List.getElem?_eq_some_iff.1 hj).1; omega) x hj]
    repeat' first
      | refine Holds.seq ?_
      | refine Holds.skip ?_
      | refine Holds.exit ?_
      | refine Holds.ret ?_
      | refine thenA_normal ?_
      | refine thenA_exit ?_
      | refine thenA_ret ?_
      | refine inB_normal ?_
      | refine inB_ret ?_
      | refine inB_here ?_
      | (refine inB_past ?_ ?_; (· exact rfl))
      | refine Holds.reg ?_
      | refine Holds.block ?_
      | refine GS.nil ?_
      | (refine GS.step (s' := ?_) ?_ ?_ ?_; rotate_left; (· exact rfl); (· (simp [go_sem, List.take_of_length_le] <;> with_reducible rfl)))
      | (refine GS.skip ?_ ?_ ?_; (· exact rfl); (· exact rfl))
      | fail
    refine Out.mk (xs := ?_) ?_ ?_ (by first | exact .inr rfl | exact .inl rfl)
    rotate_left
    · simp [go_sem, List.take_of_length_le] <;> with_reducible rfl
    exact .v _
end Go.Proofs.Ytiabaknmgbpmoaa.En
end
