/- What is proved: whatever the two lists, the program's Apart and the reference's Apart tell the same number and the same bool (the law FnExactApart answers true). Conditions: none beyond the row's own sizes. -/
import Derived.Test.YtbapglkldnlckaaPFnExactApartx4
namespace Go.Proofs.Ytbapglkldnlckaa.Pure
open Go.RowKit Go.Proofs.Ytbapglkldnlckaa.PFnExactApart Go.Proofs.YtbapglkldnlckaaW.PrintWords Go.Proofs.YtbapglkldnlckaaW.PrintLast

theorem wr {n : Int} (h0 : -4611686018427387904 ≤ n) (h1 : n ≤ 4611686018427387904) : wrap64 n = n := by
  unfold wrap64; omega
theorem rd_nat (xs : List Int) (j : Nat) (h : j < xs.length) : rd xs (j : Int) = xs[j] := by
  simp [rd, List.getD_eq_getElem?_getD, h]
theorem rd_app (xs ys : List Int) (j : Nat) (h : j < xs.length) : rd (xs ++ ys) (j : Int) = rd xs j := by
  rw [rd_nat _ _ h, rd_nat _ _ (by simp; omega), List.getElem_append_left h]
theorem rd_app_drop (xs ys : List Int) (j : Nat) (h : xs.length = j) (hj : j < ys.length) : rd (xs ++ ys.drop j) (j : Int) = rd ys j := by
  rw [rd_nat _ _ hj, rd_nat _ _ (by simp; omega), List.getElem_append_right (by omega), List.getElem_drop]
  congr 1; omega
theorem set_app_drop (xs ys : List Int) (j : Nat) (v : Int) (h : xs.length = j) (hj : j < ys.length) : (xs ++ ys.drop j).set j v = (xs ++ [v]) ++ ys.drop (j + 1) := by
  rw [List.set_append_right _ _ (by omega), h, Nat.sub_self, List.drop_eq_getElem_cons hj, List.set_cons_zero]
  simp
/-- All members lie in 0..c. -/
def Bd (c : Int) (xs : List Int) : Prop := ∀ e ∈ xs, 0 ≤ e ∧ e ≤ c
theorem Bd.rd {c : Int} {xs : List Int} (h : Bd c xs) (j : Nat) (hj : j < xs.length) : 0 ≤ rd xs j ∧ rd xs j ≤ c := by
  rw [rd_nat _ _ hj]; exact h _ (List.getElem_mem _)
theorem Bd.mono {c c' : Int} {xs : List Int} (h : Bd c xs) (k : c ≤ c') : Bd c' xs := fun e he => ⟨(h e he).1, by have := (h e he).2; omega⟩

theorem least_eq (a b : Int) : spec_l1Least.f a b = some (min a b) := by
  unfold spec_l1Least.f; split <;> (congr 1; omega)
theorem mn_eq (a b : Int) : mn a b = min a b := by unfold mn; split <;> omega

theorem l2_both (a b : List Int) (hb : b.length ≤ 8) (x : Int) (i : Int) (c : Int) (hc : 0 ≤ c) (hc' : c ≤ 1000) (x5 : List Int) (h5 : x5.length = b.length + 1) (hB5 : Bd c x5) (hi : 0 ≤ i) (hi' : i ≤ 8) (d : Nat) :
    ∀ (j : Nat) (x9 : List Int), j + d = b.length → x9.length = j + 1 → Bd (c + 1) x9 →
    ∃ y : List Int, y.length = b.length + 1 ∧ Bd (c + 1) y ∧ ∀ r,
      (Ev (fun k => spec_l17Apart.l1 k b y a (a.length : Int) (i + 1)) r → Ev (fun k => spec_l17Apart.l2 k b x5 x x9 a (a.length : Int) i b (b.length : Int) (j : Int)) r) ∧
      (Ev (fun k => impl_apart.l1 k b y a (a.length : Int) (i + 1)) r → Ev (fun k => impl_apart.l2 k b (x9 ++ x5.drop (j + 1)) x (rd x5 j) a (a.length : Int) i b (b.length : Int) (j : Int)) r) := by
  induction d with
  | zero =>
    intro j x9 hj h9 hB9
    obtain rfl : j = b.length := by omega
    refine ⟨x9, h9, hB9, fun r => ⟨fun h => ?_, fun h => ?_⟩⟩
    · refine Ev.step (fun k => ?_) h
      simp only [spec_l17Apart.l2]; rw [if_neg (by omega), wr (by omega) (by omega)]
    · refine Ev.step (fun k => ?_) h
      simp only [impl_apart.l2]; rw [if_neg (by omega), wr (by omega) (by omega), List.drop_of_length_le (by omega), List.append_nil]
  | succ d ih =>
    intro j x9 hj h9 hB9
    have hr0 := hB5.rd j (by omega)
    have hr1 := hB5.rd (j + 1) (by omega)
    have hn := hB9.rd j (by omega)
    have ej : ((j : Int) + 1) = ((j + 1 : Nat) : Int) := by omega
    let v : Int := min (if x = rd b j then rd x5 j else rd x5 j + 1) (min (rd x5 ((j + 1 : Nat) : Int)) (rd x9 j) + 1)
    have hv : 0 ≤ v ∧ v ≤ c + 1 := by
      show 0 ≤ min _ _ ∧ min _ _ ≤ c + 1
      split <;> omega
    have hBv : Bd (c + 1) (x9 ++ [v]) := by
      intro e he
      rcases List.mem_append.1 he with he | he
      · exact hB9 e he
      · rw [List.mem_singleton.1 he]; exact hv
    obtain ⟨y, hy, hBy, H⟩ := ih (j + 1) (x9 ++ [v]) (by omega) (by simp [h9]) hBv
    refine ⟨y, hy, hBy, fun r => ⟨fun h => ?_, fun h => ?_⟩⟩
    · refine Ev.step (fun k => ?_) ((H r).1 h)
      simp only [spec_l17Apart.l2, least_eq, Option.bind_some]
      rw [if_pos (by omega), if_pos (by omega), if_pos (by omega), if_pos (by omega), wr (n := (j : Int) + 1) (by omega) (by omega), ej]
      by_cases hx : x = rd b j
      · rw [if_pos hx, if_pos (by omega), if_pos (by omega), if_pos (by omega), if_pos (by omega), wr (n := min (rd x5 ((j + 1 : Nat) : Int)) (rd x9 (j : Int)) + 1) (by omega) (by omega)]
        show _ = spec_l17Apart.l2 k b x5 x (x9 ++ [min (if x = rd b j then rd x5 j else rd x5 j + 1) (min (rd x5 ((j + 1 : Nat) : Int)) (rd x9 j) + 1)]) a (a.length : Int) i b (b.length : Int) ((j + 1 : Nat) : Int)
        rw [if_pos hx]
      · rw [if_neg hx, if_pos (by omega), if_pos (by omega), if_pos (by omega), if_pos (by omega), wr (n := rd x5 (j : Int) + 1) (by omega) (by omega), wr (n := min (rd x5 ((j + 1 : Nat) : Int)) (rd x9 (j : Int)) + 1) (by omega) (by omega)]
        show _ = spec_l17Apart.l2 k b x5 x (x9 ++ [min (if x = rd b j then rd x5 j else rd x5 j + 1) (min (rd x5 ((j + 1 : Nat) : Int)) (rd x9 j) + 1)]) a (a.length : Int) i b (b.length : Int) ((j + 1 : Nat) : Int)
        rw [if_neg hx]
    · refine Ev.step (fun k => ?_) ((H r).2 h)
      have e1 : rd (x9 ++ x5.drop (j + 1)) ((j + 1 : Nat) : Int) = rd x5 ((j + 1 : Nat) : Int) := rd_app_drop _ _ _ h9 (by omega)
      have e2 : rd (x9 ++ x5.drop (j + 1)) (j : Int) = rd x9 j := rd_app _ _ _ (by omega)
      have e3 : ∀ u, (x9 ++ x5.drop (j + 1)).set ((j + 1 : Nat) : Int).toNat u = (x9 ++ [u]) ++ x5.drop (j + 1 + 1) := fun u => by
        rw [Int.toNat_natCast]; exact set_app_drop _ _ _ _ h9 (by omega)
      have hl : (x9 ++ x5.drop (j + 1)).length = b.length + 1 := by simp; omega
      have ev : ∀ q : Int, min (min q (rd x9 j + 1)) (rd x5 ((j + 1 : Nat) : Int) + 1) = min q (min (rd x5 ((j + 1 : Nat) : Int)) (rd x9 j) + 1) := fun q => by omega
      simp only [impl_apart.l2, mn_eq]
      rw [if_pos (by omega), if_pos (by omega), if_pos (by omega), wr (n := (j : Int) + 1) (by omega) (by omega), ej, hl]
      by_cases hx : x = rd b j
      · rw [if_pos hx, if_pos (by omega), if_pos (by omega), if_pos (by omega), e1, e2, e3]
        rw [wr (n := rd x9 (j : Int) + 1) (by omega) (by omega), wr (n := rd x5 ((j + 1 : Nat) : Int) + 1) (by omega) (by omega), ev]
        show _ = impl_apart.l2 k b ((x9 ++ [min (if x = rd b j then rd x5 j else rd x5 j + 1) (min (rd x5 ((j + 1 : Nat) : Int)) (rd x9 j) + 1)]) ++ x5.drop (j + 1 + 1)) x (rd x5 ((j + 1 : Nat) : Int)) a (a.length : Int) i b (b.length : Int) ((j + 1 : Nat) : Int)
        rw [if_pos hx]
      · rw [if_neg hx, if_pos (by omega), if_pos (by omega), if_pos (by omega), e1, e2, e3]
        rw [wr (n := rd x5 (j : Int) + 1) (by omega) (by omega), wr (n := rd x9 (j : Int) + 1) (by omega) (by omega), wr (n := rd x5 ((j + 1 : Nat) : Int) + 1) (by omega) (by omega), ev]
        show _ = impl_apart.l2 k b ((x9 ++ [min (if x = rd b j then rd x5 j else rd x5 j + 1) (min (rd x5 ((j + 1 : Nat) : Int)) (rd x9 j) + 1)]) ++ x5.drop (j + 1 + 1)) x (rd x5 ((j + 1 : Nat) : Int)) a (a.length : Int) i b (b.length : Int) ((j + 1 : Nat) : Int)
        rw [if_neg hx]

theorem l1_both (a b : List Int) (ha : a.length ≤ 8) (hb : b.length ≤ 8) (d : Nat) :
    ∀ (i : Nat) (x5 : List Int), i + d = a.length → x5.length = b.length + 1 → Bd (100 + i) x5 →
    ∃ r, Ev (fun k => spec_l17Apart.l1 k b x5 a (a.length : Int) (i : Int)) r ∧ Ev (fun k => impl_apart.l1 k b x5 a (a.length : Int) (i : Int)) r := by
  induction d with
  | zero =>
    intro i x5 hi h5 hB
    refine ⟨rd x5 (b.length : Int), ?_, ?_⟩
    · refine Ev.step (fun k => ?_) (Ev.now _)
      simp only [spec_l17Apart.l1]; rw [if_neg (by omega), if_pos (by omega), if_pos (by omega)]
    · refine Ev.step (fun k => ?_) (Ev.now _)
      simp only [impl_apart.l1]; rw [if_neg (by omega), if_pos (by omega), if_pos (by omega)]
  | succ d ih =>
    intro i x5 hi h5 hB
    have ei : ((i : Int) + 1) = ((i + 1 : Nat) : Int) := by omega
    obtain ⟨y, hy, hBy, H⟩ := l2_both a b hb (rd a i) i (100 + i) (by omega) (by omega) x5 h5 hB (by omega) (by omega) b.length 0 [(i : Int) + 1] (by omega) rfl
      (fun e he => by rw [List.mem_singleton.1 he]; omega)
    obtain ⟨r, h1, h2⟩ := ih (i + 1) y (by omega) hy (hBy.mono (by omega))
    rw [← ei] at h1 h2
    refine ⟨r, ?_, ?_⟩
    · refine Ev.step (fun k => ?_) ((H r).1 h1)
      simp only [spec_l17Apart.l1]; rw [if_pos (by omega), if_pos (by omega), if_pos (by omega), wr (by omega) (by omega)]
      rfl
    · refine Ev.step (fun k => ?_) ((H r).2 h2)
      simp only [impl_apart.l1]; rw [if_pos (by omega), if_pos (by omega), if_pos (by omega), if_pos (by omega), wr (by omega) (by omega)]
      have e : x5.set (0 : Int).toNat ((i : Int) + 1) = [(i : Int) + 1] ++ x5.drop (0 + 1) := by
        have := set_app_drop [] x5 0 ((i : Int) + 1) rfl (by omega)
        simpa using this
      rw [e]
      rfl

/-- 0, 1, .., up to n less one. -/
def upto (n : Nat) : List Int := (List.range n).map fun k : Nat => (k : Int)
theorem upto_succ (n : Nat) : upto (n + 1) = upto n ++ [(n : Int)] := by simp [upto, List.range_succ]
theorem upto_length (n : Nat) : (upto n).length = n := by simp [upto]
theorem upto_bd (n : Nat) (h : n ≤ 9) : Bd (100 + (0 : Nat)) (upto n) := by
  intro e he
  simp [upto] at he
  obtain ⟨k, hk, rfl⟩ := he
  omega
theorem spec_l0 (a b : List Int) (hb : b.length ≤ 8) (d : Nat) : ∀ (j : Nat), j + d = b.length + 1 → ∀ r, Ev (fun k => spec_l17Apart.l1 k b (upto (b.length + 1)) a (a.length : Int) 0) r →
    Ev (fun k => spec_l17Apart.l0 k a b (upto j ++ List.replicate d 0) ((b.length + 1 : Nat) : Int) (j : Int)) r := by
  induction d with
  | zero =>
    intro j hj r h
    obtain rfl : j = b.length + 1 := by omega
    refine Ev.step (fun k => ?_) h
    simp only [spec_l17Apart.l0]; rw [if_neg (by omega)]; simp
  | succ d ih =>
    intro j hj r h
    refine Ev.step (fun k => ?_) (ih (j + 1) (by omega) r h)
    simp only [spec_l17Apart.l0]
    rw [if_pos (by omega), if_pos (by omega), if_pos (by simp [upto_length]; omega), wr (by omega) (by omega)]
    have e : (upto j ++ List.replicate (d + 1) 0).set (j : Int).toNat (j : Int) = upto (j + 1) ++ List.replicate d 0 := by
      rw [Int.toNat_natCast, List.set_append_right _ _ (by rw [upto_length]; omega), upto_length, Nat.sub_self, upto_succ]
      simp [List.replicate_succ]
    rw [e]
    rfl
theorem impl_l0 (a b : List Int) (hb : b.length ≤ 8) (d : Nat) : ∀ (j : Nat), j + d = b.length + 1 → ∀ r, Ev (fun k => impl_apart.l1 k b (upto (b.length + 1)) a (a.length : Int) 0) r →
    Ev (fun k => impl_apart.l0 k a b (upto j) ((b.length + 1 : Nat) : Int) (j : Int)) r := by
  induction d with
  | zero =>
    intro j hj r h
    obtain rfl : j = b.length + 1 := by omega
    refine Ev.step (fun k => ?_) h
    simp only [impl_apart.l0]; rw [if_neg (by omega)]
  | succ d ih =>
    intro j hj r h
    refine Ev.step (fun k => ?_) (ih (j + 1) (by omega) r h)
    simp only [impl_apart.l0]
    rw [if_pos (by omega), if_pos (by rw [upto_length]; omega), wr (by omega) (by omega), upto_succ]
    rfl

theorem apart_both (a b : List Int) (ha : a.length ≤ 8) (hb : b.length ≤ 8) : ∃ r, Ev (fun k => spec_l17Apart.f k a b) r ∧ Ev (fun k => impl_apart.f k a b) r := by
  obtain ⟨r, h1, h2⟩ := l1_both a b ha hb a.length 0 (upto (b.length + 1)) (by omega) (upto_length _) (upto_bd _ (by omega))
  have en : ((b.length : Int) + 1) = ((b.length + 1 : Nat) : Int) := by omega
  refine ⟨r, ?_, ?_⟩
  · refine Ev.congr (fun k => ?_) (spec_l0 a b hb (b.length + 1) 0 (by omega) r h1)
    unfold spec_l17Apart.f
    rw [wr (by omega) (by omega), en, if_pos (by omega), if_pos (by omega), Int.toNat_natCast, Option.bind_some]
    simp [upto]
  · refine Ev.congr (fun k => ?_) (impl_l0 a b hb (b.length + 1) 0 (by omega) r h2)
    unfold impl_apart.f
    rw [wr (by omega) (by omega), en]
    rfl

theorem Apart_both (a b : List Int) : ∃ r : Int × Bool, Ev (fun k => spec_Apart.f k a b) r ∧ Ev (fun k => impl_Apart.f k a b) r := by
  by_cases ha : (a.length : Int) > 8
  · exact ⟨(0, false), Ev.congr (fun k => by unfold spec_Apart.f; rw [if_pos ha]) (Ev.now _), Ev.congr (fun k => by unfold impl_Apart.f; rw [if_pos ha]) (Ev.now _)⟩
  by_cases hb : (b.length : Int) > 8
  · exact ⟨(0, false), Ev.congr (fun k => by unfold spec_Apart.f; rw [if_neg ha, if_pos hb]) (Ev.now _), Ev.congr (fun k => by unfold impl_Apart.f; rw [if_neg ha, if_pos hb]) (Ev.now _)⟩
  obtain ⟨r, h1, h2⟩ := apart_both a b (by omega) (by omega)
  exact ⟨(r, true), Ev.congr (fun k => by unfold spec_Apart.f; rw [if_neg ha, if_neg hb]) (Ev.bind h1 (Ev.now _)), Ev.congr (fun k => by unfold impl_Apart.f; rw [if_neg ha, if_neg hb]) (Ev.bind h2 (Ev.now _))⟩

theorem toIntS_l0 (a : List Int) (h : a.length ≤ 1048576) (d : Nat) : ∀ j : Nat, j + d = a.length → Ev (fun k => laws_toIntS.l0 k a (a.take j ++ List.replicate d 0) (j : Int)) a := by
  induction d with
  | zero =>
    intro j hj
    refine Ev.step (fun k => ?_) (Ev.now _)
    simp only [laws_toIntS.l0]; rw [if_neg (by omega), List.take_of_length_le (by omega)]; simp
  | succ d ih =>
    intro j hj
    refine Ev.step (fun k => ?_) (ih (j + 1) (by omega))
    simp only [laws_toIntS.l0]
    rw [if_pos (by omega), if_pos (by omega), if_pos (by simp; omega), wr (by omega) (by omega), rd_nat _ _ (by omega)]
    have e : (a.take j ++ List.replicate (d + 1) 0).set (j : Int).toNat a[j] = a.take (j + 1) ++ List.replicate d 0 := by
      rw [Int.toNat_natCast, List.set_append_right _ _ (by simp; omega), List.take_succ_eq_append_getElem (by omega), List.length_take, Nat.min_eq_left (show j ≤ a.length by omega), Nat.sub_self, List.replicate_succ, List.set_cons_zero, List.append_assoc]
      rfl
    rw [e]; rfl
theorem toIntS_ev (a : List Int) (h : a.length ≤ 1048576) : Ev (fun k => laws_toIntS.f k a) a := by
  refine Ev.congr (fun k => ?_) (toIntS_l0 a h a.length 0 (by omega))
  unfold laws_toIntS.f
  rw [if_pos (by omega), if_pos (by omega)]
  rfl
theorem eqIntS_l0 (a : List Int) (h : a.length ≤ 1048576) (d : Nat) : ∀ j : Nat, j + d = a.length → Ev (fun k => laws_eqIntS.l0 k a a (j : Int)) true := by
  induction d with
  | zero => intro j hj; exact Ev.step (fun k => by simp only [laws_eqIntS.l0]; rw [if_neg (by omega)]) (Ev.now _)
  | succ d ih =>
    intro j hj
    refine Ev.step (fun k => ?_) (ih (j + 1) (by omega))
    simp only [laws_eqIntS.l0]
    rw [if_pos (by omega), if_pos (by omega), if_pos (by omega), if_pos trivial, wr (by omega) (by omega)]; rfl
theorem eqIntS_ev (a : List Int) (h : a.length ≤ 1048576) : Ev (fun k => laws_eqIntS.f k a a) true :=
  Ev.congr (fun k => by unfold laws_eqIntS.f; rw [if_pos rfl]; rfl) (eqIntS_l0 a h a.length 0 (by omega))

theorem FnExactApart : laws_FnExactApart.Pure := by
  intro l0 l1 _ _ _ _ _ _
  refine Ev.rounds ?_
  by_cases h0 : (l0.length : Int) > 1048576
  · exact Ev.congr (fun k => by unfold laws_FnExactApart.f; rw [if_pos h0]) (Ev.now _)
  by_cases h1 : (l1.length : Int) > 1048576
  · exact Ev.congr (fun k => by unfold laws_FnExactApart.f; rw [if_neg h0, if_pos h1]) (Ev.now _)
  obtain ⟨r, hs, hi⟩ := Apart_both l0 l1
  have t0 := toIntS_ev l0 (by omega)
  have t1 := toIntS_ev l1 (by omega)
  have q0 := eqIntS_ev l0 (by omega)
  have q1 := eqIntS_ev l1 (by omega)
  refine Ev.congr (fun k => by unfold laws_FnExactApart.f; rw [if_neg h0, if_neg h1]) ?_
  refine Ev.bind t0 (Ev.bind t1 (Ev.bind hs (Ev.bind t0 (Ev.bind t1 (Ev.bind hi ?_)))))
  refine Ev.congr (fun k => if_pos rfl) ?_
  refine Ev.step (f := fun k => (laws_toIntS.f k l0).bind fun t168 => ((laws_eqIntS.f k l0 t168).bind fun t171 => (if t171 = true then ((laws_toIntS.f k l1).bind fun t172 => ((laws_eqIntS.f k l1 t172).bind fun t175 => (if t175 = true then (some true) else (some false)))) else (some false)))) (fun k => ?_) ?_
  · simp only [laws_FnExactApart.j0]; rw [if_neg (by simp)]
  · refine Ev.bind t0 (Ev.bind q0 (Ev.congr (fun k => if_pos rfl) (Ev.bind t1 (Ev.bind q1 (Ev.congr (fun k => if_pos rfl) (Ev.now _))))))

end Go.Proofs.Ytbapglkldnlckaa.Pure
