/- Own words and walks of this claim, part 4: what the program's functions compute, for all the arguments that are named; no further conditions. -/
import Derived.Test.YtejpklajfcngbaaM3
import Derived.Test.YtejpklajfcngbaaM2
import Derived.Test.YtejpklajfcngbaaM1
section
namespace Go.Proofs.Ytejpklajfcngbaa.En
open Go.RowKit
set_option linter.unusedSimpArgs false
set_option linter.unusedVariables false
theorem atS_get {sets : List (List Int)} (s : List Int) (hn : sets.Nodup) : ∃ j : Nat, atS sets s = (j : Int) ∧ (addS sets s)[j]? = some s := by
  unfold atS addS
  rcases plS_cases s hn with ⟨h1, h2⟩ | ⟨i, hi, h1, h2⟩
  · refine ⟨sets.length, ?_, ?_⟩
    · rw [h2, if_pos (by decide)]
    · rw [h2, if_pos (by decide)]; simp
  · refine ⟨i, ?_, ?_⟩
    · rw [h2, if_neg (by omega)]
    · rw [h2, if_neg (by omega)]; exact h1
theorem rowS_right {m : MachineT} (hg : goodM m = true) (cur : List Int) {sets : List (List Int)} (h : OkSets sets) : ∀ (n t : Nat), t < n → ∃ j : Nat, (rowS m cur sets n).2[t]? = some (j : Int) ∧ (rowS m cur sets n).1[j]? = some (nextL m cur t)
  | 0, t, ht => absurd ht (Nat.not_lt_zero t)
  | n + 1, t, ht => by
    obtain ⟨h1, h2, _⟩ := rowS_ok hg cur h n
    rw [rowS_next]
    dsimp only [colS]
    by_cases e : t < n
    · obtain ⟨j, j1, j2⟩ := rowS_right hg cur h n t e
      refine ⟨j, ?_, addS_get j2⟩
      rw [List.getElem?_append_left (by omega)]; exact j1
    · have e : t = n := by omega
      subst e
      obtain ⟨j, j1, j2⟩ := atS_get (nextL m cur t) h1.nd
      refine ⟨j, ?_, j2⟩
      rw [List.getElem?_append_right (by omega), h2, Nat.sub_self]
      simp [j1]
structure SetsR (m : MachineT) (sets next : List (List Int)) : Prop where
  zero : sets[0]? = some [0]
  right : ∀ (k : Nat) (cur row : List Int), sets[k]? = some cur → next[k]? = some row → ∀ t : Nat, t < m.2.1.toNat → ∃ j : Nat, row[t]? = some (j : Int) ∧ sets[j]? = some (nextL m cur t)
theorem SetsR.step {m : MachineT} (hg : goodM m = true) {k : Nat} {sets next : List (List Int)} (h : SetsI m k sets next) (hr : SetsR m sets next) {cur : List Int} (hc : sets[k]? = some cur) :
    SetsR m (rowS m cur sets m.2.1.toNat).1 (next ++ [(rowS m cur sets m.2.1.toNat).2]) := by
  obtain ⟨h1, h2, h3, h4, h5⟩ := rowS_ok hg cur h.ok m.2.1.toNat
  refine ⟨h4 0 _ hr.zero, fun k' cur' row hk hn t ht => ?_⟩
  have hkl := (List.getElem?_eq_some_iff.1 hc).1
  by_cases e : k' < next.length
  · rw [List.getElem?_append_left e] at hn
    have hk' : k' < sets.length := by have := h.ln; omega
    have e1 : sets[k']? = some sets[k'] := List.getElem?_eq_getElem hk'
    have e2 := h4 k' _ e1
    rw [e2] at hk
    injection hk with hk
    rw [hk] at e1
    obtain ⟨j, j1, j2⟩ := hr.right k' cur' row e1 hn t ht
    exact ⟨j, j1, h4 j _ j2⟩
  · rw [List.getElem?_append_right (by omega)] at hn
    have e0 : k' - next.length = 0 := by
      have := (List.getElem?_eq_some_iff.1 hn).1
      simpa using this
    rw [e0] at hn
    simp only [List.getElem?_cons_zero, Option.some.injEq] at hn
    have ek : k' = k := by have := h.ln; omega
    subst ek hn
    have := h4 k' _ hc
    rw [this] at hk
    injection hk with hk
    subst hk
    exact rowS_right hg cur h.ok m.2.1.toNat t ht
theorem setsM_right {m : MachineT} (hg : goodM m = true) : SetsR m (setsM m).1 (setsM m).2 := by
  have H : ∀ (f k : Nat) (sets next : List (List Int)), SetsI m k sets next → SetsR m sets next → 64 - k = f → SetsR m (setsM m).1 (setsM m).2 := by
    intro f
    induction f with
    | zero =>
      intro k sets next h hr hf
      have := h.ok.few
      rw [h.end (by omega)]
      exact hr
    | succ f ih =>
      intro k sets next h hr hf
      cases hc : sets[k]? with
      | none => rw [h.end (List.getElem?_eq_none_iff.1 hc)]; exact hr
      | some cur => exact ih (k + 1) _ _ (h.step hg hc) (hr.step hg h hc) (by omega)
  exact H 64 0 _ _ (SetsI.zero m) ⟨rfl, fun k cur row _ hn => (by simp at hn)⟩ rfl
theorem leastM_rng {m : MachineT} (hg : goodM m = true) : 1 ≤ leastM m ∧ leastM m ≤ (setsM m).1.length := by
  have hs := setsM_ok hg
  have hz := (setsM_right hg).zero
  have hfew := hs.ok.few
  generalize hS : (setsM m).1 = sets at hs hz hfew ⊢
  have hpos : 0 < sets.length := (List.getElem?_eq_some_iff.1 hz).1
  have H : ∀ (d many : Nat) (cls : List Int), LI (setsM m).2 (setsM m).1.length (leastM m) many cls → 64 - many ≤ d → 1 ≤ leastM m ∧ leastM m ≤ (setsM m).1.length := by
    intro d
    induction d with
    | zero =>
      intro many cls h hd
      have hle := h.le
      rw [hS] at hle
      by_cases he : (rndS cls (setsM m).2 (setsM m).1.length).1.length = many
      · have := h.end (by rw [hS]; exact hfew) he
        rw [hS]; omega
      · have := h.step (by rw [hS]; exact hfew) he
        have h2 := this.2.le
        rw [hS] at this h2
        omega
    | succ d ih =>
      intro many cls h hd
      by_cases he : (rndS cls (setsM m).2 (setsM m).1.length).1.length = many
      · have hL := h.end (by rw [hS]; exact hfew) he
        have hle := h.le
        have hr := (rndS_ok cls (setsM m).2 (setsM m).1.length).all 0 (by rw [hS]; exact hpos)
        have := List.length_pos_of_mem hr
        omega
      · obtain ⟨h1, h2⟩ := h.step (by rw [hS]; exact hfew) he
        exact ih _ _ h2 (by omega)
  have := H 64 0 _ (LI.zero m) (Nat.le_refl _)
  rw [hS] at this
  exact this
/-! #### what is drawn -/
def insG (l : List (List Int)) (x : List Int) : List (List Int) := if 0 < kposF x l l.length ∧ l.getD (kposF x l l.length - 1) [] = x then l else insA l x
theorem insG_len (l : List (List Int)) (x : List Int) : (insG l x).length ≤ l.length + 1 := by
  unfold insG
  split
  · omega
  · have := (insA_perm l x).length_eq
    simp at this; omega
theorem insG_mem {l : List (List Int)} {x t : List Int} (h : t ∈ insG l x) : t = x ∨ t ∈ l := by
  unfold insG at h
  split at h
  · exact .inr h
  · simpa using (insA_perm l x).mem_iff.1 h
def drArr (code : List Int) (S T : Int) : Nat → List (List Int) → St2 → List (List Int) × St2
  | 0, a, st => (a, st)
  | n + 1, a, st => drArr code S T n (insG a [pickV code S st, pickV code T (pickS code S st), pickV code S (pickS code T (pickS code S st))]) (pickS code S (pickS code T (pickS code S st)))
def drEnd (code : List Int) (S : Int) : Nat → List Int → St2 → List Int × St2
  | 0, a, st => (a, st)
  | n + 1, a, st => drEnd code S n (putL a (pickV code S st)) (pickS code S st)
theorem drArr_at (code : List Int) (S T : Int) : ∀ (n : Nat) (a : List (List Int)) (st : St2), (drArr code S T n a st).2.1 ≤ st.1 + 3 * n
  | 0, a, st => Nat.le_refl _
  | n + 1, a, st => by
    have h := drArr_at code S T n (insG a [pickV code S st, pickV code T (pickS code S st), pickV code S (pickS code T (pickS code S st))]) (pickS code S (pickS code T (pickS code S st)))
    have h1 := pickS_at code S st
    have h2 := pickS_at code T (pickS code S st)
    have h3 := pickS_at code S (pickS code T (pickS code S st))
    rw [drArr]; omega
theorem drArr_ok (code : List Int) (S T : Int) : ∀ (n : Nat) (a : List (List Int)) (st : St2), (∀ t ∈ a, t.length = 3) → (drArr code S T n a st).1.length ≤ a.length + n ∧ ∀ t ∈ (drArr code S T n a st).1, t.length = 3
  | 0, a, st, h => ⟨Nat.le_refl _, h⟩
  | n + 1, a, st, h => by
    rw [drArr]
    have hl := insG_len a [pickV code S st, pickV code T (pickS code S st), pickV code S (pickS code T (pickS code S st))]
    have := drArr_ok code S T n (insG a [pickV code S st, pickV code T (pickS code S st), pickV code S (pickS code T (pickS code S st))]) (pickS code S (pickS code T (pickS code S st))) fun t ht => by
      rcases insG_mem ht with e | e
      · rw [e]; rfl
      · exact h t e
    exact ⟨by omega, this.2⟩
theorem drEnd_at (code : List Int) (S : Int) : ∀ (n : Nat) (a : List Int) (st : St2), (drEnd code S n a st).2.1 ≤ st.1 + n
  | 0, a, st => Nat.le_refl _
  | n + 1, a, st => by
    have h := drEnd_at code S n (putL a (pickV code S st)) (pickS code S st)
    have h1 := pickS_at code S st
    rw [drEnd]; omega
theorem drEnd_len (code : List Int) (S : Int) : ∀ (n : Nat) (a : List Int) (st : St2), (drEnd code S n a st).1.length ≤ a.length + n
  | 0, a, st => Nat.le_refl _
  | n + 1, a, st => by
    have h := drEnd_len code S n (putL a (pickV code S st)) (pickS code S st)
    have h1 := putL_len (pickV code S st) a
    rw [drEnd]; omega
end Go.Proofs.Ytejpklajfcngbaa.En
end
section
namespace Go.Proofs.Ytejpklajfcngbaa.En
set_option linter.unusedSimpArgs false
set_option linter.unusedVariables false
structure GoodP (g : GrammarT) (n : Nat) (P : List (List Int)) : Prop where
  hd : ∀ t ∈ P, ∃ (r : Nat) (s : List Int), t = (r : Int) :: s ∧ r < g.2.2.length
  sum : (P.map List.length).sum = n
theorem GoodP.nil (g : GrammarT) : GoodP g 0 [] := ⟨fun t h => (by cases h), rfl⟩
theorem GoodP.len {g : GrammarT} {n : Nat} {P : List (List Int)} (h : GoodP g n P) : P.length ≤ n := by
  have key : ∀ Q : List (List Int), (∀ t ∈ Q, ∃ (r : Nat) (s : List Int), t = (r : Int) :: s ∧ r < g.2.2.length) → Q.length ≤ (Q.map List.length).sum := by
    intro Q
    induction Q with
    | nil => intro _; simp
    | cons t Q ih =>
      intro hq
      obtain ⟨r, s, e, _⟩ := hq t (.head _)
      have := ih fun t ht => hq t (.tail _ ht)
      rw [e]
      simp only [List.map_cons, List.sum_cons, List.length_cons]
      omega
  rw [← h.sum]; exact key P h.hd
theorem GoodP.step {g : GrammarT} {n : Nat} {P : List (List Int)} (h : GoodP g n P) {r : Nat} (hr : r < g.2.2.length) (m : Nat) : GoodP g (n + 1) (P.take m ++ [(r : Int) :: (P.drop m).flatten]) := by
  refine ⟨fun t ht => ?_, ?_⟩
  · rcases List.mem_append.1 ht with ht | ht
    · exact h.hd t (List.mem_of_mem_take ht)
    · rw [List.mem_singleton] at ht
      exact ⟨r, _, ht, hr⟩
  · have e := h.sum
    rw [← List.take_append_drop m P, List.map_append, List.sum_append] at e
    rw [List.map_append, List.sum_append]
    simp only [List.map_cons, List.map_nil, List.sum_cons, List.sum_nil, List.length_cons, List.length_flatten]
    omega
theorem GoodP.flat {g : GrammarT} {n : Nat} {P : List (List Int)} (h : GoodP g n P) (m k : Nat) : ((P.drop m).take k).flatten.length ≤ n := by
  have e := h.sum
  rw [← List.take_append_drop m P, List.map_append, List.sum_append] at e
  rw [← List.take_append_drop k (P.drop m), List.map_append, List.sum_append] at e
  rw [List.length_flatten]
  omega
end Go.Proofs.Ytejpklajfcngbaa.En
end
section
namespace Go.Proofs.Ytejpklajfcngbaa.En
open Go.RowKit
set_option linter.unusedSimpArgs false
set_option linter.unusedVariables false
set_option maxHeartbeats 4000000
theorem intss_allT (l : List (List Int)) (P : List AV → Prop) : (∀ x, x ∈ intss l → P x) ↔ ∀ n, n ∈ l → P [.im 1 (ints n)] := by
  simp only [intss, List.mem_map]
  exact ⟨fun h n hn => h _ ⟨n, hn, rfl⟩, fun h x ⟨n, hn, e⟩ => e ▸ h n hn⟩
theorem intss_takeT (l : List (List Int)) (n : Nat) : (intss l).take n = intss (l.take n) := by simp [intss, List.map_take]
theorem intss_clT (l : List (List Int)) : ∀ row ∈ intss l, ∀ x ∈ row, cl1 x = true := fun row hr x hx => by
  simp only [intss, List.mem_map] at hr
  obtain ⟨t, _, rfl⟩ := hr
  simp only [intsC, List.mem_singleton] at hx
  subst hx; rfl
end Go.Proofs.Ytejpklajfcngbaa.En
end
section
namespace Go.Proofs.Ytejpklajfcngbaa.En
open Go.RowKit
set_option linter.unusedSimpArgs false
set_option linter.unusedVariables false
set_option maxHeartbeats 4000000
theorem intss_dropT (l : List (List Int)) (n : Nat) : (intss l).drop n = intss (l.drop n) := by simp [intss, List.map_drop]
end Go.Proofs.Ytejpklajfcngbaa.En
end
section
namespace Go.Proofs.Ytejpklajfcngbaa.En
set_option linter.unusedVariables false
def lev : List Int → List Int → Nat
  | [], y => y.length
  | _ :: x, [] => x.length + 1
  | a :: x, b :: y => min (lev x y + if a = b then 0 else 1) (min (lev x (b :: y) + 1) (lev (a :: x) y + 1))
@[simp] theorem lev_nil (x : List Int) : lev x [] = x.length := by cases x <;> simp [lev]
@[simp] theorem lev_nil' (y : List Int) : lev [] y = y.length := by simp [lev]
end Go.Proofs.Ytejpklajfcngbaa.En
end
section
namespace Go.Proofs.Ytejpklajfcngbaa.En
set_option linter.unusedVariables false
def cellD (a b : List Int) (i j : Nat) : Nat := lev (a.take i).reverse (b.take j).reverse
def rowD (a b : List Int) (i n : Nat) : List Int := (List.range n).map fun j => (cellD a b i j : Int)
@[simp] theorem rowD_len (a b : List Int) (i n : Nat) : (rowD a b i n).length = n := by simp [rowD]
def midD (a b : List Int) (i k n : Nat) : List Int := (List.range n).map fun j => if j < k then (cellD a b (i + 1) j : Int) else (cellD a b i j : Int)
@[simp] theorem midD_len (a b : List Int) (i k n : Nat) : (midD a b i k n).length = n := by simp [midD]
end Go.Proofs.Ytejpklajfcngbaa.En
end
section
namespace Go.Proofs.Ytejpklajfcngbaa.En
open Go.RowKit
set_option linter.unusedSimpArgs false
set_option linter.unusedVariables false
set_option maxHeartbeats 4000000
@[simp] theorem byteRows_len (xs : List Int) : (byteRows xs).length = xs.length := by simp [byteRows]
@[simp] theorem byteRows_get (xs : List Int) (i : Nat) : (byteRows xs)[i]? = (xs[i]?).map fun n => [.v (.int .u8 n)] := by simp [byteRows]
@[simp] theorem byteRows_gE (xs : List Int) (i : Nat) (h : i < (byteRows xs).length) : (byteRows xs)[i] = [.v (.int .u8 (xs[i]'(by simpa using h)))] := by simp [byteRows]
def curC (code : List Int) (st : St2) : List AV := [.im 1 (byteRows code), .v (.int .i64 st.1), .v (.int .u64 st.2)]
theorem nextF (code : List Int) (hc : code.length ≤ 2000000) (hb : ∀ b ∈ code, 0 ≤ b ∧ b ≤ 255) (st : St2) (hs : st.1 ≤ 1000000) : Fn Try.prog 89 1 [.pb 0 3 0 0] [(0, ⟨76, 3, [curC code st]⟩)] (.v (.int .i64 (nextV code st))) 1 [(0, ⟨76, 3, [curC code (nextS code st)]⟩)] := by
  obtain ⟨at', sd⟩ := st
  dsimp only at hs
  have hw1 : wr64 ((at' : Int) + 1) = ((at' + 1 : Nat) : Int) := wr64_id (by omega) (by omega)
  have hr := byteAt_rng hb at'
  have hx : at' < code.length → code[at']? = some (byteAt code at') := fun h => by
    unfold byteAt; rw [List.getElem?_eq_getElem h]; rfl
  have hn : ¬ at' < code.length → byteAt code at' = 0 := fun h => by
    unfold byteAt; rw [List.getElem?_eq_none (by omega)]; rfl
  have hsn : seedN code (at', sd) = addU (addU (mulU sd 6364136223846793005) (IntKind.u64.wrap (byteAt code at'))) 1442695040888963407 := rfl
  have hrg := andU_rng (shrU (seedN code (at', sd)) 40)
  have hwa : IntKind.i64.wrap (andU (shrU (seedN code (at', sd)) 40) 255) = andU (shrU (seedN code (at', sd)) 40) 255 := wr64_id (by omega) (by omega)
  simp only [nextV, nextS]
  generalize seedN code (at', sd) = sn at hsn hwa ⊢
  generalize byteAt code at' = b at hr hx hn hsn ⊢
  have hwb : IntKind.i64.wrap b = b := wr64_id (by omega) (by omega)
  refine Fn.mk (rs := [.tmp 2]) (nt := 62) Try.func89 (by kernel_rfl) rfl rfl rfl (by simp) ?_
  simp only [sl, curC]
  by_cases hlt : at' < code.length
  · have hli : (at' : Int) < (code.length : Int) := by omega
    have hle : at' + 1 ≤ code.length := hlt
    have hle2 : (at' : Int) + 1 ≤ (code.length : Int) := by omega
    have hxb := hx hlt
    rw [if_pos hle]
    refine wkdsc0 _ ?_
    (refine Holds.any mixed ?_ ?_; (· kernel_rfl))
    refine wkdsc (And.intro @hlt (@hli)) _ ?_
    (refine Holds.any mixed ?_ ?_; (· kernel_rfl))
    refine wkdsc (And.intro @hlt (And.intro @hli (And.intro @hxb (And.intro (@get_E _ _ _ _ hxb) (And.intro @hwb (@hw1)))))) _ ?_
    refine GS.calm1 rfl rfl (Calm.mul64 rfl rfl rfl) ?_
    refine wkdsc0 _ ?_
    refine GS.calm1 rfl rfl (Calm.add64 rfl rfl rfl) ?_
    refine GS.calm1 rfl rfl (Calm.add64 rfl rfl rfl) ?_
    rw [← hsn]
    refine wkdsc0 _ ?_
    (refine Holds.any mixed ?_ ?_; (· kernel_rfl))
    refine wkdc (And.intro @hle (And.intro @hlt (@hle2))) _ ?_
    refine OutF.mkn (xs := ?_) (nm [0]) ?_ ?_ ?_ ?_ ?_ (by first | exact .inr rfl | exact .inl rfl)
    rotate_left
    · simp [go_sem, List.take_of_length_le, curC] <;> with_reducible rfl
    · simp [go_sem, List.take_of_length_le, ren, ren1, ren2, okr, okr1, okr2, ChkN, BlkN, List.range_succ, nf, curC]
    · simp [go_sem, List.take_of_length_le, ren, ren1, ren2, okr, okr1, okr2, ChkN, BlkN, List.range_succ, nf, curC]
    · simp [go_sem, List.take_of_length_le, ren, ren1, ren2, okr, okr1, okr2, ChkN, BlkN, List.range_succ, nf, curC]
    · rfl
  · have hli : ¬ (at' : Int) < (code.length : Int) := by omega
    have hle : ¬ at' + 1 ≤ code.length := by omega
    have hle2 : ¬ (at' : Int) + 1 ≤ (code.length : Int) := by omega
    have hb0 := hn hlt
    subst hb0
    rw [if_neg hle]
    refine wkdsc0 _ ?_
    (refine Holds.any mixed ?_ ?_; (· kernel_rfl))
    refine wkdsc (And.intro @hlt (And.intro @hli (@hw1))) _ ?_
    refine GS.calm1 rfl rfl (Calm.mul64 rfl rfl rfl) ?_
    refine wkdsc0 _ ?_
    refine GS.calm1 rfl rfl (Calm.add64 rfl rfl rfl) ?_
    refine GS.calm1 rfl rfl (Calm.add64 rfl rfl rfl) ?_
    rw [← hsn]
    refine wkdsc0 _ ?_
    (refine Holds.any mixed ?_ ?_; (· kernel_rfl))
    refine wkdsc (And.intro @hle (And.intro @hlt (@hle2))) _ ?_
    refine GS.calm1 rfl rfl (Calm.shr64 rfl rfl rfl) ?_
    refine GS.calm1 rfl rfl (Calm.and64 rfl rfl rfl) ?_
    refine wkdc (@hwa) _ ?_
    refine OutF.mkn (xs := ?_) (nm [0]) ?_ ?_ ?_ ?_ ?_ (by first | exact .inr rfl | exact .inl rfl)
    rotate_left
    · simp [go_sem, List.take_of_length_le, curC] <;> with_reducible rfl
    · simp [go_sem, List.take_of_length_le, ren, ren1, ren2, okr, okr1, okr2, ChkN, BlkN, List.range_succ, nf, curC]
    · simp [go_sem, List.take_of_length_le, ren, ren1, ren2, okr, okr1, okr2, ChkN, BlkN, List.range_succ, nf, curC]
    · simp [go_sem, List.take_of_length_le, ren, ren1, ren2, okr, okr1, okr2, ChkN, BlkN, List.range_succ, nf, curC]
    · rfl
theorem pickF (code : List Int) (hc : code.length ≤ 2000000) (hb : ∀ b ∈ code, 0 ≤ b ∧ b ≤ 255) (n : Int) (h0 : 1 ≤ n) (h1 : n ≤ 200) (st : St2) (hs : st.1 ≤ 1000000) : Fn Try.prog 45 1 [.pb 0 3 0 0, .v (.int .i64 n)] [(0, ⟨76, 3, [curC code st]⟩)] (.v (.int .i64 (pickV code n st))) 1 [(0, ⟨76, 3, [curC code (pickS code n st)]⟩)] := by
  have cn := nextF code hc hb st hs
  have hr := nextV_rng hb st
  unfold pickV pickS
  refine Fn.mk (rs := [.tmp 4]) (nt := 20) Try.func45 (by kernel_rfl) rfl rfl rfl (by simp) ?_
  simp only [sl]
  by_cases hn : n ≤ 1
  · rw [if_pos hn, if_pos hn]
    refine wkc (@hn) _ ?_
    refine OutF.mkn (xs := ?_) (nm [0]) ?_ ?_ ?_ ?_ ?_ (by first | exact .inr rfl | exact .inl rfl)
    rotate_left
    · simp [go_sem, List.take_of_length_le, curC] <;> with_reducible rfl
    · simp [go_sem, List.take_of_length_le, ren, ren1, ren2, okr, okr1, okr2, ChkN, BlkN, List.range_succ, nf, curC]
    · simp [go_sem, List.take_of_length_le, ren, ren1, ren2, okr, okr1, okr2, ChkN, BlkN, List.range_succ, nf, curC]
    · simp [go_sem, List.take_of_length_le, ren, ren1, ren2, okr, okr1, okr2, ChkN, BlkN, List.range_succ, nf, curC]
    · rfl
  · rw [if_neg hn, if_neg hn]
    generalize nextV code st = v at cn hr ⊢
    generalize nextS code st = st2 at cn ⊢
    have hn2 : ¬ 200 < n := by omega
    have hn0 : (n == 0) = false := by rw [beq_eq_false_iff_ne]; omega
    have hn1 : ¬ n = 0 := by omega
    have hm : Int.tmod v n = v % n := Int.tmod_eq_emod_of_nonneg hr.1
    have hm1 := Int.emod_nonneg v (show n ≠ 0 by omega)
    have hm2 := Int.emod_lt_of_pos v (show 0 < n by omega)
    have hwm : wr64 (v % n) = v % n := wr64_id (by omega) (by omega)
    refine wkc (@hn) _ ?_
    refine GS.fnn [0] (cn) rfl rfl rfl rfl (by simp [go_sem, List.take_of_length_le, ren, ren1, ren2, okr, okr1, okr2, ChkN, BlkN, List.range_succ, nf, curC] <;> with_reducible rfl) (by simp [go_sem, List.take_of_length_le, ren, ren1, ren2, okr, okr1, okr2, ChkN, BlkN, List.range_succ, nf, curC]) (by simp [go_sem, List.take_of_length_le, ren, ren1, ren2, okr, okr1, okr2, ChkN, BlkN, List.range_succ, nf, curC]) (by simp [List.range_succ, lb]) (ChkN.toB (by simp [go_sem, List.take_of_length_le, ren, ren1, ren2, okr, okr1, okr2, ChkN, BlkN, List.range_succ, nf, curC])) (by decide) (by simp) rfl (.nfr (by simp [curC, nf]) .nil) (by simp [go_sem, List.take_of_length_le, ren, ren1, ren2, okr, okr1, okr2, ChkN, BlkN, List.range_succ, nf, curC] <;> with_reducible rfl) ?_
    refine wkc (And.intro @hn2 (And.intro @hn0 (And.intro @hn1 (And.intro @hm (@hwm))))) _ ?_
    refine OutF.mkn (xs := ?_) (nm [0]) ?_ ?_ ?_ ?_ ?_ (by first | exact .inr rfl | exact .inl rfl)
    rotate_left
    · simp [go_sem, List.take_of_length_le, curC] <;> with_reducible rfl
    · simp [go_sem, List.take_of_length_le, ren, ren1, ren2, okr, okr1, okr2, ChkN, BlkN, List.range_succ, nf, curC]
    · simp [go_sem, List.take_of_length_le, ren, ren1, ren2, okr, okr1, okr2, ChkN, BlkN, List.range_succ, nf, curC]
    · simp [go_sem, List.take_of_length_le, ren, ren1, ren2, okr, okr1, okr2, ChkN, BlkN, List.range_succ, nf, curC]
    · rfl
end Go.Proofs.Ytejpklajfcngbaa.En
end
section
namespace Go.Proofs.Ytejpklajfcngbaa.En
open Go.RowKit
set_option linter.unusedSimpArgs false
set_option linter.unusedVariables false
set_option maxHeartbeats 4000000
theorem ints_allF (l : List Int) (P : List AV → Prop) : (∀ x, x ∈ ints l → P x) ↔ ∀ n, n ∈ l → P [.v (.int .i64 n)] := by simp [ints]
end Go.Proofs.Ytejpklajfcngbaa.En
end
section
namespace Go.Proofs.Ytejpklajfcngbaa.En
open Go.RowKit
set_option linter.unusedSimpArgs false
set_option linter.unusedVariables false
set_option linter.unusedSectionVars false
section
variable {ε : Type} [DecidableEq ε]
abbrev Imp (ε : Type) := ((ε → Bool) → Bool) × ε
def CloL (L : List (Imp ε)) (T : ε → Bool) : Prop := ∀ p ∈ L, p.1 T = true → T p.2 = true
def MonI (p : Imp ε) : Prop := ∀ S T : ε → Bool, (∀ x, S x = true → T x = true) → p.1 S = true → p.1 T = true
def LowI (L : List (Imp ε)) (S : ε → Bool) : Prop := ∀ T, CloL L T → ∀ x, S x = true → T x = true
noncomputable def lfpI (L : List (Imp ε)) : ε → Bool := fun x => @decide (∀ T, CloL L T → T x = true) (Classical.propDecidable _)
theorem lfpI_iff {L : List (Imp ε)} {x : ε} : lfpI L x = true ↔ ∀ T, CloL L T → T x = true := by
  unfold lfpI
  exact ⟨fun h => @of_decide_eq_true _ (Classical.propDecidable _) h, fun h => @decide_eq_true _ (Classical.propDecidable _) h⟩
theorem lfpI_eq {L : List (Imp ε)} {S : ε → Bool} (h1 : LowI L S) (h2 : CloL L S) : S = lfpI L := by
  funext x
  rw [Bool.eq_iff_iff, lfpI_iff]
  exact ⟨fun h T hT => h1 T hT x h, fun h => h S h2⟩
def insI (S : ε → Bool) (a : ε) : ε → Bool := fun x => S x || decide (x = a)
theorem insI_self (S : ε → Bool) (a : ε) : insI S a a = true := by simp [insI]
theorem insI_le (S : ε → Bool) (a x : ε) (h : S x = true) : insI S a x = true := by simp [insI, h]
omit [DecidableEq ε] in
theorem filt_le {S T : ε → Bool} (h : ∀ x, S x = true → T x = true) : ∀ U : List ε, (U.filter S).length ≤ (U.filter T).length
  | [] => Nat.le_refl _
  | u :: U => by
    have ih := filt_le h U
    by_cases hu : S u = true
    · rw [List.filter_cons_of_pos hu, List.filter_cons_of_pos (h u hu)]; simpa using ih
    · rw [List.filter_cons_of_neg hu]
      by_cases ht : T u = true
      · rw [List.filter_cons_of_pos ht]; simp only [List.length_cons]; omega
      · rw [List.filter_cons_of_neg ht]; exact ih
omit [DecidableEq ε] in
theorem filt_lt {S T : ε → Bool} (h : ∀ x, S x = true → T x = true) {a : ε} (h1 : S a = false) (h2 : T a = true) : ∀ U : List ε, a ∈ U → (U.filter S).length < (U.filter T).length
  | [], ha => by cases ha
  | u :: U, ha => by
    have hle := filt_le h U
    rcases List.mem_cons.1 ha with e | e
    · subst e
      rw [List.filter_cons_of_neg (by simp [h1]), List.filter_cons_of_pos h2]; simp only [List.length_cons]; omega
    · have ih := filt_lt h h1 h2 U e
      by_cases hu : S u = true
      · rw [List.filter_cons_of_pos hu, List.filter_cons_of_pos (h u hu)]; simp only [List.length_cons]; omega
      · rw [List.filter_cons_of_neg hu]
        by_cases ht : T u = true
        · rw [List.filter_cons_of_pos ht]; simp only [List.length_cons]; omega
        · rw [List.filter_cons_of_neg ht]; exact ih
structure ClI (L : List (Imp ε)) (U : List ε) (S0 S : ε → Bool) (more : Bool) (M : List (Imp ε)) : Prop where
  low : LowI L S
  le : ∀ x, S0 x = true → S x = true
  yes : more = true → (U.filter S0).length < (U.filter S).length
  no : more = false → S = S0 ∧ CloL M S0
theorem ClI.add {L M : List (Imp ε)} {U : List ε} {S0 S : ε → Bool} {more : Bool} (h : ClI L U S0 S more M) {p : Imp ε} (hp : p ∈ L) (hm : MonI p) (h1 : p.1 S = true) (h2 : S p.2 = false) (hU : p.2 ∈ U) (M' : List (Imp ε)) : ClI L U S0 (insI S p.2) true M' := by
  refine ⟨fun T hT x hx => ?_, fun x hx => insI_le _ _ _ (h.le x hx), fun _ => ?_, fun e => (by cases e)⟩
  · simp only [insI, Bool.or_eq_true, decide_eq_true_eq] at hx
    rcases hx with hx | hx
    · exact h.low T hT x hx
    · subst hx; exact hT p hp (hm _ _ (h.low T hT) h1)
  · exact Nat.lt_of_le_of_lt (filt_le h.le U) (filt_lt (insI_le S p.2) h2 (insI_self S p.2) U hU)
theorem ClI.skip {L M : List (Imp ε)} {U : List ε} {S0 S : ε → Bool} {more : Bool} (h : ClI L U S0 S more M) {p : Imp ε} (h1 : p.1 S = true → S p.2 = true) : ClI L U S0 S more (M ++ [p]) := by
  refine ⟨h.low, h.le, h.yes, fun e => ⟨(h.no e).1, fun q hq hq1 => ?_⟩⟩
  obtain ⟨e1, e2⟩ := h.no e
  rcases List.mem_append.1 hq with g | g
  · exact e2 q g hq1
  · rw [List.mem_singleton] at g
    subst g
    rw [← e1] at hq1 ⊢
    exact h1 hq1
theorem ClI.done {L : List (Imp ε)} {U : List ε} {S0 S : ε → Bool} (h : ClI L U S0 S false L) : S = lfpI L := lfpI_eq h.low (by rw [(h.no rfl).1]; exact (h.no rfl).2)
end
/-! ### nonterminals -/
def univN : List Int := (List.range 6).map fun k : Nat => (k : Int)
theorem mem_univN {x : Int} : x ∈ univN ↔ 0 ≤ x ∧ x ≤ 5 := by
  simp only [univN, List.mem_map, List.mem_range]
  constructor
  · rintro ⟨k, h, rfl⟩; omega
  · rintro ⟨h1, h2⟩; exact ⟨x.toNat, by omega, by omega⟩
theorem univN_incr : univN.Pairwise (· < ·) := by decide
def lstN (S : Int → Bool) : List Int := univN.filter S
theorem lstN_mem {S : Int → Bool} (h : ∀ x, S x = true → 0 ≤ x ∧ x ≤ 5) (x : Int) : x ∈ lstN S ↔ S x = true := by
  rw [lstN, List.mem_filter, mem_univN]
  exact ⟨fun h => h.2, fun g => ⟨h x g, g⟩⟩
def arrN (S : Int → Bool) : List Bool := univN.map S
@[simp] theorem arrN_len (S : Int → Bool) : (arrN S).length = 6 := rfl
end Go.Proofs.Ytejpklajfcngbaa.En
end
section
namespace Go.Proofs.Ytejpklajfcngbaa.En
open Go.RowKit
set_option linter.unusedSimpArgs false
set_option linter.unusedVariables false
set_option maxHeartbeats 4000000
structure LstN (L : List Int) : Prop where
  inc : L.Pairwise (· < ·)
  rng : ∀ x ∈ L, 0 ≤ x ∧ x ≤ 5
theorem LstN.eq {L : List Int} (h : LstN L) : L = lstN fun x => hasN L x := by
  refine incr_ext h.inc (List.Pairwise.filter _ univN_incr) fun z => ?_
  rw [lstN_mem fun x hx => h.rng x (by rw [hasN_dec] at hx; exact of_decide_eq_true hx), hasN_dec, decide_eq_true_eq]
theorem LstN.len {L : List Int} (h : LstN L) : L.length ≤ 6 := by
  rw [h.eq, lstN]
  exact Nat.le_trans (List.length_filter_le _ _) (by decide)
theorem LstN.put {L : List Int} (h : LstN L) {a : Int} (ha : 0 ≤ a ∧ a ≤ 5) : LstN (putL L a) := ⟨putL_incr a L h.inc, fun x hx => by
  rcases (putL_mem a x L).1 hx with e | e
  · subst e; exact ha
  · exact h.rng x e⟩
end Go.Proofs.Ytejpklajfcngbaa.En
end
section
namespace Go.Proofs.Ytejpklajfcngbaa.En
open Go.RowKit
set_option linter.unusedSimpArgs false
set_option linter.unusedVariables false
set_option maxHeartbeats 4000000
def cellsN (S : Int → Bool) : List AV := [.v (.bool (S 0)), .v (.bool (S 1)), .v (.bool (S 2)), .v (.bool (S 3)), .v (.bool (S 4)), .v (.bool (S 5))]
theorem cellsN_map (S : Int → Bool) : cellsN S = (arrN S).map fun b => .v (.bool b) := rfl
@[simp] theorem cellsN_len (S : Int → Bool) : (cellsN S).length = 6 := rfl
@[simp] theorem nfc_cellsN (S : Int → Bool) : nfc (cellsN S) := fun x hx => by
  simp only [cellsN_map, List.mem_map] at hx
  obtain ⟨b, _, rfl⟩ := hx
  rfl
@[simp] theorem cellsN_flat (S : Int → Bool) : ∀ x ∈ cellsN S, flat x = true := fun x hx => by
  simp only [cellsN_map, List.mem_map] at hx
  obtain ⟨b, _, rfl⟩ := hx
  rfl
@[simp] theorem cellsN_all (S : Int → Bool) : (cellsN S).all flat = true := List.all_eq_true.2 (cellsN_flat S)
@[simp] theorem cellsN_take (S : Int → Bool) : (cellsN S).take 6 = cellsN S := rfl
@[simp] theorem cellsN_drop (S : Int → Bool) : (cellsN S).drop 6 = [] := rfl
/-! the two closures -/
end Go.Proofs.Ytejpklajfcngbaa.En
end
section
namespace Go.Proofs.Ytejpklajfcngbaa.En
open Go.RowKit
set_option linter.unusedSimpArgs false
set_option linter.unusedVariables false
set_option maxHeartbeats 4000000
end Go.Proofs.Ytejpklajfcngbaa.En
end
section
namespace Go.Proofs.Ytejpklajfcngbaa.En
open Go.RowKit
set_option linter.unusedSimpArgs false
set_option linter.unusedVariables false
set_option maxHeartbeats 4000000
structure DelI {α : Type} (p : α → Bool) (xs L : List α) (i j : Nat) : Prop where
  ln : L.length = xs.length
  ij : i < j
  jl : j ≤ xs.length
  tk : L.take i = (xs.take j).filter fun x => !p x
  dr : L.drop j = xs.drop j
theorem drop_more {α : Type} {xs L : List α} {j : Nat} (h : L.drop j = xs.drop j) : L.drop (j + 1) = xs.drop (j + 1) := by
  rw [← List.drop_drop, ← List.drop_drop, h]
theorem DelI.skip {α : Type} {p : α → Bool} {xs L : List α} {i j : Nat} (h : DelI p xs L i j) {x : α} (hx : xs[j]? = some x) (hp : p x = true) : DelI p xs L i (j + 1) :=
  ⟨h.ln, by have := h.ij; omega, (List.getElem?_eq_some_iff.1 hx).1, by rw [List.take_add_one, hx, List.filter_append, ← h.tk]; simp [hp], drop_more h.dr⟩
theorem DelI.keep {α : Type} {p : α → Bool} {xs L : List α} {i j : Nat} (h : DelI p xs L i j) {x : α} (hx : xs[j]? = some x) (hp : p x = false) : DelI p xs (L.set i x) (i + 1) (j + 1) := by
  have hj := (List.getElem?_eq_some_iff.1 hx).1
  have hi : i < L.length := by have := h.ij; have := h.ln; omega
  refine ⟨by rw [List.length_set]; exact h.ln, by have := h.ij; omega, hj, ?_, ?_⟩
  · rw [List.take_add_one, List.getElem?_set_self hi, List.take_set_of_le (Nat.le_refl i), h.tk, List.take_add_one, hx, List.filter_append]
    simp [hp]
  · rw [List.drop_set_of_lt (by have := h.ij; omega), drop_more h.dr]
theorem DelI.fin {α : Type} {p : α → Bool} {xs L : List α} {i : Nat} (h : DelI p xs L i xs.length) : L.take i = xs.filter fun x => !p x := by
  rw [h.tk, List.take_length]
end Go.Proofs.Ytejpklajfcngbaa.En
end
section
namespace Go.Proofs.Ytejpklajfcngbaa.En
open Go.RowKit
set_option linter.unusedSimpArgs false
set_option linter.unusedVariables false
set_option maxHeartbeats 4000000
end Go.Proofs.Ytejpklajfcngbaa.En
end
section
namespace Go.Proofs.Ytejpklajfcngbaa.En
open Go.RowKit
set_option linter.unusedSimpArgs false
set_option linter.unusedVariables false
set_option maxHeartbeats 4000000
def inG (l : List (List Int)) (x : List Int) : Bool := decide (0 < kposF x l l.length ∧ l.getD (kposF x l l.length - 1) [] = x)
theorem insG_old {l : List (List Int)} {x : List Int} (h : inG l x = true) : insG l x = l := by
  unfold insG; rw [if_pos (of_decide_eq_true h)]
theorem insG_new {l : List (List Int)} {x : List Int} (h : inG l x = false) : insG l x = insA l x := by
  unfold insG; rw [if_neg (of_decide_eq_false h)]
theorem intss_mid (a b : List (List Int)) (x : List Int) : intss (a ++ x :: b) = intss a ++ [.im 1 (ints x)] :: intss b := by simp [intss, intsC]
theorem l5InsN (l : List (List Int)) (x : List Int) (hin : inG l x = false) (hl : l.length ≤ 1000) (hx : x.length ≤ 1000) (h3 : ∀ t ∈ l, x.length = t.length) : Fn Try.prog 66 1 [.own 0 1 0 l.length, .im 1 (ints x)] [(0, ⟨26, 1, intss l⟩)] (.own 1 1 0 (insA l x).length) 2 [(1, ⟨26, 1, intss (insA l x)⟩)] := by
  have hin := of_decide_eq_false hin
  rw [show (insA l x).length = l.length + 1 by simpa using (insA_perm l x).length_eq]
  unfold insA
  have hgt := kposF_gt x l l.length
  obtain ⟨K, hK⟩ : ∃ K, K = kposF x l l.length := ⟨_, rfl⟩
  have hKl : K ≤ l.length := by rw [hK]; exact kposF_le x l l.length
  rw [← hK] at hin ⊢
  refine Fn.mk (rs := [.tmp 4]) (nt := 51) Try.func66 (by kernel_rfl) rfl rfl rfl (by simp) ?_
  simp only [sl]
  refine Holds.frz [0] [(0, .im 1 (intss l))] (.cons rfl (Fz.all rfl rfl (by simp) (by simp [intss, intsC]) (intss_clT _)) .nil) ?_
  refine wkc (@frz.eq_1) _ ?_
  refine Holds.loop (ι := Nat) (fun k => ⟨[(0, .im 1 (intss l)), (1, .im 1 (ints x)), (5, .v (.int .i64 k))], [], 1⟩)
    (fun k => k ≤ l.length ∧ K = kposF x l k) (fun k => k) l.length ⟨Nat.le_refl _, hK⟩ ?_ ?_
  · exact Cov.ofn (id) rfl (by simp [go_sem, List.take_of_length_le, ren, ren1, ren2, okr, okr1, okr2, ChkT, ChkN, BlkN, nf]) (by simp [go_sem, List.take_of_length_le, ren, ren1, ren2, okr, okr1, okr2, ChkT, ChkN, BlkN, nf])
  clear hK hgt
  rintro k ⟨hk, hK⟩
  cases k with
  | zero =>
    rw [kposF] at hK
    subst hK
    have hdl : (l.drop 0) = l := rfl
    have hb1 : l.length * 24 ≤ 140737488355328 := by omega
    have hb2 : (1 + l.length) * 24 ≤ 140737488355328 := by omega
    refine wkc0 _ ?_
    refine wkc (And.intro @hb1 (And.intro @hb2 (And.intro @intss_dropT (And.intro @intss_takeT (@intss_allT))))) _ ?_
    have hq1 : 1 + l.length = l.length + 1 := by omega
    have hq2 : intss (x :: l) = [.im 1 (ints x)] :: intss l := rfl
    refine OutF.mkn (xs := ?_) (nm [0, 11]) ?_ ?_ ?_ ?_ ?_ (by first | exact .inr rfl | exact .inl rfl)
    rotate_left
    · simp [go_sem, List.take_of_length_le, hq1, hq2] <;> with_reducible rfl
    · simp [go_sem, List.take_of_length_le, ren, ren1, ren2, okr, okr1, okr2, ChkN, BlkN, List.range_succ, nf, hq1, hq2]
    · simp [go_sem, List.take_of_length_le, ren, ren1, ren2, okr, okr1, okr2, ChkN, BlkN, List.range_succ, nf, hq1, hq2]
    · simp [go_sem, List.take_of_length_le, ren, ren1, ren2, okr, okr1, okr2, ChkN, BlkN, List.range_succ, nf, hq1, hq2]
    · rfl
  | succ k =>
    have hkl1 : k < l.length := by omega
    obtain ⟨t, ht⟩ : ∃ t, l[k]? = some t := ⟨_, List.getElem?_eq_getElem hkl1⟩
    have htm := List.mem_of_getElem? ht
    have htg : l.getD k [] = t := by rw [List.getD_eq_getElem?_getD, ht]; rfl
    have hxt := h3 t htm
    have cl := l5Less x t (by omega) (by omega)
    rw [lessL_row x t hxt] at cl
    have cs := l1Same t x (by omega)
    rw [kposF, htg] at hK
    have hw1 : wr64 (((k + 1 : Nat) : Int) - 1) = (k : Int) := by rw [wr64_id (by omega) (by omega)]; omega
    have hw2 : wr64 (k : Int) = (k : Int) := wr64_id (by omega) (by omega)
    have hit : intsC t = [.im 1 (ints t)] := rfl
    refine wkc (And.intro @hw1 (And.intro @hw2 (And.intro @hkl1 (And.intro @ht (And.intro (@get_E _ _ _ _ ht) (@hit)))))) _ ?_
    by_cases hlt : cmpRow x t < 0
    · rw [if_pos hlt] at hK
      rw [decide_eq_true hlt] at cl
      refine GS.cc (cl) rfl rfl rfl rfl (by simp [go_sem, List.take_of_length_le] <;> with_reducible rfl) rfl (by simp [go_sem, List.take_of_length_le]) ?_
      refine wkc (And.intro @hw1 (@hw2)) _ ?_
      refine ⟨k, ⟨by omega, hK⟩, by omega, ?_⟩
      exact Cov.ofn (id) rfl (by simp [go_sem, List.take_of_length_le, ren, ren1, ren2, okr, okr1, okr2, ChkT, ChkN, BlkN, nf]) (by simp [go_sem, List.take_of_length_le, ren, ren1, ren2, okr, okr1, okr2, ChkT, ChkN, BlkN, nf])
    · rw [if_neg hlt] at hK
      subst hK
      rw [decide_eq_false hlt] at cl
      obtain ⟨K, hKk⟩ : ∃ K, K = k + 1 := ⟨_, rfl⟩
      have hKc : ((k : Int) + 1) = (K : Int) := by omega
      have hKl : K ≤ l.length := by omega
      have hdl : (l.drop K).length = l.length - K := by rw [List.length_drop]
      have htl : (l.take K).length = K := by rw [List.length_take]; omega
      have hmin : min K l.length = K := by omega
      have hb1 : (l.length - K) * 24 ≤ 140737488355328 := by omega
      have hb2 : K * 24 ≤ 140737488355328 := by omega
      have hb3 : (K + 1) * 24 ≤ 140737488355328 := by omega
      have hb4 : (K + 1 + (l.length - K)) * 24 ≤ 140737488355328 := by omega
      rw [← hKk]
      have hxt : ¬ t = x := fun e => hin ⟨by omega, by rw [Nat.add_sub_cancel, htg]; exact e⟩
      · rw [decide_eq_false hxt] at cs
        refine GS.cc (cl) rfl rfl rfl rfl (by simp [go_sem, List.take_of_length_le] <;> with_reducible rfl) rfl (by simp [go_sem, List.take_of_length_le]) ?_
        refine wkc (And.intro @hw1 (And.intro @hw2 (And.intro @hkl1 (And.intro @ht (And.intro (@get_E _ _ _ _ ht) (@hit)))))) _ ?_
        refine GS.cc (cs) rfl rfl rfl rfl (by simp [go_sem, List.take_of_length_le] <;> with_reducible rfl) rfl (by simp [go_sem, List.take_of_length_le]) ?_
        refine wkc (And.intro @hKc (And.intro @hKl (And.intro @hmin (And.intro @hb1 (And.intro @hb2 (And.intro @hb3 (And.intro @hb4 (And.intro @intss_dropT (And.intro @intss_takeT (@intss_allT)))))))))) _ ?_
        have hq1 : K + 1 + (l.length - K) = l.length + 1 := by omega
        refine OutF.mkn (xs := ?_) (nm [0, 11]) ?_ ?_ ?_ ?_ ?_ (by first | exact .inr rfl | exact .inl rfl)
        rotate_left
        · simp [go_sem, List.take_of_length_le, hq1, intss_mid] <;> with_reducible rfl
        · simp [go_sem, List.take_of_length_le, ren, ren1, ren2, okr, okr1, okr2, ChkN, BlkN, List.range_succ, nf, hq1, intss_mid]
        · simp [go_sem, List.take_of_length_le, ren, ren1, ren2, okr, okr1, okr2, ChkN, BlkN, List.range_succ, nf, hq1, intss_mid]
        · simp [go_sem, List.take_of_length_le, ren, ren1, ren2, okr, okr1, okr2, ChkN, BlkN, List.range_succ, nf, hq1, intss_mid]
        · rfl
theorem l5InsO (l : List (List Int)) (x : List Int) (hin : inG l x = true) (hl : l.length ≤ 1000) (hx : x.length ≤ 1000) (h3 : ∀ t ∈ l, x.length = t.length) : Fn Try.prog 66 1 [.own 0 1 0 l.length, .im 1 (ints x)] [(0, ⟨26, 1, intss l⟩)] (.own 0 1 0 l.length) 1 [(0, ⟨26, 1, intss l⟩)] := by
  have hin := of_decide_eq_true hin
  have hgt := kposF_gt x l l.length
  obtain ⟨K, hK⟩ : ∃ K, K = kposF x l l.length := ⟨_, rfl⟩
  have hKl : K ≤ l.length := by rw [hK]; exact kposF_le x l l.length
  rw [← hK] at hin
  refine Fn.mk (rs := [.tmp 4]) (nt := 51) Try.func66 (by kernel_rfl) rfl rfl rfl (by simp) ?_
  simp only [sl]
  refine wkc0 _ ?_
  refine Holds.loop (ι := Nat) (fun k => ⟨[(0, .own 0 1 0 l.length), (1, .im 1 (ints x)), (5, .v (.int .i64 k))], [(0, ⟨26, 1, intss l⟩)], 1⟩)
    (fun k => k ≤ l.length ∧ K = kposF x l k) (fun k => k) l.length ⟨Nat.le_refl _, hK⟩ ?_ ?_
  · exact Cov.ofn (nm [0]) rfl (by simp [go_sem, List.take_of_length_le, ren, ren1, ren2, okr, okr1, okr2, ChkT, ChkN, BlkN, nf]) (by simp [go_sem, List.take_of_length_le, ren, ren1, ren2, okr, okr1, okr2, ChkT, ChkN, BlkN, nf])
  clear hK hgt
  rintro k ⟨hk, hK⟩
  cases k with
  | zero =>
    rw [kposF] at hK
    subst hK
    exact absurd hin.1 (by omega)
  | succ k =>
    have hkl1 : k < l.length := by omega
    obtain ⟨t, ht⟩ : ∃ t, l[k]? = some t := ⟨_, List.getElem?_eq_getElem hkl1⟩
    have htm := List.mem_of_getElem? ht
    have htg : l.getD k [] = t := by rw [List.getD_eq_getElem?_getD, ht]; rfl
    have hxt := h3 t htm
    have cl := l5Less x t (by omega) (by omega)
    rw [lessL_row x t hxt] at cl
    have cs := l1Same t x (by omega)
    rw [kposF, htg] at hK
    have hw1 : wr64 (((k + 1 : Nat) : Int) - 1) = (k : Int) := by rw [wr64_id (by omega) (by omega)]; omega
    have hw2 : wr64 (k : Int) = (k : Int) := wr64_id (by omega) (by omega)
    have hit : intsC t = [.im 1 (ints t)] := rfl
    refine wkc (And.intro @hw1 (And.intro @hw2 (And.intro @hkl1 (And.intro @ht (And.intro (@get_E _ _ _ _ ht) (@hit)))))) _ ?_
    by_cases hlt : cmpRow x t < 0
    · rw [if_pos hlt] at hK
      rw [decide_eq_true hlt] at cl
      refine GS.cc (cl) rfl rfl rfl rfl (by simp [go_sem, List.take_of_length_le] <;> with_reducible rfl) rfl (by simp [go_sem, List.take_of_length_le]) ?_
      refine wkc (And.intro @hw1 (@hw2)) _ ?_
      refine ⟨k, ⟨by omega, hK⟩, by omega, ?_⟩
      exact Cov.ofn (id) rfl (by simp [go_sem, List.take_of_length_le, ren, ren1, ren2, okr, okr1, okr2, ChkT, ChkN, BlkN, nf]) (by simp [go_sem, List.take_of_length_le, ren, ren1, ren2, okr, okr1, okr2, ChkT, ChkN, BlkN, nf])
    · rw [if_neg hlt] at hK
      subst hK
      rw [decide_eq_false hlt] at cl
      obtain ⟨K, hKk⟩ : ∃ K, K = k + 1 := ⟨_, rfl⟩
      have hKc : ((k : Int) + 1) = (K : Int) := by omega
      have hKl : K ≤ l.length := by omega
      have hdl : (l.drop K).length = l.length - K := by rw [List.length_drop]
      have htl : (l.take K).length = K := by rw [List.length_take]; omega
      have hmin : min K l.length = K := by omega
      have hb1 : (l.length - K) * 24 ≤ 140737488355328 := by omega
      have hb2 : K * 24 ≤ 140737488355328 := by omega
      have hb3 : (K + 1) * 24 ≤ 140737488355328 := by omega
      have hb4 : (K + 1 + (l.length - K)) * 24 ≤ 140737488355328 := by omega
      rw [← hKk]
      have hxt : t = x := by have := hin.2; rw [Nat.add_sub_cancel, htg] at this; exact this
      rw [decide_eq_true hxt] at cs
      refine GS.cc (cl) rfl rfl rfl rfl (by simp [go_sem, List.take_of_length_le] <;> with_reducible rfl) rfl (by simp [go_sem, List.take_of_length_le]) ?_
      refine wkc (And.intro @hw1 (And.intro @hw2 (And.intro @hkl1 (And.intro @ht (And.intro (@get_E _ _ _ _ ht) (@hit)))))) _ ?_
      refine GS.cc (cs) rfl rfl rfl rfl (by simp [go_sem, List.take_of_length_le] <;> with_reducible rfl) rfl (by simp [go_sem, List.take_of_length_le]) ?_
      refine wkc0 _ ?_
      refine OutF.mkn (xs := ?_) (nm [0]) ?_ ?_ ?_ ?_ ?_ (by first | exact .inr rfl | exact .inl rfl)
      rotate_left
      · simp [go_sem, List.take_of_length_le] <;> with_reducible rfl
      · simp [go_sem, List.take_of_length_le, ren, ren1, ren2, okr, okr1, okr2, ChkN, BlkN, List.range_succ, nf]
      · simp [go_sem, List.take_of_length_le, ren, ren1, ren2, okr, okr1, okr2, ChkN, BlkN, List.range_succ, nf]
      · simp [go_sem, List.take_of_length_le, ren, ren1, ren2, okr, okr1, okr2, ChkN, BlkN, List.range_succ, nf]
      · rfl
theorem l1PutN (l : List Int) (n : Int) (hin : n ∉ l) (hl : l.length ≤ 4000000) : Fn Try.prog 65 0 [.im 1 (ints l), .v (.int .i64 n)] [] (.own 0 1 0 (l.length + 1)) 1 [(0, ⟨3, 1, ints (putL l n)⟩)] := by
  refine Fn.mk (rs := [.tmp 4]) (nt := 48) Try.func65 (by kernel_rfl) rfl rfl rfl (by simp) ?_
  simp only [sl]
  refine wkc0 _ ?_
  refine Holds.loop (ι := Nat) (fun k => ⟨[(0, .im 1 (ints l)), (1, .v (.int .i64 n)), (5, .v (.int .i64 k))], [], 0⟩) (fun k => k ≤ l.length ∧ ∀ j, j < k → ∀ x, l[j]? = some x → x < n) (fun k => l.length - k) 0 ⟨Nat.zero_le _, fun j hj => absurd hj (Nat.not_lt_zero j)⟩ ?_ ?_
  · exact Cov.ofn (id) rfl (by simp [go_sem, List.take_of_length_le, ren, ren1, ren2, okr, okr1, okr2, ChkT, ChkN, BlkN, nf]) (by simp [go_sem, List.take_of_length_le, ren, ren1, ren2, okr, okr1, okr2, ChkT, ChkN, BlkN, nf])
  rintro k ⟨hk, hall⟩
  have stepk : wr64 ((k : Int) + 1) = ((k + 1 : Nat) : Int) := wr64_id (by omega) (by omega)
  have hsp := putL_split n l k hk hall
  have htk : (ints l).take k = ints (l.take k) := by simp [ints, List.map_take]
  have hdk : (ints l).drop k = ints (l.drop k) := by simp [ints, List.map_drop]
  have hi00 : (List.length l - k) = (l.drop k).length := by simp
  by_cases hlt : k < l.length
  · have hxi : l[k]? = some l[k] := List.getElem?_eq_getElem hlt
    have hdr : l.drop k = l[k] :: l.drop (k + 1) := List.drop_eq_getElem_cons hlt
    by_cases hx : l[k] < n
    · refine wkc (And.intro @hlt (@hx)) _ ?_
      refine ⟨k + 1, ⟨by omega, fun j hj y hy => ?_⟩, by omega, ?_⟩
      · by_cases e : j = k
        · subst e; rw [hxi] at hy; cases hy; exact hx
        · exact hall j (by omega) y hy
      rw [stepk]
      exact Cov.ofn (id) rfl (by simp [go_sem, List.take_of_length_le, ren, ren1, ren2, okr, okr1, okr2, ChkT, ChkN, BlkN, nf]) (by simp [go_sem, List.take_of_length_le, ren, ren1, ren2, okr, okr1, okr2, ChkT, ChkN, BlkN, nf])
    · have he : ¬ l[k] = n := fun e => hin (e ▸ List.getElem_mem _)
      have hv : ints (putL l n) = ints (l.take k) ++ [.v (.int .i64 n)] :: ints (l.drop k) := by
          rw [hsp, hdr, putL, if_neg hx, if_neg he]; simp [ints]
      have he' : (l[k] == n) = false := by simp [he]
      have hm : min k l.length = k := Nat.min_eq_left hk
      have hb1 : k * 8 ≤ 140737488355328 := by omega
      have hb2 : (k + 1) * 8 ≤ 140737488355328 := by omega
      have hb3 : (k + 1 + (l.length - k)) * 8 ≤ 140737488355328 := by omega
      rw [hv]
      refine wkc (And.intro @hlt (And.intro @hx (And.intro @he' (And.intro @htk (And.intro @hdk (And.intro @hk (And.intro @hm (And.intro @hb1 (And.intro @hb2 (And.intro @hb3 (@ints_all))))))))))) _ ?_
      have hq1 : k + 1 + (l.length - k) = l.length + 1 := by omega
      refine OutF.mkn (xs := ?_) (nm [7]) ?_ ?_ ?_ ?_ ?_ (by first | exact .inr rfl | exact .inl rfl)
      rotate_left
      · simp [go_sem, List.take_of_length_le, hq1] <;> with_reducible rfl
      · simp [go_sem, List.take_of_length_le, ren, ren1, ren2, okr, okr1, okr2, ChkN, BlkN, List.range_succ, nf, hq1]
      · simp [go_sem, List.take_of_length_le, ren, ren1, ren2, okr, okr1, okr2, ChkN, BlkN, List.range_succ, nf, hq1]
      · simp [go_sem, List.take_of_length_le, ren, ren1, ren2, okr, okr1, okr2, ChkN, BlkN, List.range_succ, nf, hq1]
      · rfl
  · have hke : k = l.length := by omega
    subst hke
    have hv : ints (putL l n) = ints l ++ [[.v (.int .i64 n)]] := by
      rw [hsp, List.take_length, List.drop_length]; simp [ints, putL]
    have hb1 : l.length * 8 ≤ 140737488355328 := by omega
    have hb2 : (l.length + 1) * 8 ≤ 140737488355328 := by omega
    have hnl : ¬ l.length < l.length := by omega
    rw [List.take_length] at htk
    rw [List.drop_length] at hdk
    rw [hv]
    refine wkc (And.intro @hnl (And.intro @htk (And.intro @hdk (And.intro @hb1 (And.intro @hb2 (@ints_all)))))) _ ?_
    refine OutF.mkn (xs := ?_) (nm [7]) ?_ ?_ ?_ ?_ ?_ (by first | exact .inr rfl | exact .inl rfl)
    rotate_left
    · simp [go_sem, List.take_of_length_le] <;> with_reducible rfl
    · simp [go_sem, List.take_of_length_le, ren, ren1, ren2, okr, okr1, okr2, ChkN, BlkN, List.range_succ, nf]
    · simp [go_sem, List.take_of_length_le, ren, ren1, ren2, okr, okr1, okr2, ChkN, BlkN, List.range_succ, nf]
    · simp [go_sem, List.take_of_length_le, ren, ren1, ren2, okr, okr1, okr2, ChkN, BlkN, List.range_succ, nf]
    · rfl
theorem l1PutO (l : List Int) (n : Int) (hp : l.Pairwise (· < ·)) (hin : n ∈ l) (hl : l.length ≤ 4000000) : Fn Try.prog 65 1 [.own 0 1 0 l.length, .v (.int .i64 n)] [(0, ⟨3, 1, ints l⟩)] (.own 0 1 0 l.length) 1 [(0, ⟨3, 1, ints l⟩)] := by
  refine Fn.mk (rs := [.tmp 4]) (nt := 48) Try.func65 (by kernel_rfl) rfl rfl rfl (by simp) ?_
  simp only [sl]
  refine wkc0 _ ?_
  refine Holds.loop (ι := Nat) (fun k => ⟨[(0, .own 0 1 0 l.length), (1, .v (.int .i64 n)), (5, .v (.int .i64 k))], [(0, ⟨3, 1, ints l⟩)], 1⟩) (fun k => k ≤ l.length ∧ ∀ j, j < k → ∀ x, l[j]? = some x → x < n) (fun k => l.length - k) 0 ⟨Nat.zero_le _, fun j hj => absurd hj (Nat.not_lt_zero j)⟩ ?_ ?_
  · exact Cov.ofn (nm [0]) rfl (by simp [go_sem, List.take_of_length_le, ren, ren1, ren2, okr, okr1, okr2, ChkT, ChkN, BlkN, nf]) (by simp [go_sem, List.take_of_length_le, ren, ren1, ren2, okr, okr1, okr2, ChkT, ChkN, BlkN, nf])
  rintro k ⟨hk, hall⟩
  have stepk : wr64 ((k : Int) + 1) = ((k + 1 : Nat) : Int) := wr64_id (by omega) (by omega)
  have hsp := putL_split n l k hk hall
  have htk : (ints l).take k = ints (l.take k) := by simp [ints, List.map_take]
  have hdk : (ints l).drop k = ints (l.drop k) := by simp [ints, List.map_drop]
  have hi00 : (List.length l - k) = (l.drop k).length := by simp
  by_cases hlt : k < l.length
  · have hxi : l[k]? = some l[k] := List.getElem?_eq_getElem hlt
    have hdr : l.drop k = l[k] :: l.drop (k + 1) := List.drop_eq_getElem_cons hlt
    by_cases hx : l[k] < n
    · refine wkc (And.intro @hlt (@hx)) _ ?_
      refine ⟨k + 1, ⟨by omega, fun j hj y hy => ?_⟩, by omega, ?_⟩
      · by_cases e : j = k
        · subst e; rw [hxi] at hy; cases hy; exact hx
        · exact hall j (by omega) y hy
      rw [stepk]
      exact Cov.ofn (nm [0]) rfl (by simp [go_sem, List.take_of_length_le, ren, ren1, ren2, okr, okr1, okr2, ChkT, ChkN, BlkN, nf]) (by simp [go_sem, List.take_of_length_le, ren, ren1, ren2, okr, okr1, okr2, ChkT, ChkN, BlkN, nf])
    · by_cases he : l[k] = n
      · have he' : (l[k] == n) = true := by simp [he]
        refine wkc (And.intro @hlt (And.intro @hx (@he'))) _ ?_
        refine OutF.mkn (xs := ?_) (nm [0]) ?_ ?_ ?_ ?_ ?_ (by first | exact .inr rfl | exact .inl rfl)
        rotate_left
        · simp [go_sem, List.take_of_length_le] <;> with_reducible rfl
        · simp [go_sem, List.take_of_length_le, ren, ren1, ren2, okr, okr1, okr2, ChkN, BlkN, List.range_succ, nf]
        · simp [go_sem, List.take_of_length_le, ren, ren1, ren2, okr, okr1, okr2, ChkN, BlkN, List.range_succ, nf]
        · simp [go_sem, List.take_of_length_le, ren, ren1, ren2, okr, okr1, okr2, ChkN, BlkN, List.range_succ, nf]
        · rfl
      · exfalso
        obtain ⟨j, hj, hjn⟩ := List.getElem_of_mem hin
        rcases Nat.lt_trichotomy j k with g | g | g
        · have := hall j g n (by rw [← hjn]; exact List.getElem?_eq_getElem hj); omega
        · subst g; exact he hjn
        · have := List.pairwise_iff_getElem.1 hp k j hlt hj g; omega
  · exfalso
    obtain ⟨j, hj, hjn⟩ := List.getElem_of_mem hin
    have := hall j (by omega) n (by rw [← hjn]; exact List.getElem?_eq_getElem hj); omega
theorem putL_new {l : List Int} {n : Int} (h : n ∉ l) : (putL l n).length = l.length + 1 := by
  induction l with
  | nil => rfl
  | cons x xs ih =>
    rw [putL]
    split
    · simp [ih fun e => h (List.mem_cons_of_mem _ e)]
    · rw [if_neg (fun (e : x = n) => h (by rw [e]; exact List.mem_cons_self))]; rfl
theorem putL_old {l : List Int} {n : Int} (hp : l.Pairwise (· < ·)) (h : n ∈ l) : putL l n = l := by
  induction l with
  | nil => simp at h
  | cons x xs ih =>
    rw [putL]
    rw [List.pairwise_cons] at hp
    by_cases hx : x < n
    · rw [if_pos hx, ih hp.2 (by rcases List.mem_cons.1 h with e | e
                                 · omega
                                 · exact e)]
    · rw [if_neg hx, if_pos]
      rcases List.mem_cons.1 h with e | e
      · exact e.symm
      · exact absurd (hp.1 n e) hx
end Go.Proofs.Ytejpklajfcngbaa.En
end
section
namespace Go.Proofs.Ytejpklajfcngbaa.En
open Go.RowKit
set_option linter.unusedSimpArgs false
set_option linter.unusedVariables false
set_option maxHeartbeats 4000000
theorem amongF (code : List Int) (hc : code.length ≤ 2000000) (hb : ∀ b ∈ code, 0 ≤ b ∧ b ≤ 255) (a b c : Int) (st : St2) (hs : st.1 ≤ 1000000) : Fn Try.prog 88 1 [.pb 0 3 0 0, .im 1 (ints [a, b, c])] [(0, ⟨76, 3, [curC code st]⟩)] (.v (.int .i64 ([a, b, c].getD (pickV code 3 st).toNat 0))) 1 [(0, ⟨76, 3, [curC code (pickS code 3 st)]⟩)] := by
  have cp := pickF code hc hb 3 (by omega) (by omega) st hs
  have hr := pickV_rng hb 3 (by omega) st
  generalize pickV code 3 st = v at cp hr ⊢
  generalize pickS code 3 st = st2 at cp ⊢
  obtain ⟨n, rfl⟩ : ∃ n : Nat, v = (n : Int) := ⟨v.toNat, by omega⟩
  rw [Int.toNat_natCast]
  have hn : n < 3 := by omega
  have hx : [a, b, c][n]? = some ([a, b, c].getD n 0) := by
    match n, hn with
    | 0, _ => rfl
    | 1, _ => rfl
    | 2, _ => rfl
  generalize [a, b, c].getD n 0 = x at hx ⊢
  obtain ⟨L, hL⟩ : ∃ L, L = [a, b, c] := ⟨_, rfl⟩
  have hl : L.length = 3 := by rw [hL]; rfl
  rw [← hL] at hx ⊢
  clear hL
  refine Fn.mk (rs := [.tmp 4]) (nt := 12) Try.func88 (by kernel_rfl) rfl rfl rfl (by simp) ?_
  simp only [sl]
  refine wkc (@hl) _ ?_
  refine GS.fnn [0] (cp) rfl rfl rfl rfl (by simp [go_sem, List.take_of_length_le, ren, ren1, ren2, okr, okr1, okr2, ChkN, BlkN, List.range_succ, nf, curC] <;> with_reducible rfl) (by simp [go_sem, List.take_of_length_le, ren, ren1, ren2, okr, okr1, okr2, ChkN, BlkN, List.range_succ, nf, curC]) (by simp [go_sem, List.take_of_length_le, ren, ren1, ren2, okr, okr1, okr2, ChkN, BlkN, List.range_succ, nf, curC]) (by simp [List.range_succ, lb]) (ChkN.toB (by simp [go_sem, List.take_of_length_le, ren, ren1, ren2, okr, okr1, okr2, ChkN, BlkN, List.range_succ, nf, curC])) (by decide) (by simp) rfl (.nfr (by simp [curC, nf]) .nil) (by simp [go_sem, List.take_of_length_le, ren, ren1, ren2, okr, okr1, okr2, ChkN, BlkN, List.range_succ, nf, curC] <;> with_reducible rfl) ?_
  refine wkc (And.intro @hl (And.intro @hx (And.intro (@get_E _ _ _ _ hx) (@hn)))) _ ?_
  refine OutF.mkn (xs := ?_) (nm [0]) ?_ ?_ ?_ ?_ ?_ (by first | exact .inr rfl | exact .inl rfl)
  rotate_left
  · simp [go_sem, List.take_of_length_le, curC] <;> with_reducible rfl
  · simp [go_sem, List.take_of_length_le, ren, ren1, ren2, okr, okr1, okr2, ChkN, BlkN, List.range_succ, nf, curC]
  · simp [go_sem, List.take_of_length_le, ren, ren1, ren2, okr, okr1, okr2, ChkN, BlkN, List.range_succ, nf, curC]
  · simp [go_sem, List.take_of_length_le, ren, ren1, ren2, okr, okr1, okr2, ChkN, BlkN, List.range_succ, nf, curC]
  · rfl
def drFin (code : List Int) (c : Int) (m : MachineT) (st : St2) : MachineT × St2 :=
  if c = 0 then (([0, 6, 7].getD (pickV code 3 st).toNat 0, m.2.1, m.2.2.1, m.2.2.2), pickS code 3 st)
  else if c = 1 then ((m.1, m.2.1, m.2.2.1, m.2.2.2 ++ [0]), st)
  else if c = 2 then ((m.1, m.2.1, m.2.2.1 ++ [[0, 0, 0]], m.2.2.2), st)
  else (m, st)
def drE (code : List Int) (S T : Int) (a : List (List Int)) (p : List Int × St2) : MachineT × St2 := drFin code (pickV code 30 p.2) (S, T, a, p.1) (pickS code 30 p.2)
def drA2 (code : List Int) (S T : Int) (p : List (List Int) × St2) : MachineT × St2 := drE code S T p.1 (drEnd code S (pickV code 3 p.2).toNat [] (pickS code 3 p.2))
def drM2 (code : List Int) (S T : Int) (st : St2) : MachineT × St2 := drA2 code S T (drArr code S T (pickV code 7 st).toNat [] (pickS code 7 st))
def drM (code : List Int) (st : St2) : MachineT × St2 := drM2 code (1 + pickV code 4 st) (1 + pickV code 2 (pickS code 4 st)) (pickS code 2 (pickS code 4 st))
theorem machineF (code : List Int) (hc : code.length ≤ 2000000) (hb : ∀ b ∈ code, 0 ≤ b ∧ b ≤ 255) (st : St2) (hs : st.1 ≤ 1000) : Fn Try.prog 44 1 [.pb 0 3 0 0] [(0, ⟨76, 3, [curC code st]⟩)] (.ag [.v (.int .i64 (drM code st).1.1), .v (.int .i64 (drM code st).1.2.1), .own 1 1 0 (drM code st).1.2.2.1.length, .own 2 1 0 (drM code st).1.2.2.2.length]) 3 [(0, ⟨76, 3, [curC code (drM code st).2]⟩), (1, ⟨26, 1, intss (drM code st).1.2.2.1⟩), (2, ⟨3, 1, ints (drM code st).1.2.2.2⟩)] := by
  have hp := fun n h0 h1 st hs => pickF code hc hb n h0 h1 st hs
  have hrng := fun n hn st => pickV_rng hb n hn st
  have hat := fun n st => pickS_at code n st
  obtain ⟨R, hR⟩ : ∃ R, R = drM code st := ⟨_, rfl⟩
  rw [← hR]
  unfold drM at hR
  have c4 := hp 4 (by omega) (by omega) st (by omega)
  have r4 := hrng 4 (by omega) st
  have a4 := hat 4 st
  generalize pickV code 4 st = v4 at c4 r4 hR
  generalize pickS code 4 st = s4 at c4 a4 hR
  have c2 := hp 2 (by omega) (by omega) s4 (by omega)
  have r2 := hrng 2 (by omega) s4
  have a2 := hat 2 s4
  generalize pickV code 2 s4 = v2 at c2 r2 hR
  generalize pickS code 2 s4 = s2 at c2 a2 hR
  obtain ⟨S, hS⟩ : ∃ S, S = 1 + v4 := ⟨_, rfl⟩
  obtain ⟨T, hT⟩ : ∃ T, T = 1 + v2 := ⟨_, rfl⟩
  have hwS : wr64 (1 + v4) = S := by rw [wr64_id (by omega) (by omega)]; omega
  have hwT : wr64 (1 + v2) = T := by rw [wr64_id (by omega) (by omega)]; omega
  rw [← hS, ← hT] at hR
  have hS1 : 1 ≤ S ∧ S ≤ 4 := by omega
  have hT1 : 1 ≤ T ∧ T ≤ 2 := by omega
  clear hS hT
  unfold drM2 at hR
  have c7 := hp 7 (by omega) (by omega) s2 (by omega)
  have r7 := hrng 7 (by omega) s2
  have a7 := hat 7 s2
  generalize pickV code 7 s2 = v7 at c7 r7 hR
  generalize pickS code 7 s2 = s7 at c7 a7 hR
  obtain ⟨n7, rfl⟩ : ∃ n : Nat, v7 = (n : Int) := ⟨v7.toNat, by omega⟩
  rw [Int.toNat_natCast] at hR
  refine Fn.mk (rs := [.cell 2 42]) (nt := 74) Try.func44 (by kernel_rfl) rfl rfl rfl (by simp) ?_
  simp only [sl]
  refine wkdc0 _ ?_
  refine GS.fnn [0] (c4) rfl rfl rfl rfl (by simp [go_sem, List.take_of_length_le, ren, ren1, ren2, okr, okr1, okr2, ChkN, BlkN, List.range_succ, nf, curC] <;> with_reducible rfl) (by simp [go_sem, List.take_of_length_le, ren, ren1, ren2, okr, okr1, okr2, ChkN, BlkN, List.range_succ, nf, curC]) (by simp [go_sem, List.take_of_length_le, ren, ren1, ren2, okr, okr1, okr2, ChkN, BlkN, List.range_succ, nf, curC]) (by simp [List.range_succ, lb]) (ChkN.toB (by simp [go_sem, List.take_of_length_le, ren, ren1, ren2, okr, okr1, okr2, ChkN, BlkN, List.range_succ, nf, curC])) (by decide) (by simp) rfl (.nfr (by simp [curC, nf]) .nil) (by simp [go_sem, List.take_of_length_le, ren, ren1, ren2, okr, okr1, okr2, ChkN, BlkN, List.range_succ, nf, curC] <;> with_reducible rfl) ?_
  refine wkdc (@hwS) _ ?_
  refine GS.fnn [0] (c2) rfl rfl rfl rfl (by simp [go_sem, List.take_of_length_le, ren, ren1, ren2, okr, okr1, okr2, ChkN, BlkN, List.range_succ, nf, curC] <;> with_reducible rfl) (by simp [go_sem, List.take_of_length_le, ren, ren1, ren2, okr, okr1, okr2, ChkN, BlkN, List.range_succ, nf, curC]) (by simp [go_sem, List.take_of_length_le, ren, ren1, ren2, okr, okr1, okr2, ChkN, BlkN, List.range_succ, nf, curC]) (by simp [List.range_succ, lb]) (ChkN.toB (by simp [go_sem, List.take_of_length_le, ren, ren1, ren2, okr, okr1, okr2, ChkN, BlkN, List.range_succ, nf, curC])) (by decide) (by simp) rfl (.nfr (by simp [curC, nf]) .nil) (by simp [go_sem, List.take_of_length_le, ren, ren1, ren2, okr, okr1, okr2, ChkN, BlkN, List.range_succ, nf, curC] <;> with_reducible rfl) ?_
  refine wkdc (@hwT) _ ?_
  refine GS.fnn [0] (c7) rfl rfl rfl rfl (by simp [go_sem, List.take_of_length_le, ren, ren1, ren2, okr, okr1, okr2, ChkN, BlkN, List.range_succ, nf, curC] <;> with_reducible rfl) (by simp [go_sem, List.take_of_length_le, ren, ren1, ren2, okr, okr1, okr2, ChkN, BlkN, List.range_succ, nf, curC]) (by simp [go_sem, List.take_of_length_le, ren, ren1, ren2, okr, okr1, okr2, ChkN, BlkN, List.range_succ, nf, curC]) (by simp [List.range_succ, lb]) (ChkN.toB (by simp [go_sem, List.take_of_length_le, ren, ren1, ren2, okr, okr1, okr2, ChkN, BlkN, List.range_succ, nf, curC])) (by decide) (by simp) rfl (.nfr (by simp [curC, nf]) .nil) (by simp [go_sem, List.take_of_length_le, ren, ren1, ren2, okr, okr1, okr2, ChkN, BlkN, List.range_succ, nf, curC] <;> with_reducible rfl) ?_
  refine wkdc0 _ ?_
  refine Holds.nir 2 0 2 26 1 rfl rfl rfl (by simp [go_sem]; rfl) ?_
  refine Holds.nir 2 0 3 3 1 rfl rfl rfl (by simp [go_sem]; rfl) ?_
  refine Holds.loop (ι := Nat × List (List Int) × St2) (fun x => ⟨[(0, .pb 0 3 0 0), (2, .pb 1 4 0 0), (3, .pb 2 4 0 0), (4, .v (.int .i64 x.1))], [(0, ⟨76, 3, [curC code x.2.2]⟩), (2, ⟨42, 4, [[.v (.int .i64 S), .v (.int .i64 T), .own 3 1 0 x.2.1.length, .own 4 1 0 0]]⟩), (1, ⟨42, 4, [[.v (.int .i64 0), .v (.int .i64 0), .v (.slice none 0 0), .v (.slice none 0 0)]]⟩), (3, ⟨26, 1, intss x.2.1⟩), (4, ⟨3, 1, []⟩)], 5⟩)
    (fun x => R = drA2 code S T (drArr code S T x.1 x.2.1 x.2.2) ∧ x.2.1.length + x.1 ≤ 6 ∧ (∀ t ∈ x.2.1, t.length = 3) ∧ x.2.2.1 + 3 * x.1 ≤ 1100) (fun x => x.1) (n7, [], s7) ⟨hR, by simp; omega, by simp, by dsimp only; omega⟩ ?_ ?_
  · exact Cov.ofn (nm [0, 1, 2, 3, 4]) rfl (by simp [go_sem, List.take_of_length_le, ren, ren1, ren2, okr, okr1, okr2, ChkT, ChkN, BlkN, nf, nirw, curC, show intss [] = [] from rfl]) (by simp [go_sem, List.take_of_length_le, ren, ren1, ren2, okr, okr1, okr2, ChkT, ChkN, BlkN, nf, nirw, curC, show intss [] = [] from rfl])
  clear hR r7 a7 c7 c2 r2 a2 c4 r4 a4
  rintro ⟨n, a, st⟩ ⟨hR, h1, h3, h2⟩
  dsimp only at hR h1 h2 h3 ⊢
  refine wkdc0 _ ?_
  refine Holds.cond rfl (fun h => ?_) (fun h => ?_)
  · have hn : 0 < n := by simpa using h
    obtain ⟨m, rfl⟩ : ∃ m, n = m + 1 := ⟨n - 1, by omega⟩
    have c5 := hp S (by omega) (by omega) st (by omega)
    have a5 := hat S st
    rw [drArr] at hR
    generalize pickV code S st = x at c5 hR
    generalize pickS code S st = st5 at c5 a5 hR
    have c9 := hp T (by omega) (by omega) st5 (by omega)
    have a9 := hat T st5
    generalize pickV code T st5 = y at c9 hR
    generalize pickS code T st5 = st9 at c9 a9 hR
    have c13 := hp S (by omega) (by omega) st9 (by omega)
    have a13 := hat S st9
    generalize pickV code S st9 = z at c13 hR
    generalize pickS code S st9 = st13 at c13 a13 hR
    have h3' : ∀ t ∈ a, ([x, y, z] : List Int).length = t.length := fun t ht => by rw [h3 t ht]; rfl
    have hwn : wr64 (((m + 1 : Nat) : Int) - 1) = (m : Int) := by rw [wr64_id (by omega) (by omega)]; omega
    have hwm : wr64 (m : Int) = (m : Int) := wr64_id (by omega) (by omega)
    by_cases hin : inG a [x, y, z] = true
    · rw [insG_old hin] at hR
      have ci := l5InsO a [x, y, z] hin (by omega) (by simp) h3'
      refine wkdsc0 _ ?_
      refine Holds.anx [5, 9, 13, 1015, 1017] [0, 1, 2, 3, 4, 6, 7, 8, 10, 11, 12, 2014] (fun n => decide (n = 0)) mixed ?_ ?_ ?_; (· kernel_rfl); (· kernel_rfl)
      refine wkdasc0 _ ?_
      first | refine GS.fnn [0] (c5) rfl rfl rfl rfl (by simp [go_sem, List.take_of_length_le, ren, ren1, ren2, okr, okr1, okr2, ChkN, BlkN, List.range_succ, nf, curC] <;> with_reducible rfl) (by simp [go_sem, List.take_of_length_le, ren, ren1, ren2, okr, okr1, okr2, ChkN, BlkN, List.range_succ, nf, curC]) (by simp [go_sem, List.take_of_length_le, ren, ren1, ren2, okr, okr1, okr2, ChkN, BlkN, List.range_succ, nf, curC]) (by simp [List.range_succ, lb]) (ChkN.toB (by simp [go_sem, List.take_of_length_le, ren, ren1, ren2, okr, okr1, okr2, ChkN, BlkN, List.range_succ, nf, curC])) (by decide) (by simp) rfl (.nfr (by simp [curC, nf]) .nil) (by simp [go_sem, List.take_of_length_le, ren, ren1, ren2, okr, okr1, okr2, ChkN, BlkN, List.range_succ, nf, curC] <;> with_reducible rfl) ?_ | refine Gx.fnn [0] (c5) rfl rfl rfl rfl rfl (by simp [go_sem, List.take_of_length_le, ren, ren1, ren2, okr, okr1, okr2, ChkN, BlkN, List.range_succ, nf, curC] <;> with_reducible rfl) (by simp [go_sem, List.take_of_length_le, ren, ren1, ren2, okr, okr1, okr2, ChkN, BlkN, List.range_succ, nf, curC]) (by simp [go_sem, List.take_of_length_le, ren, ren1, ren2, okr, okr1, okr2, ChkN, BlkN, List.range_succ, nf, curC]) (by simp [List.range_succ, lb]) (ChkN.toB (by simp [go_sem, List.take_of_length_le, ren, ren1, ren2, okr, okr1, okr2, ChkN, BlkN, List.range_succ, nf, curC])) (by decide) (by simp) rfl (.nfr (by simp [curC, nf]) .nil) (by simp [go_sem, List.take_of_length_le, ren, ren1, ren2, okr, okr1, okr2, ChkN, BlkN, List.range_succ, nf, curC]) (by simp [go_sem, List.take_of_length_le, ren, ren1, ren2, okr, okr1, okr2, ChkN, BlkN, List.range_succ, nf, curC] <;> with_reducible rfl) ?_ | refine Gx.fnno [0] (c5) rfl rfl rfl rfl rfl (by simp [go_sem, List.take_of_length_le, ren, ren1, ren2, okr, okr1, okr2, ChkN, BlkN, List.range_succ, nf, curC] <;> with_reducible rfl) (by simp [go_sem, List.take_of_length_le, ren, ren1, ren2, okr, okr1, okr2, ChkN, BlkN, List.range_succ, nf, curC]) (by simp [go_sem, List.take_of_length_le, ren, ren1, ren2, okr, okr1, okr2, ChkN, BlkN, List.range_succ, nf, curC]) (by simp [List.range_succ, lb]) (ChkN.toB (by simp [go_sem, List.take_of_length_le, ren, ren1, ren2, okr, okr1, okr2, ChkN, BlkN, List.range_succ, nf, curC])) (by decide) (by simp) rfl (.nfr (by simp [curC, nf]) .nil) (by simp [go_sem, List.take_of_length_le, ren, ren1, ren2, okr, okr1, okr2, ChkN, BlkN, List.range_succ, nf, curC] <;> with_reducible rfl) ?_
      refine wkdasc0 _ ?_
      first | refine GS.fnn [0] (c9) rfl rfl rfl rfl (by simp [go_sem, List.take_of_length_le, ren, ren1, ren2, okr, okr1, okr2, ChkN, BlkN, List.range_succ, nf, curC] <;> with_reducible rfl) (by simp [go_sem, List.take_of_length_le, ren, ren1, ren2, okr, okr1, okr2, ChkN, BlkN, List.range_succ, nf, curC]) (by simp [go_sem, List.take_of_length_le, ren, ren1, ren2, okr, okr1, okr2, ChkN, BlkN, List.range_succ, nf, curC]) (by simp [List.range_succ, lb]) (ChkN.toB (by simp [go_sem, List.take_of_length_le, ren, ren1, ren2, okr, okr1, okr2, ChkN, BlkN, List.range_succ, nf, curC])) (by decide) (by simp) rfl (.nfr (by simp [curC, nf]) .nil) (by simp [go_sem, List.take_of_length_le, ren, ren1, ren2, okr, okr1, okr2, ChkN, BlkN, List.range_succ, nf, curC] <;> with_reducible rfl) ?_ | refine Gx.fnn [0] (c9) rfl rfl rfl rfl rfl (by simp [go_sem, List.take_of_length_le, ren, ren1, ren2, okr, okr1, okr2, ChkN, BlkN, List.range_succ, nf, curC] <;> with_reducible rfl) (by simp [go_sem, List.take_of_length_le, ren, ren1, ren2, okr, okr1, okr2, ChkN, BlkN, List.range_succ, nf, curC]) (by simp [go_sem, List.take_of_length_le, ren, ren1, ren2, okr, okr1, okr2, ChkN, BlkN, List.range_succ, nf, curC]) (by simp [List.range_succ, lb]) (ChkN.toB (by simp [go_sem, List.take_of_length_le, ren, ren1, ren2, okr, okr1, okr2, ChkN, BlkN, List.range_succ, nf, curC])) (by decide) (by simp) rfl (.nfr (by simp [curC, nf]) .nil) (by simp [go_sem, List.take_of_length_le, ren, ren1, ren2, okr, okr1, okr2, ChkN, BlkN, List.range_succ, nf, curC]) (by simp [go_sem, List.take_of_length_le, ren, ren1, ren2, okr, okr1, okr2, ChkN, BlkN, List.range_succ, nf, curC] <;> with_reducible rfl) ?_ | refine Gx.fnno [0] (c9) rfl rfl rfl rfl rfl (by simp [go_sem, List.take_of_length_le, ren, ren1, ren2, okr, okr1, okr2, ChkN, BlkN, List.range_succ, nf, curC] <;> with_reducible rfl) (by simp [go_sem, List.take_of_length_le, ren, ren1, ren2, okr, okr1, okr2, ChkN, BlkN, List.range_succ, nf, curC]) (by simp [go_sem, List.take_of_length_le, ren, ren1, ren2, okr, okr1, okr2, ChkN, BlkN, List.range_succ, nf, curC]) (by simp [List.range_succ, lb]) (ChkN.toB (by simp [go_sem, List.take_of_length_le, ren, ren1, ren2, okr, okr1, okr2, ChkN, BlkN, List.range_succ, nf, curC])) (by decide) (by simp) rfl (.nfr (by simp [curC, nf]) .nil) (by simp [go_sem, List.take_of_length_le, ren, ren1, ren2, okr, okr1, okr2, ChkN, BlkN, List.range_succ, nf, curC] <;> with_reducible rfl) ?_
      refine wkdasc0 _ ?_
      first | refine GS.fnn [0] (c13) rfl rfl rfl rfl (by simp [go_sem, List.take_of_length_le, ren, ren1, ren2, okr, okr1, okr2, ChkN, BlkN, List.range_succ, nf, curC] <;> with_reducible rfl) (by simp [go_sem, List.take_of_length_le, ren, ren1, ren2, okr, okr1, okr2, ChkN, BlkN, List.range_succ, nf, curC]) (by simp [go_sem, List.take_of_length_le, ren, ren1, ren2, okr, okr1, okr2, ChkN, BlkN, List.range_succ, nf, curC]) (by simp [List.range_succ, lb]) (ChkN.toB (by simp [go_sem, List.take_of_length_le, ren, ren1, ren2, okr, okr1, okr2, ChkN, BlkN, List.range_succ, nf, curC])) (by decide) (by simp) rfl (.nfr (by simp [curC, nf]) .nil) (by simp [go_sem, List.take_of_length_le, ren, ren1, ren2, okr, okr1, okr2, ChkN, BlkN, List.range_succ, nf, curC] <;> with_reducible rfl) ?_ | refine Gx.fnn [0] (c13) rfl rfl rfl rfl rfl (by simp [go_sem, List.take_of_length_le, ren, ren1, ren2, okr, okr1, okr2, ChkN, BlkN, List.range_succ, nf, curC] <;> with_reducible rfl) (by simp [go_sem, List.take_of_length_le, ren, ren1, ren2, okr, okr1, okr2, ChkN, BlkN, List.range_succ, nf, curC]) (by simp [go_sem, List.take_of_length_le, ren, ren1, ren2, okr, okr1, okr2, ChkN, BlkN, List.range_succ, nf, curC]) (by simp [List.range_succ, lb]) (ChkN.toB (by simp [go_sem, List.take_of_length_le, ren, ren1, ren2, okr, okr1, okr2, ChkN, BlkN, List.range_succ, nf, curC])) (by decide) (by simp) rfl (.nfr (by simp [curC, nf]) .nil) (by simp [go_sem, List.take_of_length_le, ren, ren1, ren2, okr, okr1, okr2, ChkN, BlkN, List.range_succ, nf, curC]) (by simp [go_sem, List.take_of_length_le, ren, ren1, ren2, okr, okr1, okr2, ChkN, BlkN, List.range_succ, nf, curC] <;> with_reducible rfl) ?_ | refine Gx.fnno [0] (c13) rfl rfl rfl rfl rfl (by simp [go_sem, List.take_of_length_le, ren, ren1, ren2, okr, okr1, okr2, ChkN, BlkN, List.range_succ, nf, curC] <;> with_reducible rfl) (by simp [go_sem, List.take_of_length_le, ren, ren1, ren2, okr, okr1, okr2, ChkN, BlkN, List.range_succ, nf, curC]) (by simp [go_sem, List.take_of_length_le, ren, ren1, ren2, okr, okr1, okr2, ChkN, BlkN, List.range_succ, nf, curC]) (by simp [List.range_succ, lb]) (ChkN.toB (by simp [go_sem, List.take_of_length_le, ren, ren1, ren2, okr, okr1, okr2, ChkN, BlkN, List.range_succ, nf, curC])) (by decide) (by simp) rfl (.nfr (by simp [curC, nf]) .nil) (by simp [go_sem, List.take_of_length_le, ren, ren1, ren2, okr, okr1, okr2, ChkN, BlkN, List.range_succ, nf, curC] <;> with_reducible rfl) ?_
      refine wkdasc0 _ ?_
      refine Gx.bs (sz := 1) (e := 3) (rows := ints [x, y, z]) [(24, .v (.int .i64 x)), (28, .v (.int .i64 y)), (32, .v (.int .i64 z))] rfl rfl rfl rfl rfl (by simp [go_sem, List.take_of_length_le, Op.operands, cl, cl1, ints]) (by simp [go_sem, List.take_of_length_le, Op.operands, cl, cl1, ints]) (by simp [go_sem, List.take_of_length_le, Op.operands, cl, cl1, ints]) ?_
      refine wkdasc0 _ ?_
      first | refine GS.fnn [3] (ci) rfl rfl rfl rfl (by simp [go_sem, List.take_of_length_le, ren, ren1, ren2, okr, okr1, okr2, ChkN, BlkN, List.range_succ, nf] <;> with_reducible rfl) (by simp [go_sem, List.take_of_length_le, ren, ren1, ren2, okr, okr1, okr2, ChkN, BlkN, List.range_succ, nf]) (by simp [go_sem, List.take_of_length_le, ren, ren1, ren2, okr, okr1, okr2, ChkN, BlkN, List.range_succ, nf]) (by simp [List.range_succ, lb]) (ChkN.toB (by simp [go_sem, List.take_of_length_le, ren, ren1, ren2, okr, okr1, okr2, ChkN, BlkN, List.range_succ, nf])) (by decide) (by simp) rfl (.nfr (by simp) .nil) (by simp [go_sem, List.take_of_length_le, ren, ren1, ren2, okr, okr1, okr2, ChkN, BlkN, List.range_succ, nf] <;> with_reducible rfl) ?_ | refine Gx.fnn [3] (ci) rfl rfl rfl rfl rfl (by simp [go_sem, List.take_of_length_le, ren, ren1, ren2, okr, okr1, okr2, ChkN, BlkN, List.range_succ, nf] <;> with_reducible rfl) (by simp [go_sem, List.take_of_length_le, ren, ren1, ren2, okr, okr1, okr2, ChkN, BlkN, List.range_succ, nf]) (by simp [go_sem, List.take_of_length_le, ren, ren1, ren2, okr, okr1, okr2, ChkN, BlkN, List.range_succ, nf]) (by simp [List.range_succ, lb]) (ChkN.toB (by simp [go_sem, List.take_of_length_le, ren, ren1, ren2, okr, okr1, okr2, ChkN, BlkN, List.range_succ, nf])) (by decide) (by simp) rfl (.nfr (by simp) .nil) (by simp [go_sem, List.take_of_length_le, ren, ren1, ren2, okr, okr1, okr2, ChkN, BlkN, List.range_succ, nf]) (by simp [go_sem, List.take_of_length_le, ren, ren1, ren2, okr, okr1, okr2, ChkN, BlkN, List.range_succ, nf] <;> with_reducible rfl) ?_ | refine Gx.fnno [3] (ci) rfl rfl rfl rfl rfl (by simp [go_sem, List.take_of_length_le, ren, ren1, ren2, okr, okr1, okr2, ChkN, BlkN, List.range_succ, nf] <;> with_reducible rfl) (by simp [go_sem, List.take_of_length_le, ren, ren1, ren2, okr, okr1, okr2, ChkN, BlkN, List.range_succ, nf]) (by simp [go_sem, List.take_of_length_le, ren, ren1, ren2, okr, okr1, okr2, ChkN, BlkN, List.range_succ, nf]) (by simp [List.range_succ, lb]) (ChkN.toB (by simp [go_sem, List.take_of_length_le, ren, ren1, ren2, okr, okr1, okr2, ChkN, BlkN, List.range_succ, nf])) (by decide) (by simp) rfl (.nfr (by simp) .nil) (by simp [go_sem, List.take_of_length_le, ren, ren1, ren2, okr, okr1, okr2, ChkN, BlkN, List.range_succ, nf] <;> with_reducible rfl) ?_
      refine wkdasc (And.intro @hwn (@hwm)) _ ?_
      refine ⟨(m, a, st13), ⟨hR, by dsimp only; omega, h3, by dsimp only; omega⟩, by dsimp only; omega, ?_⟩
      exact Cov.ofn (nm [0, 1, 2, 3, 4]) rfl (by simp [go_sem, List.take_of_length_le, ren, ren1, ren2, okr, okr1, okr2, ChkT, ChkN, BlkN, nf, curC]) (by simp [go_sem, List.take_of_length_le, ren, ren1, ren2, okr, okr1, okr2, ChkT, ChkN, BlkN, nf, curC])
    · have hin : inG a [x, y, z] = false := by simpa using hin
      have hil := insG_len a [x, y, z]
      have him : ∀ t ∈ insG a [x, y, z], t.length = 3 := fun t ht => by
        rcases insG_mem ht with e | e
        · rw [e]; rfl
        · exact h3 t e
      have ci := l5InsN a [x, y, z] hin (by omega) (by simp) h3'
      rw [insG_new hin] at hR hil him
      generalize insA a [x, y, z] = a2 at ci hil him hR
      refine wkdasc0 _ ?_
      refine Holds.anx [5, 9, 13, 1015, 1017] [0, 1, 2, 3, 4, 6, 7, 8, 10, 11, 12, 2014] (fun n => decide (n = 0)) mixed ?_ ?_ ?_; (· kernel_rfl); (· kernel_rfl)
      refine wkdasc0 _ ?_
      first | refine GS.fnn [0] (c5) rfl rfl rfl rfl (by simp [go_sem, List.take_of_length_le, ren, ren1, ren2, okr, okr1, okr2, ChkN, BlkN, List.range_succ, nf, curC] <;> with_reducible rfl) (by simp [go_sem, List.take_of_length_le, ren, ren1, ren2, okr, okr1, okr2, ChkN, BlkN, List.range_succ, nf, curC]) (by simp [go_sem, List.take_of_length_le, ren, ren1, ren2, okr, okr1, okr2, ChkN, BlkN, List.range_succ, nf, curC]) (by simp [List.range_succ, lb]) (ChkN.toB (by simp [go_sem, List.take_of_length_le, ren, ren1, ren2, okr, okr1, okr2, ChkN, BlkN, List.range_succ, nf, curC])) (by decide) (by simp) rfl (.nfr (by simp [curC, nf]) .nil) (by simp [go_sem, List.take_of_length_le, ren, ren1, ren2, okr, okr1, okr2, ChkN, BlkN, List.range_succ, nf, curC] <;> with_reducible rfl) ?_ | refine Gx.fnn [0] (c5) rfl rfl rfl rfl rfl (by simp [go_sem, List.take_of_length_le, ren, ren1, ren2, okr, okr1, okr2, ChkN, BlkN, List.range_succ, nf, curC] <;> with_reducible rfl) (by simp [go_sem, List.take_of_length_le, ren, ren1, ren2, okr, okr1, okr2, ChkN, BlkN, List.range_succ, nf, curC]) (by simp [go_sem, List.take_of_length_le, ren, ren1, ren2, okr, okr1, okr2, ChkN, BlkN, List.range_succ, nf, curC]) (by simp [List.range_succ, lb]) (ChkN.toB (by simp [go_sem, List.take_of_length_le, ren, ren1, ren2, okr, okr1, okr2, ChkN, BlkN, List.range_succ, nf, curC])) (by decide) (by simp) rfl (.nfr (by simp [curC, nf]) .nil) (by simp [go_sem, List.take_of_length_le, ren, ren1, ren2, okr, okr1, okr2, ChkN, BlkN, List.range_succ, nf, curC]) (by simp [go_sem, List.take_of_length_le, ren, ren1, ren2, okr, okr1, okr2, ChkN, BlkN, List.range_succ, nf, curC] <;> with_reducible rfl) ?_ | refine Gx.fnno [0] (c5) rfl rfl rfl rfl rfl (by simp [go_sem, List.take_of_length_le, ren, ren1, ren2, okr, okr1, okr2, ChkN, BlkN, List.range_succ, nf, curC] <;> with_reducible rfl) (by simp [go_sem, List.take_of_length_le, ren, ren1, ren2, okr, okr1, okr2, ChkN, BlkN, List.range_succ, nf, curC]) (by simp [go_sem, List.take_of_length_le, ren, ren1, ren2, okr, okr1, okr2, ChkN, BlkN, List.range_succ, nf, curC]) (by simp [List.range_succ, lb]) (ChkN.toB (by simp [go_sem, List.take_of_length_le, ren, ren1, ren2, okr, okr1, okr2, ChkN, BlkN, List.range_succ, nf, curC])) (by decide) (by simp) rfl (.nfr (by simp [curC, nf]) .nil) (by simp [go_sem, List.take_of_length_le, ren, ren1, ren2, okr, okr1, okr2, ChkN, BlkN, List.range_succ, nf, curC] <;> with_reducible rfl) ?_
      refine wkdasc0 _ ?_
      first | refine GS.fnn [0] (c9) rfl rfl rfl rfl (by simp [go_sem, List.take_of_length_le, ren, ren1, ren2, okr, okr1, okr2, ChkN, BlkN, List.range_succ, nf, curC] <;> with_reducible rfl) (by simp [go_sem, List.take_of_length_le, ren, ren1, ren2, okr, okr1, okr2, ChkN, BlkN, List.range_succ, nf, curC]) (by simp [go_sem, List.take_of_length_le, ren, ren1, ren2, okr, okr1, okr2, ChkN, BlkN, List.range_succ, nf, curC]) (by simp [List.range_succ, lb]) (ChkN.toB (by simp [go_sem, List.take_of_length_le, ren, ren1, ren2, okr, okr1, okr2, ChkN, BlkN, List.range_succ, nf, curC])) (by decide) (by simp) rfl (.nfr (by simp [curC, nf]) .nil) (by simp [go_sem, List.take_of_length_le, ren, ren1, ren2, okr, okr1, okr2, ChkN, BlkN, List.range_succ, nf, curC] <;> with_reducible rfl) ?_ | refine Gx.fnn [0] (c9) rfl rfl rfl rfl rfl (by simp [go_sem, List.take_of_length_le, ren, ren1, ren2, okr, okr1, okr2, ChkN, BlkN, List.range_succ, nf, curC] <;> with_reducible rfl) (by simp [go_sem, List.take_of_length_le, ren, ren1, ren2, okr, okr1, okr2, ChkN, BlkN, List.range_succ, nf, curC]) (by simp [go_sem, List.take_of_length_le, ren, ren1, ren2, okr, okr1, okr2, ChkN, BlkN, List.range_succ, nf, curC]) (by simp [List.range_succ, lb]) (ChkN.toB (by simp [go_sem, List.take_of_length_le, ren, ren1, ren2, okr, okr1, okr2, ChkN, BlkN, List.range_succ, nf, curC])) (by decide) (by simp) rfl (.nfr (by simp [curC, nf]) .nil) (by simp [go_sem, List.take_of_length_le, ren, ren1, ren2, okr, okr1, okr2, ChkN, BlkN, List.range_succ, nf, curC]) (by simp [go_sem, List.take_of_length_le, ren, ren1, ren2, okr, okr1, okr2, ChkN, BlkN, List.range_succ, nf, curC] <;> with_reducible rfl) ?_ | refine Gx.fnno [0] (c9) rfl rfl rfl rfl rfl (by simp [go_sem, List.take_of_length_le, ren, ren1, ren2, okr, okr1, okr2, ChkN, BlkN, List.range_succ, nf, curC] <;> with_reducible rfl) (by simp [go_sem, List.take_of_length_le, ren, ren1, ren2, okr, okr1, okr2, ChkN, BlkN, List.range_succ, nf, curC]) (by simp [go_sem, List.take_of_length_le, ren, ren1, ren2, okr, okr1, okr2, ChkN, BlkN, List.range_succ, nf, curC]) (by simp [List.range_succ, lb]) (ChkN.toB (by simp [go_sem, List.take_of_length_le, ren, ren1, ren2, okr, okr1, okr2, ChkN, BlkN, List.range_succ, nf, curC])) (by decide) (by simp) rfl (.nfr (by simp [curC, nf]) .nil) (by simp [go_sem, List.take_of_length_le, ren, ren1, ren2, okr, okr1, okr2, ChkN, BlkN, List.range_succ, nf, curC] <;> with_reducible rfl) ?_
      refine wkdasc0 _ ?_
      first | refine GS.fnn [0] (c13) rfl rfl rfl rfl (by simp [go_sem, List.take_of_length_le, ren, ren1, ren2, okr, okr1, okr2, ChkN, BlkN, List.range_succ, nf, curC] <;> with_reducible rfl) (by simp [go_sem, List.take_of_length_le, ren, ren1, ren2, okr, okr1, okr2, ChkN, BlkN, List.range_succ, nf, curC]) (by simp [go_sem, List.take_of_length_le, ren, ren1, ren2, okr, okr1, okr2, ChkN, BlkN, List.range_succ, nf, curC]) (by simp [List.range_succ, lb]) (ChkN.toB (by simp [go_sem, List.take_of_length_le, ren, ren1, ren2, okr, okr1, okr2, ChkN, BlkN, List.range_succ, nf, curC])) (by decide) (by simp) rfl (.nfr (by simp [curC, nf]) .nil) (by simp [go_sem, List.take_of_length_le, ren, ren1, ren2, okr, okr1, okr2, ChkN, BlkN, List.range_succ, nf, curC] <;> with_reducible rfl) ?_ | refine Gx.fnn [0] (c13) rfl rfl rfl rfl rfl (by simp [go_sem, List.take_of_length_le, ren, ren1, ren2, okr, okr1, okr2, ChkN, BlkN, List.range_succ, nf, curC] <;> with_reducible rfl) (by simp [go_sem, List.take_of_length_le, ren, ren1, ren2, okr, okr1, okr2, ChkN, BlkN, List.range_succ, nf, curC]) (by simp [go_sem, List.take_of_length_le, ren, ren1, ren2, okr, okr1, okr2, ChkN, BlkN, List.range_succ, nf, curC]) (by simp [List.range_succ, lb]) (ChkN.toB (by simp [go_sem, List.take_of_length_le, ren, ren1, ren2, okr, okr1, okr2, ChkN, BlkN, List.range_succ, nf, curC])) (by decide) (by simp) rfl (.nfr (by simp [curC, nf]) .nil) (by simp [go_sem, List.take_of_length_le, ren, ren1, ren2, okr, okr1, okr2, ChkN, BlkN, List.range_succ, nf, curC]) (by simp [go_sem, List.take_of_length_le, ren, ren1, ren2, okr, okr1, okr2, ChkN, BlkN, List.range_succ, nf, curC] <;> with_reducible rfl) ?_ | refine Gx.fnno [0] (c13) rfl rfl rfl rfl rfl (by simp [go_sem, List.take_of_length_le, ren, ren1, ren2, okr, okr1, okr2, ChkN, BlkN, List.range_succ, nf, curC] <;> with_reducible rfl) (by simp [go_sem, List.take_of_length_le, ren, ren1, ren2, okr, okr1, okr2, ChkN, BlkN, List.range_succ, nf, curC]) (by simp [go_sem, List.take_of_length_le, ren, ren1, ren2, okr, okr1, okr2, ChkN, BlkN, List.range_succ, nf, curC]) (by simp [List.range_succ, lb]) (ChkN.toB (by simp [go_sem, List.take_of_length_le, ren, ren1, ren2, okr, okr1, okr2, ChkN, BlkN, List.range_succ, nf, curC])) (by decide) (by simp) rfl (.nfr (by simp [curC, nf]) .nil) (by simp [go_sem, List.take_of_length_le, ren, ren1, ren2, okr, okr1, okr2, ChkN, BlkN, List.range_succ, nf, curC] <;> with_reducible rfl) ?_
      refine wkdasc0 _ ?_
      refine Gx.bs (sz := 1) (e := 3) (rows := ints [x, y, z]) [(24, .v (.int .i64 x)), (28, .v (.int .i64 y)), (32, .v (.int .i64 z))] rfl rfl rfl rfl rfl (by simp [go_sem, List.take_of_length_le, Op.operands, cl, cl1, ints]) (by simp [go_sem, List.take_of_length_le, Op.operands, cl, cl1, ints]) (by simp [go_sem, List.take_of_length_le, Op.operands, cl, cl1, ints]) ?_
      refine wkdasc0 _ ?_
      first | refine GS.fnn [3] (ci) rfl rfl rfl rfl (by simp [go_sem, List.take_of_length_le, ren, ren1, ren2, okr, okr1, okr2, ChkN, BlkN, List.range_succ, nf] <;> with_reducible rfl) (by simp [go_sem, List.take_of_length_le, ren, ren1, ren2, okr, okr1, okr2, ChkN, BlkN, List.range_succ, nf]) (by simp [go_sem, List.take_of_length_le, ren, ren1, ren2, okr, okr1, okr2, ChkN, BlkN, List.range_succ, nf]) (by simp [List.range_succ, lb]) (ChkN.toB (by simp [go_sem, List.take_of_length_le, ren, ren1, ren2, okr, okr1, okr2, ChkN, BlkN, List.range_succ, nf])) (by decide) (by simp) rfl (.nfr (by simp) .nil) (by simp [go_sem, List.take_of_length_le, ren, ren1, ren2, okr, okr1, okr2, ChkN, BlkN, List.range_succ, nf] <;> with_reducible rfl) ?_ | refine Gx.fnn [3] (ci) rfl rfl rfl rfl rfl (by simp [go_sem, List.take_of_length_le, ren, ren1, ren2, okr, okr1, okr2, ChkN, BlkN, List.range_succ, nf] <;> with_reducible rfl) (by simp [go_sem, List.take_of_length_le, ren, ren1, ren2, okr, okr1, okr2, ChkN, BlkN, List.range_succ, nf]) (by simp [go_sem, List.take_of_length_le, ren, ren1, ren2, okr, okr1, okr2, ChkN, BlkN, List.range_succ, nf]) (by simp [List.range_succ, lb]) (ChkN.toB (by simp [go_sem, List.take_of_length_le, ren, ren1, ren2, okr, okr1, okr2, ChkN, BlkN, List.range_succ, nf])) (by decide) (by simp) rfl (.nfr (by simp) .nil) (by simp [go_sem, List.take_of_length_le, ren, ren1, ren2, okr, okr1, okr2, ChkN, BlkN, List.range_succ, nf]) (by simp [go_sem, List.take_of_length_le, ren, ren1, ren2, okr, okr1, okr2, ChkN, BlkN, List.range_succ, nf] <;> with_reducible rfl) ?_ | refine Gx.fnno [3] (ci) rfl rfl rfl rfl rfl (by simp [go_sem, List.take_of_length_le, ren, ren1, ren2, okr, okr1, okr2, ChkN, BlkN, List.range_succ, nf] <;> with_reducible rfl) (by simp [go_sem, List.take_of_length_le, ren, ren1, ren2, okr, okr1, okr2, ChkN, BlkN, List.range_succ, nf]) (by simp [go_sem, List.take_of_length_le, ren, ren1, ren2, okr, okr1, okr2, ChkN, BlkN, List.range_succ, nf]) (by simp [List.range_succ, lb]) (ChkN.toB (by simp [go_sem, List.take_of_length_le, ren, ren1, ren2, okr, okr1, okr2, ChkN, BlkN, List.range_succ, nf])) (by decide) (by simp) rfl (.nfr (by simp) .nil) (by simp [go_sem, List.take_of_length_le, ren, ren1, ren2, okr, okr1, okr2, ChkN, BlkN, List.range_succ, nf] <;> with_reducible rfl) ?_
      refine wkdasc (And.intro @hwn (@hwm)) _ ?_
      refine ⟨(m, a2, st13), ⟨hR, by dsimp only; omega, him, by dsimp only; omega⟩, by dsimp only; omega, ?_⟩
      -- MARK2
      exact Cov.ofn (nm [0, 1, 2, 5, 4]) rfl (by simp [go_sem, List.take_of_length_le, ren, ren1, ren2, okr, okr1, okr2, ChkT, ChkN, BlkN, nf, curC]) (by simp [go_sem, List.take_of_length_le, ren, ren1, ren2, okr, okr1, okr2, ChkT, ChkN, BlkN, nf, curC])
  · have hn : n = 0 := by
      have : ¬ 0 < n := by simpa using h
      omega
    subst hn
    rw [drArr] at hR
    unfold drA2 at hR
    dsimp only at hR h1 h2 ⊢
    have c3 := hp 3 (by omega) (by omega) st (by omega)
    have r3 := hrng 3 (by omega) st
    have a3 := hat 3 st
    generalize pickV code 3 st = v3 at c3 r3 hR
    generalize pickS code 3 st = s3 at c3 a3 hR
    obtain ⟨n3, rfl⟩ : ∃ n : Nat, v3 = (n : Int) := ⟨v3.toNat, by omega⟩
    rw [Int.toNat_natCast] at hR
    refine wkdac0 _ ?_
    first | refine GS.fnn [0] (c3) rfl rfl rfl rfl (by simp [go_sem, List.take_of_length_le, ren, ren1, ren2, okr, okr1, okr2, ChkN, BlkN, List.range_succ, nf, curC] <;> with_reducible rfl) (by simp [go_sem, List.take_of_length_le, ren, ren1, ren2, okr, okr1, okr2, ChkN, BlkN, List.range_succ, nf, curC]) (by simp [go_sem, List.take_of_length_le, ren, ren1, ren2, okr, okr1, okr2, ChkN, BlkN, List.range_succ, nf, curC]) (by simp [List.range_succ, lb]) (ChkN.toB (by simp [go_sem, List.take_of_length_le, ren, ren1, ren2, okr, okr1, okr2, ChkN, BlkN, List.range_succ, nf, curC])) (by decide) (by simp) rfl (.nfr (by simp [curC, nf]) .nil) (by simp [go_sem, List.take_of_length_le, ren, ren1, ren2, okr, okr1, okr2, ChkN, BlkN, List.range_succ, nf, curC] <;> with_reducible rfl) ?_ | refine Gx.fnn [0] (c3) rfl rfl rfl rfl rfl (by simp [go_sem, List.take_of_length_le, ren, ren1, ren2, okr, okr1, okr2, ChkN, BlkN, List.range_succ, nf, curC] <;> with_reducible rfl) (by simp [go_sem, List.take_of_length_le, ren, ren1, ren2, okr, okr1, okr2, ChkN, BlkN, List.range_succ, nf, curC]) (by simp [go_sem, List.take_of_length_le, ren, ren1, ren2, okr, okr1, okr2, ChkN, BlkN, List.range_succ, nf, curC]) (by simp [List.range_succ, lb]) (ChkN.toB (by simp [go_sem, List.take_of_length_le, ren, ren1, ren2, okr, okr1, okr2, ChkN, BlkN, List.range_succ, nf, curC])) (by decide) (by simp) rfl (.nfr (by simp [curC, nf]) .nil) (by simp [go_sem, List.take_of_length_le, ren, ren1, ren2, okr, okr1, okr2, ChkN, BlkN, List.range_succ, nf, curC]) (by simp [go_sem, List.take_of_length_le, ren, ren1, ren2, okr, okr1, okr2, ChkN, BlkN, List.range_succ, nf, curC] <;> with_reducible rfl) ?_ | refine Gx.fnno [0] (c3) rfl rfl rfl rfl rfl (by simp [go_sem, List.take_of_length_le, ren, ren1, ren2, okr, okr1, okr2, ChkN, BlkN, List.range_succ, nf, curC] <;> with_reducible rfl) (by simp [go_sem, List.take_of_length_le, ren, ren1, ren2, okr, okr1, okr2, ChkN, BlkN, List.range_succ, nf, curC]) (by simp [go_sem, List.take_of_length_le, ren, ren1, ren2, okr, okr1, okr2, ChkN, BlkN, List.range_succ, nf, curC]) (by simp [List.range_succ, lb]) (ChkN.toB (by simp [go_sem, List.take_of_length_le, ren, ren1, ren2, okr, okr1, okr2, ChkN, BlkN, List.range_succ, nf, curC])) (by decide) (by simp) rfl (.nfr (by simp [curC, nf]) .nil) (by simp [go_sem, List.take_of_length_le, ren, ren1, ren2, okr, okr1, okr2, ChkN, BlkN, List.range_succ, nf, curC] <;> with_reducible rfl) ?_
    refine wkdac0 _ ?_
    refine Holds.loop (ι := Nat × List Int × St2) (fun x => ⟨[(0, .pb 0 3 0 0), (2, .pb 1 4 0 0), (3, .pb 2 4 0 0), (5, .v (.int .i64 x.1))], [(0, ⟨76, 3, [curC code x.2.2]⟩), (2, ⟨42, 4, [[.v (.int .i64 S), .v (.int .i64 T), .own 3 1 0 a.length, .own 4 1 0 x.2.1.length]]⟩), (1, ⟨42, 4, [[.v (.int .i64 0), .v (.int .i64 0), .v (.slice none 0 0), .v (.slice none 0 0)]]⟩), (3, ⟨26, 1, intss a⟩), (4, ⟨3, 1, ints x.2.1⟩)], 5⟩)
      (fun x => R = drE code S T a (drEnd code S x.1 x.2.1 x.2.2) ∧ x.2.1.length + x.1 ≤ 2 ∧ x.2.1.Pairwise (· < ·) ∧ x.2.2.1 + x.1 ≤ 1200) (fun x => x.1) (n3, [], s3) ⟨hR, by simp; omega, .nil, by dsimp only; omega⟩ ?_ ?_
    · exact Cov.ofn (nm [0, 1, 2, 3, 4]) rfl (by simp [go_sem, List.take_of_length_le, ren, ren1, ren2, okr, okr1, okr2, ChkT, ChkN, BlkN, nf, curC, show ints [] = [] from rfl]) (by simp [go_sem, List.take_of_length_le, ren, ren1, ren2, okr, okr1, okr2, ChkT, ChkN, BlkN, nf, curC, show ints [] = [] from rfl])
    clear hR r3 a3 c3
    rintro ⟨n, b, st⟩ ⟨hR, h4, h6, h5⟩
    dsimp only at hR h4 h5 h6 ⊢
    refine wkdac0 _ ?_
    refine Holds.cond rfl (fun h => ?_) (fun h => ?_)
    · have hn : 0 < n := by simpa using h
      obtain ⟨m, rfl⟩ : ∃ m, n = m + 1 := ⟨n - 1, by omega⟩
      have c5 := hp S (by omega) (by omega) st (by omega)
      have a5 := hat S st
      rw [drEnd] at hR
      generalize pickV code S st = x at c5 hR
      generalize pickS code S st = st5 at c5 a5 hR
      have hwn : wr64 (((m + 1 : Nat) : Int) - 1) = (m : Int) := by rw [wr64_id (by omega) (by omega)]; omega
      have hwm : wr64 (m : Int) = (m : Int) := wr64_id (by omega) (by omega)
      by_cases hin : x ∈ b
      · rw [putL_old h6 hin] at hR
        have ci := l1PutO b x h6 hin (by omega)
        refine wkdasc0 _ ?_
        refine Holds.anx [5, 1006, 1008] [0, 1, 2, 3, 4] (fun n => decide (n = 0)) mixed ?_ ?_ ?_; (· kernel_rfl); (· kernel_rfl)
        refine wkdasc0 _ ?_
        first | refine GS.fnn [0] (c5) rfl rfl rfl rfl (by simp [go_sem, List.take_of_length_le, ren, ren1, ren2, okr, okr1, okr2, ChkN, BlkN, List.range_succ, nf, curC] <;> with_reducible rfl) (by simp [go_sem, List.take_of_length_le, ren, ren1, ren2, okr, okr1, okr2, ChkN, BlkN, List.range_succ, nf, curC]) (by simp [go_sem, List.take_of_length_le, ren, ren1, ren2, okr, okr1, okr2, ChkN, BlkN, List.range_succ, nf, curC]) (by simp [List.range_succ, lb]) (ChkN.toB (by simp [go_sem, List.take_of_length_le, ren, ren1, ren2, okr, okr1, okr2, ChkN, BlkN, List.range_succ, nf, curC])) (by decide) (by simp) rfl (.nfr (by simp [curC, nf]) .nil) (by simp [go_sem, List.take_of_length_le, ren, ren1, ren2, okr, okr1, okr2, ChkN, BlkN, List.range_succ, nf, curC] <;> with_reducible rfl) ?_ | refine Gx.fnn [0] (c5) rfl rfl rfl rfl rfl (by simp [go_sem, List.take_of_length_le, ren, ren1, ren2, okr, okr1, okr2, ChkN, BlkN, List.range_succ, nf, curC] <;> with_reducible rfl) (by simp [go_sem, List.take_of_length_le, ren, ren1, ren2, okr, okr1, okr2, ChkN, BlkN, List.range_succ, nf, curC]) (by simp [go_sem, List.take_of_length_le, ren, ren1, ren2, okr, okr1, okr2, ChkN, BlkN, List.range_succ, nf, curC]) (by simp [List.range_succ, lb]) (ChkN.toB (by simp [go_sem, List.take_of_length_le, ren, ren1, ren2, okr, okr1, okr2, ChkN, BlkN, List.range_succ, nf, curC])) (by decide) (by simp) rfl (.nfr (by simp [curC, nf]) .nil) (by simp [go_sem, List.take_of_length_le, ren, ren1, ren2, okr, okr1, okr2, ChkN, BlkN, List.range_succ, nf, curC]) (by simp [go_sem, List.take_of_length_le, ren, ren1, ren2, okr, okr1, okr2, ChkN, BlkN, List.range_succ, nf, curC] <;> with_reducible rfl) ?_ | refine Gx.fnno [0] (c5) rfl rfl rfl rfl rfl (by simp [go_sem, List.take_of_length_le, ren, ren1, ren2, okr, okr1, okr2, ChkN, BlkN, List.range_succ, nf, curC] <;> with_reducible rfl) (by simp [go_sem, List.take_of_length_le, ren, ren1, ren2, okr, okr1, okr2, ChkN, BlkN, List.range_succ, nf, curC]) (by simp [go_sem, List.take_of_length_le, ren, ren1, ren2, okr, okr1, okr2, ChkN, BlkN, List.range_succ, nf, curC]) (by simp [List.range_succ, lb]) (ChkN.toB (by simp [go_sem, List.take_of_length_le, ren, ren1, ren2, okr, okr1, okr2, ChkN, BlkN, List.range_succ, nf, curC])) (by decide) (by simp) rfl (.nfr (by simp [curC, nf]) .nil) (by simp [go_sem, List.take_of_length_le, ren, ren1, ren2, okr, okr1, okr2, ChkN, BlkN, List.range_succ, nf, curC] <;> with_reducible rfl) ?_
        refine wkdasc0 _ ?_
        first | refine GS.fnn [4] (ci) rfl rfl rfl rfl (by simp [go_sem, List.take_of_length_le, ren, ren1, ren2, okr, okr1, okr2, ChkN, BlkN, List.range_succ, nf] <;> with_reducible rfl) (by simp [go_sem, List.take_of_length_le, ren, ren1, ren2, okr, okr1, okr2, ChkN, BlkN, List.range_succ, nf]) (by simp [go_sem, List.take_of_length_le, ren, ren1, ren2, okr, okr1, okr2, ChkN, BlkN, List.range_succ, nf]) (by simp [List.range_succ, lb]) (ChkN.toB (by simp [go_sem, List.take_of_length_le, ren, ren1, ren2, okr, okr1, okr2, ChkN, BlkN, List.range_succ, nf])) (by decide) (by simp) rfl (.nfr (by simp) .nil) (by simp [go_sem, List.take_of_length_le, ren, ren1, ren2, okr, okr1, okr2, ChkN, BlkN, List.range_succ, nf] <;> with_reducible rfl) ?_ | refine Gx.fnn [4] (ci) rfl rfl rfl rfl rfl (by simp [go_sem, List.take_of_length_le, ren, ren1, ren2, okr, okr1, okr2, ChkN, BlkN, List.range_succ, nf] <;> with_reducible rfl) (by simp [go_sem, List.take_of_length_le, ren, ren1, ren2, okr, okr1, okr2, ChkN, BlkN, List.range_succ, nf]) (by simp [go_sem, List.take_of_length_le, ren, ren1, ren2, okr, okr1, okr2, ChkN, BlkN, List.range_succ, nf]) (by simp [List.range_succ, lb]) (ChkN.toB (by simp [go_sem, List.take_of_length_le, ren, ren1, ren2, okr, okr1, okr2, ChkN, BlkN, List.range_succ, nf])) (by decide) (by simp) rfl (.nfr (by simp) .nil) (by simp [go_sem, List.take_of_length_le, ren, ren1, ren2, okr, okr1, okr2, ChkN, BlkN, List.range_succ, nf]) (by simp [go_sem, List.take_of_length_le, ren, ren1, ren2, okr, okr1, okr2, ChkN, BlkN, List.range_succ, nf] <;> with_reducible rfl) ?_ | refine Gx.fnno [4] (ci) rfl rfl rfl rfl rfl (by simp [go_sem, List.take_of_length_le, ren, ren1, ren2, okr, okr1, okr2, ChkN, BlkN, List.range_succ, nf] <;> with_reducible rfl) (by simp [go_sem, List.take_of_length_le, ren, ren1, ren2, okr, okr1, okr2, ChkN, BlkN, List.range_succ, nf]) (by simp [go_sem, List.take_of_length_le, ren, ren1, ren2, okr, okr1, okr2, ChkN, BlkN, List.range_succ, nf]) (by simp [List.range_succ, lb]) (ChkN.toB (by simp [go_sem, List.take_of_length_le, ren, ren1, ren2, okr, okr1, okr2, ChkN, BlkN, List.range_succ, nf])) (by decide) (by simp) rfl (.nfr (by simp) .nil) (by simp [go_sem, List.take_of_length_le, ren, ren1, ren2, okr, okr1, okr2, ChkN, BlkN, List.range_succ, nf] <;> with_reducible rfl) ?_
        refine wkdasc (And.intro @hwn (@hwm)) _ ?_
        refine ⟨(m, b, st5), ⟨hR, by dsimp only; omega, h6, by dsimp only; omega⟩, by dsimp only; omega, ?_⟩
        exact Cov.ofn (nm [0, 1, 2, 3, 4]) rfl (by simp [go_sem, List.take_of_length_le, ren, ren1, ren2, okr, okr1, okr2, ChkT, ChkN, BlkN, nf, curC]) (by simp [go_sem, List.take_of_length_le, ren, ren1, ren2, okr, okr1, okr2, ChkT, ChkN, BlkN, nf, curC])
      · have ci := l1PutN b x hin (by omega)
        have hil := putL_new hin
        have hic := putL_incr x b h6
        generalize putL b x = b2 at ci hil hR hic
        refine wkdasc0 _ ?_
        refine Holds.anx [5, 1006, 1008] [0, 1, 2, 3, 4] (fun n => decide (n = 0)) mixed ?_ ?_ ?_; (· kernel_rfl); (· kernel_rfl)
        refine wkdasc0 _ ?_
        first | refine GS.fnn [0] (c5) rfl rfl rfl rfl (by simp [go_sem, List.take_of_length_le, ren, ren1, ren2, okr, okr1, okr2, ChkN, BlkN, List.range_succ, nf, curC] <;> with_reducible rfl) (by simp [go_sem, List.take_of_length_le, ren, ren1, ren2, okr, okr1, okr2, ChkN, BlkN, List.range_succ, nf, curC]) (by simp [go_sem, List.take_of_length_le, ren, ren1, ren2, okr, okr1, okr2, ChkN, BlkN, List.range_succ, nf, curC]) (by simp [List.range_succ, lb]) (ChkN.toB (by simp [go_sem, List.take_of_length_le, ren, ren1, ren2, okr, okr1, okr2, ChkN, BlkN, List.range_succ, nf, curC])) (by decide) (by simp) rfl (.nfr (by simp [curC, nf]) .nil) (by simp [go_sem, List.take_of_length_le, ren, ren1, ren2, okr, okr1, okr2, ChkN, BlkN, List.range_succ, nf, curC] <;> with_reducible rfl) ?_ | refine Gx.fnn [0] (c5) rfl rfl rfl rfl rfl (by simp [go_sem, List.take_of_length_le, ren, ren1, ren2, okr, okr1, okr2, ChkN, BlkN, List.range_succ, nf, curC] <;> with_reducible rfl) (by simp [go_sem, List.take_of_length_le, ren, ren1, ren2, okr, okr1, okr2, ChkN, BlkN, List.range_succ, nf, curC]) (by simp [go_sem, List.take_of_length_le, ren, ren1, ren2, okr, okr1, okr2, ChkN, BlkN, List.range_succ, nf, curC]) (by simp [List.range_succ, lb]) (ChkN.toB (by simp [go_sem, List.take_of_length_le, ren, ren1, ren2, okr, okr1, okr2, ChkN, BlkN, List.range_succ, nf, curC])) (by decide) (by simp) rfl (.nfr (by simp [curC, nf]) .nil) (by simp [go_sem, List.take_of_length_le, ren, ren1, ren2, okr, okr1, okr2, ChkN, BlkN, List.range_succ, nf, curC]) (by simp [go_sem, List.take_of_length_le, ren, ren1, ren2, okr, okr1, okr2, ChkN, BlkN, List.range_succ, nf, curC] <;> with_reducible rfl) ?_ | refine Gx.fnno [0] (c5) rfl rfl rfl rfl rfl (by simp [go_sem, List.take_of_length_le, ren, ren1, ren2, okr, okr1, okr2, ChkN, BlkN, List.range_succ, nf, curC] <;> with_reducible rfl) (by simp [go_sem, List.take_of_length_le, ren, ren1, ren2, okr, okr1, okr2, ChkN, BlkN, List.range_succ, nf, curC]) (by simp [go_sem, List.take_of_length_le, ren, ren1, ren2, okr, okr1, okr2, ChkN, BlkN, List.range_succ, nf, curC]) (by simp [List.range_succ, lb]) (ChkN.toB (by simp [go_sem, List.take_of_length_le, ren, ren1, ren2, okr, okr1, okr2, ChkN, BlkN, List.range_succ, nf, curC])) (by decide) (by simp) rfl (.nfr (by simp [curC, nf]) .nil) (by simp [go_sem, List.take_of_length_le, ren, ren1, ren2, okr, okr1, okr2, ChkN, BlkN, List.range_succ, nf, curC] <;> with_reducible rfl) ?_
        refine wkdasc0 _ ?_
        first | refine GS.fnnd (ci) rfl rfl rfl rfl (by simp [go_sem, List.take_of_length_le, ren, ren1, ren2, okr, okr1, okr2, List.range_succ, nf] <;> with_reducible rfl) (by exact (.cons (Fz.all rfl rfl (by simp) (by simp [ints]) (ints_cl _)) (.cons (.v _) .nil))) (by simp) (by simp [go_sem, List.take_of_length_le, ren, ren1, ren2, okr, okr1, okr2, List.range_succ, nf]) (by simp [go_sem, List.take_of_length_le, ren, ren1, ren2, okr, okr1, okr2, List.range_succ, nf]) rfl (.nfr (by simp) .nil) (by simp [go_sem, List.take_of_length_le, ren, ren1, ren2, okr, okr1, okr2, List.range_succ, nf] <;> with_reducible rfl) ?_ | refine Gx.fnnd (ci) rfl rfl rfl rfl rfl (by simp [go_sem, List.take_of_length_le, ren, ren1, ren2, okr, okr1, okr2, List.range_succ, nf] <;> with_reducible rfl) (by exact (.cons (Fz.all rfl rfl (by simp) (by simp [ints]) (ints_cl _)) (.cons (.v _) .nil))) (by simp) (by simp [go_sem, List.take_of_length_le, ren, ren1, ren2, okr, okr1, okr2, List.range_succ, nf]) (by simp [go_sem, List.take_of_length_le, ren, ren1, ren2, okr, okr1, okr2, List.range_succ, nf]) rfl (.nfr (by simp) .nil) (by simp [go_sem, List.take_of_length_le, ren, ren1, ren2, okr, okr1, okr2, List.range_succ, nf]) (by simp [go_sem, List.take_of_length_le, ren, ren1, ren2, okr, okr1, okr2, List.range_succ, nf] <;> with_reducible rfl) ?_ | refine Gx.fnndo (ci) rfl rfl rfl rfl rfl (by simp [go_sem, List.take_of_length_le, ren, ren1, ren2, okr, okr1, okr2, List.range_succ, nf] <;> with_reducible rfl) (by exact (.cons (Fz.all rfl rfl (by simp) (by simp [ints]) (ints_cl _)) (.cons (.v _) .nil))) (by simp) (by simp [go_sem, List.take_of_length_le, ren, ren1, ren2, okr, okr1, okr2, List.range_succ, nf]) (by simp [go_sem, List.take_of_length_le, ren, ren1, ren2, okr, okr1, okr2, List.range_succ, nf]) rfl (.nfr (by simp) .nil) (by simp [go_sem, List.take_of_length_le, ren, ren1, ren2, okr, okr1, okr2, List.range_succ, nf] <;> with_reducible rfl) ?_
        refine wkdasc (And.intro @hwn (@hwm)) _ ?_
        refine ⟨(m, b2, st5), ⟨hR, by dsimp only; omega, hic, by dsimp only; omega⟩, by dsimp only; omega, ?_⟩
        exact Cov.ofn (nm [0, 1, 2, 3, 5]) rfl (by simp [go_sem, List.take_of_length_le, ren, ren1, ren2, okr, okr1, okr2, ChkT, ChkN, BlkN, nf, curC, hil]) (by simp [go_sem, List.take_of_length_le, ren, ren1, ren2, okr, okr1, okr2, ChkT, ChkN, BlkN, nf, curC, hil])
    · have hn : n = 0 := by
        have : ¬ 0 < n := by simpa using h
        omega
      subst hn
      rw [drEnd] at hR
      unfold drE at hR
      dsimp only at hR h4 h5 ⊢
      have c30 := hp 30 (by omega) (by omega) st (by omega)
      have r30 := hrng 30 (by omega) st
      have a30 := hat 30 st
      generalize pickV code 30 st = c at c30 r30 hR
      generalize pickS code 30 st = s30 at c30 a30 hR
      refine wkdac0 _ ?_
      first | refine GS.fnn [0] (c30) rfl rfl rfl rfl (by simp [go_sem, List.take_of_length_le, ren, ren1, ren2, okr, okr1, okr2, ChkN, BlkN, List.range_succ, nf, curC] <;> with_reducible rfl) (by simp [go_sem, List.take_of_length_le, ren, ren1, ren2, okr, okr1, okr2, ChkN, BlkN, List.range_succ, nf, curC]) (by simp [go_sem, List.take_of_length_le, ren, ren1, ren2, okr, okr1, okr2, ChkN, BlkN, List.range_succ, nf, curC]) (by simp [List.range_succ, lb]) (ChkN.toB (by simp [go_sem, List.take_of_length_le, ren, ren1, ren2, okr, okr1, okr2, ChkN, BlkN, List.range_succ, nf, curC])) (by decide) (by simp) rfl (.nfr (by simp [curC, nf]) .nil) (by simp [go_sem, List.take_of_length_le, ren, ren1, ren2, okr, okr1, okr2, ChkN, BlkN, List.range_succ, nf, curC] <;> with_reducible rfl) ?_ | refine Gx.fnn [0] (c30) rfl rfl rfl rfl rfl (by simp [go_sem, List.take_of_length_le, ren, ren1, ren2, okr, okr1, okr2, ChkN, BlkN, List.range_succ, nf, curC] <;> with_reducible rfl) (by simp [go_sem, List.take_of_length_le, ren, ren1, ren2, okr, okr1, okr2, ChkN, BlkN, List.range_succ, nf, curC]) (by simp [go_sem, List.take_of_length_le, ren, ren1, ren2, okr, okr1, okr2, ChkN, BlkN, List.range_succ, nf, curC]) (by simp [List.range_succ, lb]) (ChkN.toB (by simp [go_sem, List.take_of_length_le, ren, ren1, ren2, okr, okr1, okr2, ChkN, BlkN, List.range_succ, nf, curC])) (by decide) (by simp) rfl (.nfr (by simp [curC, nf]) .nil) (by simp [go_sem, List.take_of_length_le, ren, ren1, ren2, okr, okr1, okr2, ChkN, BlkN, List.range_succ, nf, curC]) (by simp [go_sem, List.take_of_length_le, ren, ren1, ren2, okr, okr1, okr2, ChkN, BlkN, List.range_succ, nf, curC] <;> with_reducible rfl) ?_ | refine Gx.fnno [0] (c30) rfl rfl rfl rfl rfl (by simp [go_sem, List.take_of_length_le, ren, ren1, ren2, okr, okr1, okr2, ChkN, BlkN, List.range_succ, nf, curC] <;> with_reducible rfl) (by simp [go_sem, List.take_of_length_le, ren, ren1, ren2, okr, okr1, okr2, ChkN, BlkN, List.range_succ, nf, curC]) (by simp [go_sem, List.take_of_length_le, ren, ren1, ren2, okr, okr1, okr2, ChkN, BlkN, List.range_succ, nf, curC]) (by simp [List.range_succ, lb]) (ChkN.toB (by simp [go_sem, List.take_of_length_le, ren, ren1, ren2, okr, okr1, okr2, ChkN, BlkN, List.range_succ, nf, curC])) (by decide) (by simp) rfl (.nfr (by simp [curC, nf]) .nil) (by simp [go_sem, List.take_of_length_le, ren, ren1, ren2, okr, okr1, okr2, ChkN, BlkN, List.range_succ, nf, curC] <;> with_reducible rfl) ?_
      refine wkdac0 _ ?_
      unfold drFin at hR
      by_cases e0 : c = 0
      · rw [if_pos e0] at hR
        subst e0
        have ca := amongF code hc hb 0 6 7 s30 (by omega)
        generalize [(0 : Int), 6, 7].getD (pickV code 3 s30).toNat 0 = v at ca hR
        generalize pickS code 3 s30 = sl at ca hR
        subst hR
        have hz0 : ints [0, 0, 0] = [[AV.v (.int .i64 0)], [.v (.int .i64 0)], [.v (.int .i64 0)]] := rfl
        repeat' first | (refine Holds.condT ?_ ?_; (· (simp [go_sem, List.take_of_length_le, hz0] <;> with_reducible rfl))) | (refine Holds.condF ?_ ?_; (· (simp [go_sem, List.take_of_length_le, hz0] <;> with_reducible rfl))) | refine Holds.seq ?_ | refine Holds.skip ?_ | refine Holds.exit ?_ | refine Holds.ret ?_ | refine thenA_normal ?_ | refine thenA_exit ?_ | refine thenA_ret ?_ | refine inB_normal ?_ | refine inB_ret ?_ | refine inB_here ?_ | (refine inB_past ?_ ?_; (· exact rfl)) | refine Holds.reg ?_ | refine Holds.block ?_ | refine GS.nil ?_ | refine Gd.nil ?_ | (refine Holds.any mixed ?_ ?_; (· kernel_rfl)) | (refine GS.stepD 56 (s' := ?_) rfl ?_ ?_ ?_; rotate_left; (· exact rfl); (· (simp [go_sem, List.take_of_length_le, hz0] <;> with_reducible rfl))) | (refine GS.skip ?_ ?_ ?_; (· exact rfl); (· exact rfl)) | (refine Gd.go (s' := ?_) ?_ ?_ ?_; rotate_left; (· exact rfl); (· (simp [go_sem, List.take_of_length_le, hz0] <;> with_reducible rfl))) | (refine Gd.skip ?_ ?_ ?_; (· exact rfl); (· exact rfl)) | refine Gx.nil ?_ | (refine Gx.go (s' := ?_) rfl ?_ ?_ ?_; rotate_left; (· exact rfl); (· (simp [go_sem, List.take_of_length_le, hz0] <;> with_reducible rfl))) | (refine Gx.skip rfl ?_ ?_ ?_; (· exact rfl); (· exact rfl)) | (refine Gx.skipO rfl ?_ ?_ ?_; (· exact rfl); (· exact rfl)) | (refine Gx.wo (s' := ?_) rfl ?_ ?_ ?_; rotate_left; (· exact rfl); (· (simp [go_sem, List.take_of_length_le, hz0] <;> with_reducible rfl))) | (refine Gx.skipW rfl ?_ ?_ ?_; (· exact rfl); (· exact rfl)) | (refine Gx.skipH rfl ?_ ?_ ?_; (· exact rfl); (· exact rfl)) | (refine Gx.hid (r := ?_) rfl ?_ ?_ ?_ ?_; rotate_left; (· exact rfl); (· exact rfl); (· (simp [go_sem, List.take_of_length_le, hz0] <;> with_reducible rfl))) | (refine Gx.wr (s' := ?_) rfl ?_ ?_ ?_ ?_; rotate_left; (· exact rfl); (· (simp [go_sem, List.take_of_length_le, hz0] <;> with_reducible rfl)); (· (simp [go_sem, List.take_of_length_le, hz0]))) | fail
        refine GS.frz [5] [(55, .im 1 (ints [0, 6, 7]))] (.cons rfl (Fz.all rfl rfl (by simp) (by simp [ints]) (ints_cl _)) .nil) ?_
        simp only [frz, List.filter, List.contains, List.elem, List.cons_append, List.nil_append, Nat.reduceBEq, Bool.not_false, Bool.not_true]
        first | refine GS.fnn [0] (ca) rfl rfl rfl rfl (by simp [go_sem, List.take_of_length_le, ren, ren1, ren2, okr, okr1, okr2, ChkN, BlkN, List.range_succ, nf, curC] <;> with_reducible rfl) (by simp [go_sem, List.take_of_length_le, ren, ren1, ren2, okr, okr1, okr2, ChkN, BlkN, List.range_succ, nf, curC]) (by simp [go_sem, List.take_of_length_le, ren, ren1, ren2, okr, okr1, okr2, ChkN, BlkN, List.range_succ, nf, curC]) (by simp [List.range_succ, lb]) (ChkN.toB (by simp [go_sem, List.take_of_length_le, ren, ren1, ren2, okr, okr1, okr2, ChkN, BlkN, List.range_succ, nf, curC])) (by decide) (by simp) rfl (.nfr (by simp [curC, nf]) .nil) (by simp [go_sem, List.take_of_length_le, ren, ren1, ren2, okr, okr1, okr2, ChkN, BlkN, List.range_succ, nf, curC] <;> with_reducible rfl) ?_ | refine Gx.fnn [0] (ca) rfl rfl rfl rfl rfl (by simp [go_sem, List.take_of_length_le, ren, ren1, ren2, okr, okr1, okr2, ChkN, BlkN, List.range_succ, nf, curC] <;> with_reducible rfl) (by simp [go_sem, List.take_of_length_le, ren, ren1, ren2, okr, okr1, okr2, ChkN, BlkN, List.range_succ, nf, curC]) (by simp [go_sem, List.take_of_length_le, ren, ren1, ren2, okr, okr1, okr2, ChkN, BlkN, List.range_succ, nf, curC]) (by simp [List.range_succ, lb]) (ChkN.toB (by simp [go_sem, List.take_of_length_le, ren, ren1, ren2, okr, okr1, okr2, ChkN, BlkN, List.range_succ, nf, curC])) (by decide) (by simp) rfl (.nfr (by simp [curC, nf]) .nil) (by simp [go_sem, List.take_of_length_le, ren, ren1, ren2, okr, okr1, okr2, ChkN, BlkN, List.range_succ, nf, curC]) (by simp [go_sem, List.take_of_length_le, ren, ren1, ren2, okr, okr1, okr2, ChkN, BlkN, List.range_succ, nf, curC] <;> with_reducible rfl) ?_ | refine Gx.fnno [0] (ca) rfl rfl rfl rfl rfl (by simp [go_sem, List.take_of_length_le, ren, ren1, ren2, okr, okr1, okr2, ChkN, BlkN, List.range_succ, nf, curC] <;> with_reducible rfl) (by simp [go_sem, List.take_of_length_le, ren, ren1, ren2, okr, okr1, okr2, ChkN, BlkN, List.range_succ, nf, curC]) (by simp [go_sem, List.take_of_length_le, ren, ren1, ren2, okr, okr1, okr2, ChkN, BlkN, List.range_succ, nf, curC]) (by simp [List.range_succ, lb]) (ChkN.toB (by simp [go_sem, List.take_of_length_le, ren, ren1, ren2, okr, okr1, okr2, ChkN, BlkN, List.range_succ, nf, curC])) (by decide) (by simp) rfl (.nfr (by simp [curC, nf]) .nil) (by simp [go_sem, List.take_of_length_le, ren, ren1, ren2, okr, okr1, okr2, ChkN, BlkN, List.range_succ, nf, curC] <;> with_reducible rfl) ?_
        refine wkdac0 _ ?_
        -- MARK2
        refine OutF.mkn (xs := ?_) (nm [0, 3, 4]) ?_ ?_ ?_ ?_ ?_ (by first | exact .inr rfl | exact .inl rfl)
        rotate_left
        · simp [go_sem, List.take_of_length_le, curC] <;> with_reducible rfl
        · simp [go_sem, List.take_of_length_le, ren, ren1, ren2, okr, okr1, okr2, ChkN, BlkN, List.range_succ, nf, curC]
        · simp [go_sem, List.take_of_length_le, ren, ren1, ren2, okr, okr1, okr2, ChkN, BlkN, List.range_succ, nf, curC]
        · simp [go_sem, List.take_of_length_le, ren, ren1, ren2, okr, okr1, okr2, ChkN, BlkN, List.range_succ, nf, curC]
        · rfl
      · rw [if_neg e0] at hR
        have f0 : (c == 0) = false := by rw [beq_eq_false_iff_ne]; exact e0
        by_cases e1 : c = 1
        · rw [if_pos e1] at hR
          subst e1 hR
          have hbb : (b.length + 1) * 8 ≤ 140737488355328 := by omega
          repeat' first | (refine Holds.condT ?_ ?_; (· (simp [go_sem, List.take_of_length_le] <;> with_reducible rfl))) | (refine Holds.condF ?_ ?_; (· (simp [go_sem, List.take_of_length_le] <;> with_reducible rfl))) | refine Holds.seq ?_ | refine Holds.skip ?_ | refine Holds.exit ?_ | refine Holds.ret ?_ | refine thenA_normal ?_ | refine thenA_exit ?_ | refine thenA_ret ?_ | refine inB_normal ?_ | refine inB_ret ?_ | refine inB_here ?_ | (refine inB_past ?_ ?_; (· exact rfl)) | refine Holds.reg ?_ | refine Holds.block ?_ | refine GS.nil ?_ | refine Gd.nil ?_ | (refine Holds.any mixed ?_ ?_; (· kernel_rfl)) | (refine GS.stepD 63 (s' := ?_) rfl ?_ ?_ ?_; rotate_left; (· exact rfl); (· (simp [go_sem, List.take_of_length_le] <;> with_reducible rfl))) | (refine GS.skip ?_ ?_ ?_; (· exact rfl); (· exact rfl)) | (refine Gd.go (s' := ?_) ?_ ?_ ?_; rotate_left; (· exact rfl); (· (simp [go_sem, List.take_of_length_le] <;> with_reducible rfl))) | (refine Gd.skip ?_ ?_ ?_; (· exact rfl); (· exact rfl)) | refine Gx.nil ?_ | (refine Gx.go (s' := ?_) rfl ?_ ?_ ?_; rotate_left; (· exact rfl); (· (simp [go_sem, List.take_of_length_le] <;> with_reducible rfl))) | (refine Gx.skip rfl ?_ ?_ ?_; (· exact rfl); (· exact rfl)) | (refine Gx.skipO rfl ?_ ?_ ?_; (· exact rfl); (· exact rfl)) | (refine Gx.wo (s' := ?_) rfl ?_ ?_ ?_; rotate_left; (· exact rfl); (· (simp [go_sem, List.take_of_length_le] <;> with_reducible rfl))) | (refine Gx.skipW rfl ?_ ?_ ?_; (· exact rfl); (· exact rfl)) | (refine Gx.skipH rfl ?_ ?_ ?_; (· exact rfl); (· exact rfl)) | (refine Gx.hid (r := ?_) rfl ?_ ?_ ?_ ?_; rotate_left; (· exact rfl); (· exact rfl); (· (simp [go_sem, List.take_of_length_le] <;> with_reducible rfl))) | (refine Gx.wr (s' := ?_) rfl ?_ ?_ ?_ ?_; rotate_left; (· exact rfl); (· (simp [go_sem, List.take_of_length_le] <;> with_reducible rfl)); (· (simp [go_sem, List.take_of_length_le]))) | fail
          refine GS.frz [5] [(62, .im 1 (ints [0]))] (.cons rfl (Fz.all rfl rfl (by simp) (by simp [ints]) (ints_cl _)) .nil) ?_
          simp only [frz, List.filter, List.contains, List.elem, List.cons_append, List.nil_append, Nat.reduceBEq, Bool.not_false, Bool.not_true]
          refine wkdac (And.intro @ints_allF (@hbb)) _ ?_
          -- MARK4
          have hsn : ints b ++ ints [0] = ints (b ++ [0]) := by simp [ints]
          refine OutF.mkn (xs := ?_) (nm [0, 3, 7]) ?_ ?_ ?_ ?_ ?_ (by first | exact .inr rfl | exact .inl rfl)
          rotate_left
          · simp [go_sem, List.take_of_length_le, curC, hsn] <;> with_reducible rfl
          · simp [go_sem, List.take_of_length_le, ren, ren1, ren2, okr, okr1, okr2, ChkN, BlkN, List.range_succ, nf, curC, hsn]
          · simp [go_sem, List.take_of_length_le, ren, ren1, ren2, okr, okr1, okr2, ChkN, BlkN, List.range_succ, nf, curC, hsn]
          · simp [go_sem, List.take_of_length_le, ren, ren1, ren2, okr, okr1, okr2, ChkN, BlkN, List.range_succ, nf, curC, hsn]
          · rfl
        · rw [if_neg e1] at hR
          have f1 : (c == 1) = false := by rw [beq_eq_false_iff_ne]; exact e1
          by_cases e2 : c = 2
          · rw [if_pos e2] at hR
            subst e2 hR
            have hz0 : ints [0, 0, 0] = [[AV.v (.int .i64 0)], [.v (.int .i64 0)], [.v (.int .i64 0)]] := rfl
            have hbb : (a.length + 1) * 24 ≤ 140737488355328 := by omega
            repeat' first | (refine Holds.condT ?_ ?_; (· (simp [go_sem, List.take_of_length_le, hz0] <;> with_reducible rfl))) | (refine Holds.condF ?_ ?_; (· (simp [go_sem, List.take_of_length_le, hz0] <;> with_reducible rfl))) | refine Holds.seq ?_ | refine Holds.skip ?_ | refine Holds.exit ?_ | refine Holds.ret ?_ | refine thenA_normal ?_ | refine thenA_exit ?_ | refine thenA_ret ?_ | refine inB_normal ?_ | refine inB_ret ?_ | refine inB_here ?_ | (refine inB_past ?_ ?_; (· exact rfl)) | refine Holds.reg ?_ | refine Holds.block ?_ | refine GS.nil ?_ | refine Gd.nil ?_ | (refine Holds.any mixed ?_ ?_; (· kernel_rfl)) | (refine GS.stepD 70 (s' := ?_) rfl ?_ ?_ ?_; rotate_left; (· exact rfl); (· (simp [go_sem, List.take_of_length_le, hz0] <;> with_reducible rfl))) | (refine GS.skip ?_ ?_ ?_; (· exact rfl); (· exact rfl)) | (refine Gd.go (s' := ?_) ?_ ?_ ?_; rotate_left; (· exact rfl); (· (simp [go_sem, List.take_of_length_le, hz0] <;> with_reducible rfl))) | (refine Gd.skip ?_ ?_ ?_; (· exact rfl); (· exact rfl)) | refine Gx.nil ?_ | (refine Gx.go (s' := ?_) rfl ?_ ?_ ?_; rotate_left; (· exact rfl); (· (simp [go_sem, List.take_of_length_le, hz0] <;> with_reducible rfl))) | (refine Gx.skip rfl ?_ ?_ ?_; (· exact rfl); (· exact rfl)) | (refine Gx.skipO rfl ?_ ?_ ?_; (· exact rfl); (· exact rfl)) | (refine Gx.wo (s' := ?_) rfl ?_ ?_ ?_; rotate_left; (· exact rfl); (· (simp [go_sem, List.take_of_length_le, hz0] <;> with_reducible rfl))) | (refine Gx.skipW rfl ?_ ?_ ?_; (· exact rfl); (· exact rfl)) | (refine Gx.skipH rfl ?_ ?_ ?_; (· exact rfl); (· exact rfl)) | (refine Gx.hid (r := ?_) rfl ?_ ?_ ?_ ?_; rotate_left; (· exact rfl); (· exact rfl); (· (simp [go_sem, List.take_of_length_le, hz0] <;> with_reducible rfl))) | (refine Gx.wr (s' := ?_) rfl ?_ ?_ ?_ ?_; rotate_left; (· exact rfl); (· (simp [go_sem, List.take_of_length_le, hz0] <;> with_reducible rfl)); (· (simp [go_sem, List.take_of_length_le, hz0]))) | fail
            refine GS.frz [5] [(69, .im 1 (ints [0, 0, 0]))] (.cons rfl (Fz.all rfl rfl (by simp) (by simp [ints]) (ints_cl _)) .nil) ?_
            simp only [frz, List.filter, List.contains, List.elem, List.cons_append, List.nil_append, Nat.reduceBEq, Bool.not_false, Bool.not_true]
            repeat' first | (refine Holds.condT ?_ ?_; (· (simp [go_sem, List.take_of_length_le] <;> with_reducible rfl))) | (refine Holds.condF ?_ ?_; (· (simp [go_sem, List.take_of_length_le] <;> with_reducible rfl))) | refine Holds.seq ?_ | refine Holds.skip ?_ | refine Holds.exit ?_ | refine Holds.ret ?_ | refine thenA_normal ?_ | refine thenA_exit ?_ | refine thenA_ret ?_ | refine inB_normal ?_ | refine inB_ret ?_ | refine inB_here ?_ | (refine inB_past ?_ ?_; (· exact rfl)) | refine Holds.reg ?_ | refine Holds.block ?_ | refine GS.nil ?_ | refine Gd.nil ?_ | (refine Holds.any mixed ?_ ?_; (· kernel_rfl)) | (refine GS.stepD 71 (s' := ?_) rfl ?_ ?_ ?_; rotate_left; (· exact rfl); (· (simp [go_sem, List.take_of_length_le] <;> with_reducible rfl))) | (refine GS.skip ?_ ?_ ?_; (· exact rfl); (· exact rfl)) | (refine Gd.go (s' := ?_) ?_ ?_ ?_; rotate_left; (· exact rfl); (· (simp [go_sem, List.take_of_length_le] <;> with_reducible rfl))) | (refine Gd.skip ?_ ?_ ?_; (· exact rfl); (· exact rfl)) | refine Gx.nil ?_ | (refine Gx.go (s' := ?_) rfl ?_ ?_ ?_; rotate_left; (· exact rfl); (· (simp [go_sem, List.take_of_length_le] <;> with_reducible rfl))) | (refine Gx.skip rfl ?_ ?_ ?_; (· exact rfl); (· exact rfl)) | (refine Gx.skipO rfl ?_ ?_ ?_; (· exact rfl); (· exact rfl)) | (refine Gx.wo (s' := ?_) rfl ?_ ?_ ?_; rotate_left; (· exact rfl); (· (simp [go_sem, List.take_of_length_le] <;> with_reducible rfl))) | (refine Gx.skipW rfl ?_ ?_ ?_; (· exact rfl); (· exact rfl)) | (refine Gx.skipH rfl ?_ ?_ ?_; (· exact rfl); (· exact rfl)) | (refine Gx.hid (r := ?_) rfl ?_ ?_ ?_ ?_; rotate_left; (· exact rfl); (· exact rfl); (· (simp [go_sem, List.take_of_length_le] <;> with_reducible rfl))) | (refine Gx.wr (s' := ?_) rfl ?_ ?_ ?_ ?_; rotate_left; (· exact rfl); (· (simp [go_sem, List.take_of_length_le] <;> with_reducible rfl)); (· (simp [go_sem, List.take_of_length_le]))) | fail
            refine GS.frz [6] [(70, .im 1 (intss [[0, 0, 0]]))] (.cons rfl (Fz.all rfl rfl (by simp) (by simp [intss, intsC]) (intss_clT _)) .nil) ?_
            simp only [frz, List.filter, List.contains, List.elem, List.cons_append, List.nil_append, Nat.reduceBEq, Bool.not_false, Bool.not_true]
            refine wkdac (And.intro @intss_allT (@hbb)) _ ?_
            -- MARK5
            have hsn : intss a ++ intss [[0, 0, 0]] = intss (a ++ [[0, 0, 0]]) := by simp [intss]
            refine OutF.mkn (xs := ?_) (nm [0, 8, 4]) ?_ ?_ ?_ ?_ ?_ (by first | exact .inr rfl | exact .inl rfl)
            rotate_left
            · simp [go_sem, List.take_of_length_le, curC, hsn] <;> with_reducible rfl
            · simp [go_sem, List.take_of_length_le, ren, ren1, ren2, okr, okr1, okr2, ChkN, BlkN, List.range_succ, nf, curC, hsn]
            · simp [go_sem, List.take_of_length_le, ren, ren1, ren2, okr, okr1, okr2, ChkN, BlkN, List.range_succ, nf, curC, hsn]
            · simp [go_sem, List.take_of_length_le, ren, ren1, ren2, okr, okr1, okr2, ChkN, BlkN, List.range_succ, nf, curC, hsn]
            · rfl
          · rw [if_neg e2] at hR
            have f2 : (c == 2) = false := by rw [beq_eq_false_iff_ne]; exact e2
            subst hR
            refine wkdac (And.intro @e0 (And.intro @e1 (And.intro @e2 (And.intro @f0 (And.intro @f1 (@f2)))))) _ ?_
            -- MARK6
            refine OutF.mkn (xs := ?_) (nm [0, 3, 4]) ?_ ?_ ?_ ?_ ?_ (by first | exact .inr rfl | exact .inl rfl)
            rotate_left
            · simp [go_sem, List.take_of_length_le, curC] <;> with_reducible rfl
            · simp [go_sem, List.take_of_length_le, ren, ren1, ren2, okr, okr1, okr2, ChkN, BlkN, List.range_succ, nf, curC]
            · simp [go_sem, List.take_of_length_le, ren, ren1, ren2, okr, okr1, okr2, ChkN, BlkN, List.range_succ, nf, curC]
            · simp [go_sem, List.take_of_length_le, ren, ren1, ren2, okr, okr1, okr2, ChkN, BlkN, List.range_succ, nf, curC]
            · rfl
end Go.Proofs.Ytejpklajfcngbaa.En
end
section
namespace Go.Proofs.Ytejpklajfcngbaa.En
open Go.RowKit
set_option linter.unusedSimpArgs false
set_option linter.unusedVariables false
set_option maxHeartbeats 4000000
theorem sameInts (a b : List Int) (ha : a.length ≤ 1000000) (hb : b.length ≤ 1000000) : Pure Try.prog 57 [.im 1 (ints a), .im 1 (ints b)] (.v (.bool (decide (a = b)))) := by
  refine Pure.mk (rs := [.tmp 4]) (nt := 26) Try.func57 (by kernel_rfl) rfl rfl rfl (by simp) ?_
  simp only [sl]
  by_cases hl : a.length = b.length
  case neg =>
    have hli : ((a.length : Int) != (b.length : Int)) = true := by simp; omega
    rw [decide_eq_false (fun e => hl (by rw [e]))]
    refine wkdc (And.intro @hli (@hl)) _ ?_
    refine Out.mk (xs := ?_) ?_ ?_ (by first | exact .inr rfl | exact .inl rfl)
    rotate_left
    · simp [go_sem, List.take_of_length_le] <;> with_reducible rfl
    exact .v _
  have hli : ((a.length : Int) != (b.length : Int)) = false := by simp; omega
  refine wkdc (And.intro @hli (@hl)) _ ?_
  refine Holds.loop (ι := Nat) (fun i => ⟨[(0, .im 1 (ints a)), (1, .im 1 (ints b)), (12, .v (.int .i64 b.length)), (13, .v (.int .i64 i))], [], 0⟩)
    (fun i => i ≤ a.length ∧ a.take i = b.take i) (fun i => a.length - i) 0 ⟨Nat.zero_le _, rfl⟩ ?_ ?_
  · exact Cov.ofn (id) rfl (by simp [go_sem, List.take_of_length_le, ren, ren1, ren2, okr, okr1, okr2, ChkT, ChkN, BlkN, nf]) (by simp [go_sem, List.take_of_length_le, ren, ren1, ren2, okr, okr1, okr2, ChkT, ChkN, BlkN, nf])
  rintro i ⟨hi, he⟩
  have stepi : wr64 ((i : Int) + 1) = ((i + 1 : Nat) : Int) := wr64_id (by omega) (by omega)
  refine wkdc0 _ ?_
  refine Holds.cond rfl (fun h => ?_) (fun h => ?_)
  · have hib : i < b.length := by simpa using h
    have hia : i < a.length := by omega
    obtain ⟨x, hx⟩ : ∃ x, a[i]? = some x := ⟨_, List.getElem?_eq_getElem hia⟩
    obtain ⟨y, hy⟩ : ∃ y, b[i]? = some y := ⟨_, List.getElem?_eq_getElem hib⟩
    refine wkdsc0 _ ?_
    (refine Holds.any mixed ?_ ?_; (· kernel_rfl))
    refine wkdsc (And.intro @hia (And.intro @hib (And.intro @hx (And.intro (@get_E _ _ _ _ hx) (And.intro @hy (@get_E _ _ _ _ hy)))))) _ ?_
    by_cases hxy : x = y
    · have hne : (x != y) = false := by simp [hxy]
      refine wkdc (And.intro @hne (@hxy)) _ ?_
      refine ⟨i + 1, ⟨by omega, by rw [List.take_add_one, List.take_add_one, hx, hy, he, hxy]⟩, by omega, ?_⟩
      rw [stepi]
      exact Cov.ofn (id) rfl (by simp [go_sem, List.take_of_length_le, ren, ren1, ren2, okr, okr1, okr2, ChkT, ChkN, BlkN, nf]) (by simp [go_sem, List.take_of_length_le, ren, ren1, ren2, okr, okr1, okr2, ChkT, ChkN, BlkN, nf])
    · have hne : (x != y) = true := by simp [hxy]
      rw [decide_eq_false (fun e => by rw [e, hy] at hx; injection hx with hx; exact hxy hx.symm)]
      refine wkdc (And.intro @hne (@hxy)) _ ?_
      refine Out.mk (xs := ?_) ?_ ?_ (by first | exact .inr rfl | exact .inl rfl)
      rotate_left
      · simp [go_sem, List.take_of_length_le] <;> with_reducible rfl
      exact .v _
  · have hie : i = a.length := by
      have : ¬ i < b.length := by simpa using h
      omega
    subst hie
    rw [List.take_length] at he
    rw [decide_eq_true (by rw [he, hl, List.take_length])]
    refine wkdc0 _ ?_
    refine Out.mk (xs := ?_) ?_ ?_ (by first | exact .inr rfl | exact .inl rfl)
    rotate_left
    · simp [go_sem, List.take_of_length_le] <;> with_reducible rfl
    exact .v _
end Go.Proofs.Ytejpklajfcngbaa.En
end
section
namespace Go.Proofs.Ytejpklajfcngbaa.En
open Go.RowKit
set_option linter.unusedSimpArgs false
set_option linter.unusedVariables false
set_option maxHeartbeats 4000000
theorem l1MostF (a b : Int) : Pure Try.prog 46 [.v (.int .i64 a), .v (.int .i64 b)] (.v (.int .i64 (if b < a then a else b))) := by
  refine Pure.mk (rs := [.tmp 4]) (nt := 10) Try.func46 (by kernel_rfl) rfl rfl rfl (by simp) ?_
  simp only [sl]
  refine wk0 _ ?_
  refine Holds.cond rfl (fun h => ?_) (fun h => ?_)
  · have h : b < a := by simpa using h
    rw [if_pos h]
    refine wk0 _ ?_
    refine Out.mk (xs := ?_) ?_ ?_ (by first | exact .inr rfl | exact .inl rfl)
    rotate_left
    · simp [go_sem, List.take_of_length_le] <;> with_reducible rfl
    exact .v _
  · have h : ¬ b < a := by simpa using h
    rw [if_neg h]
    refine wk0 _ ?_
    refine Out.mk (xs := ?_) ?_ ?_ (by first | exact .inr rfl | exact .inl rfl)
    rotate_left
    · simp [go_sem, List.take_of_length_le] <;> with_reducible rfl
    exact .v _
structure DrOk (m : MachineT) : Prop where
  toks : 1 ≤ m.2.1 ∧ m.2.1 ≤ 2
  arr : m.2.2.1.length ≤ 7
  three : ∀ t ∈ m.2.2.1, t.length = 3
  ends : m.2.2.2.length ≤ 3
theorem drFin_ok (code : List Int) (c : Int) (m : MachineT) (st : St2) (ht : 1 ≤ m.2.1 ∧ m.2.1 ≤ 2) (ha : m.2.2.1.length ≤ 6) (h3 : ∀ t ∈ m.2.2.1, t.length = 3) (he : m.2.2.2.length ≤ 2) : DrOk (drFin code c m st).1 ∧ (drFin code c m st).2.1 ≤ st.1 + 1 := by
  unfold drFin
  split
  · exact ⟨⟨ht, by dsimp only; omega, h3, by dsimp only; omega⟩, pickS_at code 3 st⟩
  · split
    · exact ⟨⟨ht, by dsimp only; omega, h3, by dsimp only; simp; omega⟩, by dsimp only; omega⟩
    · split
      · refine ⟨⟨ht, by dsimp only; simp; omega, fun t h => ?_, by dsimp only; omega⟩, by dsimp only; omega⟩
        rcases List.mem_append.1 h with e | e
        · exact h3 t e
        · rw [List.mem_singleton.1 e]; rfl
      · exact ⟨⟨ht, by dsimp only; omega, h3, by dsimp only; omega⟩, by dsimp only; omega⟩
theorem drM_ok (code : List Int) (hb : ∀ b ∈ code, 0 ≤ b ∧ b ≤ 255) (st : St2) : DrOk (drM code st).1 ∧ (drM code st).2.1 ≤ st.1 + 40 := by
  unfold drM drM2 drA2 drE
  have r4 := pickV_rng hb 4 (by omega) st
  have a4 := pickS_at code 4 st
  generalize pickV code 4 st = v4 at r4 ⊢
  generalize pickS code 4 st = s4 at a4 ⊢
  have r2 := pickV_rng hb 2 (by omega) s4
  have a2 := pickS_at code 2 s4
  generalize pickV code 2 s4 = v2 at r2 ⊢
  generalize pickS code 2 s4 = s2 at a2 ⊢
  have r7 := pickV_rng hb 7 (by omega) s2
  have a7 := pickS_at code 7 s2
  generalize pickV code 7 s2 = v7 at r7 ⊢
  generalize pickS code 7 s2 = s7 at a7 ⊢
  have q1 := drArr_ok code (1 + v4) (1 + v2) v7.toNat [] s7 (by simp)
  have q2 := drArr_at code (1 + v4) (1 + v2) v7.toNat [] s7
  generalize drArr code (1 + v4) (1 + v2) v7.toNat [] s7 = A at q1 q2 ⊢
  obtain ⟨a, sa⟩ := A
  dsimp only at q1 q2 ⊢
  have r3 := pickV_rng hb 3 (by omega) sa
  have a3 := pickS_at code 3 sa
  generalize pickV code 3 sa = v3 at r3 ⊢
  generalize pickS code 3 sa = s3 at a3 ⊢
  have q3 := drEnd_len code (1 + v4) v3.toNat [] s3
  have q4 := drEnd_at code (1 + v4) v3.toNat [] s3
  generalize drEnd code (1 + v4) v3.toNat [] s3 = E at q3 q4 ⊢
  obtain ⟨e, se⟩ := E
  dsimp only at q3 q4 ⊢
  have a30 := pickS_at code 30 se
  simp only [List.length_nil, Nat.zero_add] at q1 q3
  have := drFin_ok code (pickV code 30 se) (1 + v4, 1 + v2, a, e) (pickS code 30 se) (by dsimp only; omega) (by dsimp only; omega) q1.2 (by dsimp only; omega)
  exact ⟨this.1, by omega⟩
def drW (code : List Int) (T : Int) : Nat → List Int → St2 → List Int × St2
  | 0, w, st => (w, st)
  | n + 1, w, st => drW code T n (w ++ [pickV code (T + pickV code 30 st / 29) (pickS code 30 st)]) (pickS code (T + pickV code 30 st / 29) (pickS code 30 st))
def drMW (code : List Int) (p : MachineT × St2) : MachineT × List Int := (p.1, (drW code p.1.2.1 (pickV code 6 p.2).toNat [] (pickS code 6 p.2)).1)
def drTakes (code : List Int) : MachineT × List Int := drMW code (drM code (0, 0))
theorem drW_len (code : List Int) (T : Int) : ∀ (n : Nat) (w : List Int) (st : St2), (drW code T n w st).1.length = w.length + n
  | 0, w, st => rfl
  | n + 1, w, st => by rw [drW, drW_len]; simp; omega
theorem drTakes_ok (code : List Int) (hb : ∀ b ∈ code, 0 ≤ b ∧ b ≤ 255) : DrOk (drTakes code).1 ∧ (drTakes code).2.length ≤ 5 := by
  unfold drTakes drMW
  refine ⟨(drM_ok code hb (0, 0)).1, ?_⟩
  have r6 := pickV_rng hb 6 (by omega) (drM code (0, 0)).2
  dsimp only
  rw [drW_len]
  simp only [List.length_nil]
  omega
theorem drawGood (code : List Int) (hc : code.length ≤ 2000000) (hb : ∀ b ∈ code, 0 ≤ b ∧ b ≤ 255) : Pure Try.prog 60 [.im 1 (byteRows code)] (.ag (machineC (drM code (0, 0)).1)) := by
  have cm := machineF code hc hb (0, 0) (by simp)
  generalize drM code (0, 0) = R at cm ⊢
  obtain ⟨⟨S, T, a, e⟩, st⟩ := R
  dsimp only at cm ⊢
  refine Pure.mk (rs := [.cell 2 42]) (nt := 9) Try.func60 (by kernel_rfl) rfl rfl rfl (by simp) ?_
  simp only [sl]
  refine wkc0 _ ?_
  refine GS.fnn [1] (cm) rfl rfl rfl rfl (by simp [go_sem, List.take_of_length_le, ren, ren1, ren2, okr, okr1, okr2, ChkN, BlkN, List.range_succ, nf, curC] <;> with_reducible rfl) (by simp [go_sem, List.take_of_length_le, ren, ren1, ren2, okr, okr1, okr2, ChkN, BlkN, List.range_succ, nf, curC]) (by simp [go_sem, List.take_of_length_le, ren, ren1, ren2, okr, okr1, okr2, ChkN, BlkN, List.range_succ, nf, curC]) (by simp [List.range_succ, lb]) (ChkN.toB (by simp [go_sem, List.take_of_length_le, ren, ren1, ren2, okr, okr1, okr2, ChkN, BlkN, List.range_succ, nf, curC])) (by decide) (by simp) rfl (.nfr (by simp [curC, nf]) (.nfr (by simp) (.nfr (by simp) .nil))) (by simp [go_sem, List.take_of_length_le, ren, ren1, ren2, okr, okr1, okr2, ChkN, BlkN, List.range_succ, nf, curC] <;> with_reducible rfl) ?_
  refine wkc (@machineC.eq_1) _ ?_
  refine Out.mk (xs := ?_) ?_ ?_ (by first | exact .inr rfl | exact .inl rfl)
  rotate_left
  · simp [go_sem, List.take_of_length_le, machineC] <;> with_reducible rfl
  exact Fz.agL (.cons (.v _) (.cons (.v _) (.cons (Fz.all rfl rfl (by simp) (by simp [intss, intsC]) (intss_clT _)) (.cons (Fz.all rfl rfl (by simp) (by simp [ints]) (ints_cl _)) .nil))))
theorem drawLeast (code : List Int) (hc : code.length ≤ 2000000) (hb : ∀ b ∈ code, 0 ≤ b ∧ b ≤ 255) : Pure Try.prog 25 [.im 1 (byteRows code)] (.ag (machineC (drM code (0, 0)).1)) := by
  have cm := drawGood code hc hb
  refine Pure.mk (rs := [.cell 2 42]) (nt := 5) Try.func25 (by kernel_rfl) rfl rfl rfl (by simp) ?_
  simp only [sl]
  refine wkc0 _ ?_
  refine GS.cc (cm) rfl rfl rfl rfl (by simp [go_sem, List.take_of_length_le, machineC] <;> with_reducible rfl) rfl (by simp [go_sem, List.take_of_length_le, machineC]) ?_
  refine wkc (@machineC.eq_1) _ ?_
  refine Out.mk (xs := ?_) ?_ ?_ (by first | exact .inr rfl | exact .inl rfl)
  rotate_left
  · simp [go_sem, List.take_of_length_le, machineC] <;> with_reducible rfl
  exact Fz.agL (.cons (.v _) (.cons (.v _) (.cons (.im _ _) (.cons (.im _ _) .nil))))
theorem drawTakes (code : List Int) (hc : code.length ≤ 2000000) (hb : ∀ b ∈ code, 0 ≤ b ∧ b ≤ 255) : Pure Try.prog 17 [.im 1 (byteRows code)] (.tu [.ag (machineC (drTakes code).1), .im 1 (ints (drTakes code).2)]) := by
  have hp := fun n h0 h1 st hs => pickF code hc hb n h0 h1 st hs
  have hrng := fun n hn st => pickV_rng hb n hn st
  have hat := fun n st => pickS_at code n st
  have cm := machineF code hc hb (0, 0) (by simp)
  have hok := drM_ok code hb (0, 0)
  unfold drTakes
  generalize drM code (0, 0) = R at cm hok ⊢
  obtain ⟨⟨S, T, a, e⟩, st⟩ := R
  unfold drMW
  obtain ⟨hok, hst⟩ := hok
  obtain ⟨hT, ha, h3, he⟩ := hok
  dsimp only at cm hT ha h3 he hst ⊢
  obtain ⟨R, hR⟩ : ∃ R, R = (drW code T (pickV code 6 st).toNat [] (pickS code 6 st)).1 := ⟨_, rfl⟩
  rw [← hR]
  have c6 := hp 6 (by omega) (by omega) st (by omega)
  have r6 := hrng 6 (by omega) st
  have a6 := hat 6 st
  generalize pickV code 6 st = v6 at c6 r6 hR
  generalize pickS code 6 st = s6 at c6 a6 hR
  obtain ⟨n6, rfl⟩ : ∃ n : Nat, v6 = (n : Int) := ⟨v6.toNat, by omega⟩
  rw [Int.toNat_natCast] at hR
  refine Pure.mk (rs := [.cell 2 42, .tmp 3]) (nt := 33) Try.func17 (by kernel_rfl) rfl rfl rfl (by simp) ?_
  simp only [sl]
  refine wkc0 _ ?_
  refine GS.fnn [1] (cm) rfl rfl rfl rfl (by simp [go_sem, List.take_of_length_le, ren, ren1, ren2, okr, okr1, okr2, ChkN, BlkN, List.range_succ, nf, curC] <;> with_reducible rfl) (by simp [go_sem, List.take_of_length_le, ren, ren1, ren2, okr, okr1, okr2, ChkN, BlkN, List.range_succ, nf, curC]) (by simp [go_sem, List.take_of_length_le, ren, ren1, ren2, okr, okr1, okr2, ChkN, BlkN, List.range_succ, nf, curC]) (by simp [List.range_succ, lb]) (ChkN.toB (by simp [go_sem, List.take_of_length_le, ren, ren1, ren2, okr, okr1, okr2, ChkN, BlkN, List.range_succ, nf, curC])) (by decide) (by simp) rfl (.nfr (by simp [curC, nf]) (.nfr (by simp) (.nfr (by simp) .nil))) (by simp [go_sem, List.take_of_length_le, ren, ren1, ren2, okr, okr1, okr2, ChkN, BlkN, List.range_succ, nf, curC] <;> with_reducible rfl) ?_
  repeat' first | (refine Holds.condT ?_ ?_; (· (simp [go_sem, List.take_of_length_le, machineC] <;> with_reducible rfl))) | (refine Holds.condF ?_ ?_; (· (simp [go_sem, List.take_of_length_le, machineC] <;> with_reducible rfl))) | refine Holds.seq ?_ | refine Holds.skip ?_ | refine Holds.exit ?_ | refine Holds.ret ?_ | refine thenA_normal ?_ | refine thenA_exit ?_ | refine thenA_ret ?_ | refine inB_normal ?_ | refine inB_ret ?_ | refine inB_here ?_ | (refine inB_past ?_ ?_; (· exact rfl)) | refine Holds.reg ?_ | refine Holds.block ?_ | refine GS.nil ?_ | (refine GS.stepD 5 (s' := ?_) rfl ?_ ?_ ?_; rotate_left; (· exact rfl); (· (simp [go_sem, List.take_of_length_le, machineC] <;> with_reducible rfl))) | (refine GS.skip ?_ ?_ ?_; (· exact rfl); (· exact rfl)) | fail
  refine GS.frz [2, 3] [(12, .ag (machineC (S, T, a, e)))] (.cons rfl (Fz.agL (.cons (.v _) (.cons (.v _) (.cons (Fz.all rfl rfl (by simp) (by simp [intss, intsC]) (intss_clT _)) (.cons (Fz.all rfl rfl (by simp) (by simp [ints]) (ints_cl _)) .nil))))) .nil) ?_
  simp only [frz, List.filter, List.contains, List.elem, List.cons_append, List.nil_append, Nat.reduceBEq, Bool.not_false, Bool.not_true]
  refine wkc (@machineC.eq_1) _ ?_
  refine GS.fnn [1] (c6) rfl rfl rfl rfl (by simp [go_sem, List.take_of_length_le, ren, ren1, ren2, okr, okr1, okr2, ChkN, BlkN, List.range_succ, nf, curC] <;> with_reducible rfl) (by simp [go_sem, List.take_of_length_le, ren, ren1, ren2, okr, okr1, okr2, ChkN, BlkN, List.range_succ, nf, curC]) (by simp [go_sem, List.take_of_length_le, ren, ren1, ren2, okr, okr1, okr2, ChkN, BlkN, List.range_succ, nf, curC]) (by simp [List.range_succ, lb]) (ChkN.toB (by simp [go_sem, List.take_of_length_le, ren, ren1, ren2, okr, okr1, okr2, ChkN, BlkN, List.range_succ, nf, curC])) (by decide) (by simp) rfl (.nfr (by simp [curC, nf]) .nil) (by simp [go_sem, List.take_of_length_le, ren, ren1, ren2, okr, okr1, okr2, ChkN, BlkN, List.range_succ, nf, curC] <;> with_reducible rfl) ?_
  refine wkc0 _ ?_
  refine Holds.niw 6 3 1 rfl ?_
  -- MARK3
  refine Holds.loop (ι := Nat × List Int × St2) (fun x => ⟨[(2, .pb 0 4 0 0), (3, .v (.slice none 0 0)), (4, .pb 1 3 0 0), (5, .pb 4 4 0 0), (6, .own 5 1 0 x.2.1.length), (7, .v (.int .i64 x.1))], [(1, ⟨76, 3, [curC code x.2.2]⟩), (4, ⟨42, 4, [machineC (S, T, a, e)]⟩), (5, ⟨3, 1, ints x.2.1⟩), (0, ⟨42, 4, [[.v (.int .i64 0), .v (.int .i64 0), .v (.slice none 0 0), .v (.slice none 0 0)]]⟩)], 6⟩)
    (fun x => R = (drW code T x.1 x.2.1 x.2.2).1 ∧ x.2.1.length + x.1 ≤ 5 ∧ x.2.2.1 + 2 * x.1 ≤ 100) (fun x => x.1) (n6, [], s6) ⟨hR, by simp; omega, by dsimp only; omega⟩ ?_ ?_
  · exact Cov.ofn (id) rfl (by simp [go_sem, List.take_of_length_le, ren, ren1, ren2, okr, okr1, okr2, ChkT, ChkN, BlkN, nf, niw, curC, machineC, show ints [] = [] from rfl]) (by simp [go_sem, List.take_of_length_le, ren, ren1, ren2, okr, okr1, okr2, ChkT, ChkN, BlkN, nf, niw, curC, machineC, show ints [] = [] from rfl])
  clear hR r6 a6 c6
  rintro ⟨n, w, st⟩ ⟨hR, h1, h2⟩
  dsimp only at hR h1 h2 ⊢
  refine wkc0 _ ?_
  refine Holds.cond rfl (fun h => ?_) (fun h => ?_)
  · have hn : 0 < n := by simpa using h
    obtain ⟨m, rfl⟩ : ∃ m, n = m + 1 := ⟨n - 1, by omega⟩
    rw [drW] at hR
    have cl := l1MostF 1 T
    rw [if_neg (show ¬ T < 1 by omega)] at cl
    have c30 := hp 30 (by omega) (by omega) st (by omega)
    have r30 := hrng 30 (by omega) st
    have a30 := hat 30 st
    generalize pickV code 30 st = v at c30 r30 hR
    generalize pickS code 30 st = st30 at c30 a30 hR
    have hq0 : 0 ≤ v / 29 := by omega
    have hq1 : v / 29 ≤ 1 := by omega
    have hqt : Int.tdiv v 29 = v / 29 := Int.tdiv_eq_ediv_of_nonneg r30.1
    generalize v / 29 = q at hq0 hq1 hqt hR
    have hwq : wr64 q = q := wr64_id (by omega) (by omega)
    have hwk : wr64 (T + q) = T + q := wr64_id (by omega) (by omega)
    have ck := hp (T + q) (by omega) (by omega) st30 (by omega)
    have ak := hat (T + q) st30
    generalize pickV code (T + q) st30 = x at ck hR
    generalize pickS code (T + q) st30 = stk at ck ak hR
    have hwn : wr64 (((m + 1 : Nat) : Int) - 1) = (m : Int) := by rw [wr64_id (by omega) (by omega)]; omega
    have hwm : wr64 (m : Int) = (m : Int) := wr64_id (by omega) (by omega)
    have hbb : (w.length + 1) * 8 ≤ 140737488355328 := by omega
    refine wkc (@machineC.eq_1) _ ?_
    refine GS.cc (cl) rfl rfl rfl rfl (by simp [go_sem, List.take_of_length_le] <;> with_reducible rfl) rfl (by simp [go_sem, List.take_of_length_le]) ?_
    refine wkc (@machineC.eq_1) _ ?_
    refine GS.fnn [1] (c30) rfl rfl rfl rfl (by simp [go_sem, List.take_of_length_le, ren, ren1, ren2, okr, okr1, okr2, ChkN, BlkN, List.range_succ, nf, curC] <;> with_reducible rfl) (by simp [go_sem, List.take_of_length_le, ren, ren1, ren2, okr, okr1, okr2, ChkN, BlkN, List.range_succ, nf, curC]) (by simp [go_sem, List.take_of_length_le, ren, ren1, ren2, okr, okr1, okr2, ChkN, BlkN, List.range_succ, nf, curC]) (by simp [List.range_succ, lb]) (ChkN.toB (by simp [go_sem, List.take_of_length_le, ren, ren1, ren2, okr, okr1, okr2, ChkN, BlkN, List.range_succ, nf, curC])) (by decide) (by simp) rfl (.nfr (by simp [curC, nf]) .nil) (by simp [go_sem, List.take_of_length_le, ren, ren1, ren2, okr, okr1, okr2, ChkN, BlkN, List.range_succ, nf, curC] <;> with_reducible rfl) ?_
    refine wkc (And.intro @hqt (And.intro @hwq (@hwk))) _ ?_
    -- MARK4
    refine GS.fnn [1] (ck) rfl rfl rfl rfl (by simp [go_sem, List.take_of_length_le, ren, ren1, ren2, okr, okr1, okr2, ChkN, BlkN, List.range_succ, nf, curC] <;> with_reducible rfl) (by simp [go_sem, List.take_of_length_le, ren, ren1, ren2, okr, okr1, okr2, ChkN, BlkN, List.range_succ, nf, curC]) (by simp [go_sem, List.take_of_length_le, ren, ren1, ren2, okr, okr1, okr2, ChkN, BlkN, List.range_succ, nf, curC]) (by simp [List.range_succ, lb]) (ChkN.toB (by simp [go_sem, List.take_of_length_le, ren, ren1, ren2, okr, okr1, okr2, ChkN, BlkN, List.range_succ, nf, curC])) (by decide) (by simp) rfl (.nfr (by simp [curC, nf]) .nil) (by simp [go_sem, List.take_of_length_le, ren, ren1, ren2, okr, okr1, okr2, ChkN, BlkN, List.range_succ, nf, curC] <;> with_reducible rfl) ?_
    refine wkc (And.intro @hbb (And.intro @hwn (@hwm))) _ ?_
    refine ⟨(m, w ++ [x], stk), ⟨hR, by dsimp only; simp; omega, by dsimp only; omega⟩, by dsimp only; omega, ?_⟩
    -- MARK5
    exact Cov.ofn (nm [0, 1, 2, 3, 4, 8]) rfl (by simp [go_sem, List.take_of_length_le, ren, ren1, ren2, okr, okr1, okr2, ChkT, ChkN, BlkN, nf, curC, machineC, ints_snoc]) (by simp [go_sem, List.take_of_length_le, ren, ren1, ren2, okr, okr1, okr2, ChkT, ChkN, BlkN, nf, curC, machineC, ints_snoc])
  · have hn : n = 0 := by
      have : ¬ 0 < n := by simpa using h
      omega
    subst hn
    rw [drW] at hR
    subst hR
    refine wkc (@machineC.eq_1) _ ?_
    refine Out.mk (xs := ?_) ?_ ?_ (by first | exact .inr rfl | exact .inl rfl)
    rotate_left
    · simp [go_sem, List.take_of_length_le, machineC] <;> with_reducible rfl
    exact Fz.tuL (.cons (Fz.agL (.cons (.v _) (.cons (.v _) (.cons (.im _ _) (.cons (.im _ _) .nil))))) (.cons (Fz.all rfl rfl (by simp) (by simp [ints]) (ints_cl _)) .nil))
end Go.Proofs.Ytejpklajfcngbaa.En
end
section
namespace Go.Proofs.Ytejpklajfcngbaa.En
open Go.RowKit
set_option linter.unusedSimpArgs false
set_option linter.unusedVariables false
set_option maxHeartbeats 8000000
theorem intss_snoc (xs : List (List Int)) (r : List Int) : intss xs ++ [[.im 1 (ints r)]] = intss (xs ++ [r]) := by simp [intss, intsC]
theorem intss_one (r : List Int) : [[AV.im 1 (ints r)]] = intss [r] := by simp [intss, intsC]
def lastQ (sets : List (List Int)) (s : List Int) (i : Nat) (a : Int) : Prop := (a = -1 ∧ ∀ j, j < i → sets[j]? ≠ some s) ∨ ∃ j : Nat, j < i ∧ a = j ∧ sets[j]? = some s
theorem lastQ_step {sets : List (List Int)} {s x : List Int} {i : Nat} {a : Int} (h : lastQ sets s i a) (hx : sets[i]? = some x) : lastQ sets s (i + 1) (if x = s then (i : Int) else a) := by
  by_cases e : x = s
  · subst e; rw [if_pos rfl]; exact .inr ⟨i, by omega, rfl, hx⟩
  · rw [if_neg e]
    rcases h with ⟨h1, h2⟩ | ⟨j, h1, h2, h3⟩
    · refine .inl ⟨h1, fun j hj => ?_⟩
      by_cases hji : j = i
      · subst hji; rw [hx]; intro g; exact e (by injection g)
      · exact h2 j (by omega)
    · exact .inr ⟨j, by omega, h2, h3⟩
theorem lastQ_end {sets : List (List Int)} (hn : sets.Nodup) {s : List Int} {a : Int} (h : lastQ sets s sets.length a) : a = plS sets s := by
  rcases h with ⟨h1, h2⟩ | ⟨j, h1, h2, h3⟩
  · rw [h1, plS_no]
    intro hm
    obtain ⟨i, hi, e⟩ := List.mem_iff_getElem.1 hm
    exact h2 i hi (by rw [List.getElem?_eq_getElem hi, e])
  · rw [h2, plS_at hn h3]
theorem good_toks {m : MachineT} (hg : goodM m = true) : 1 ≤ m.2.1 ∧ m.2.1 ≤ 4 := by
  simp only [goodM, Bool.and_eq_true] at hg
  have := hg.1.1.2
  simpa [inR] using this
theorem l16Sets (m : MachineT) (hg : goodM m = true) (hx : m.2.2.1.length ≤ 1048576) : Pure Try.prog 50 [.ag (machineC m)] (.tu [.im 1 (intss (setsM m).1), .im 1 (intss (setsM m).2)]) := by
  refine Pure.mk (rs := [.tmp 2, .tmp 3]) (nt := 64) Try.func50 (by kernel_rfl) rfl rfl rfl (by simp) ?_
  simp only [sl, machineC]
  have hT := good_toks hg
  repeat' first | (refine Holds.condT ?_ ?_; (· (simp [go_sem, List.take_of_length_le] <;> with_reducible rfl))) | (refine Holds.condF ?_ ?_; (· (simp [go_sem, List.take_of_length_le] <;> with_reducible rfl))) | refine Holds.seq ?_ | refine Holds.skip ?_ | refine Holds.exit ?_ | refine Holds.ret ?_ | refine thenA_normal ?_ | refine thenA_exit ?_ | refine thenA_ret ?_ | refine inB_normal ?_ | refine inB_ret ?_ | refine inB_here ?_ | (refine inB_past ?_ ?_; (· exact rfl)) | refine Holds.reg ?_ | refine Holds.block ?_ | refine GS.nil ?_ | refine Gd.nil ?_ | (refine Holds.any mixed ?_ ?_; (· kernel_rfl)) | (refine GS.stepD 14 (s' := ?_) rfl ?_ ?_ ?_; rotate_left; (· exact rfl); (· (simp [go_sem, List.take_of_length_le] <;> with_reducible rfl))) | (refine GS.skip ?_ ?_ ?_; (· exact rfl); (· exact rfl)) | (refine Gd.go (s' := ?_) ?_ ?_ ?_; rotate_left; (· exact rfl); (· (simp [go_sem, List.take_of_length_le] <;> with_reducible rfl))) | (refine Gd.skip ?_ ?_ ?_; (· exact rfl); (· exact rfl)) | fail
  refine GS.frz [1] [(13, .im 1 (ints [0]))] (.cons rfl (Fz.all rfl rfl rfl rfl (ints_cl [0])) .nil) ?_
  refine wkdc (@frz.eq_1) _ ?_
  refine Holds.niw 5 26 1 rfl ?_
  refine Holds.loop (ι := Nat × List (List Int) × List (List Int)) (fun i => ⟨[(1, .pb 0 4 0 0), (4, .own 1 1 0 i.2.1.length), (5, .own 2 1 0 i.2.2.length), (6, .v (.int .i64 i.1))], [(1, ⟨26, 1, intss i.2.1⟩), (2, ⟨26, 1, intss i.2.2⟩), (0, ⟨42, 4, [machineC m]⟩)], 3⟩)
    (fun i => SetsI m i.1 i.2.1 i.2.2) (fun i => 64 - i.1) (0, [[0]], []) (SetsI.zero m) ?_ ?_
  · exact Cov.ofn (nm [0, 2, 3]) rfl (by simp [go_sem, List.take_of_length_le, ren, ren1, ren2, okr, okr1, okr2, ChkT, ChkN, BlkN, nf, niw, frz, machineC, intss_one, show intss [] = [] from rfl]) (by simp [go_sem, List.take_of_length_le, ren, ren1, ren2, okr, okr1, okr2, ChkT, ChkN, BlkN, nf, niw, frz, machineC, intss_one, show intss [] = [] from rfl])
  rintro ⟨k, S, X⟩ hI
  dsimp only at hI ⊢
  have hfew := hI.ok.few
  have hle := hI.le
  have hln := hI.ln
  have stepk : wr64 ((k : Int) + 1) = ((k + 1 : Nat) : Int) := wr64_id (by omega) (by omega)
  refine wkdc0 _ ?_
  refine Holds.cond rfl (fun h => ?_) (fun h => ?_)
  · have hlt : k < S.length := by simp at h; omega
    have hck : S[k]? = some S[k] := List.getElem?_eq_getElem hlt
    have hcok := hI.ok.ok _ (List.getElem_mem hlt)
    generalize S[k] = cur at hck hcok
    have hcl := okS_len hcok
    refine wkdc0 _ ?_
    refine Holds.niw 7 3 1 rfl ?_
    refine Holds.loop (ι := Nat) (fun t => ⟨[(1, .pb 0 4 0 0), (4, .own 1 1 0 (rowS m cur S t).1.length), (5, .own 2 1 0 X.length), (6, .v (.int .i64 k)), (7, .own 3 1 0 (rowS m cur S t).2.length), (8, .v (.int .i64 t))], [(1, ⟨26, 1, intss (rowS m cur S t).1⟩), (2, ⟨26, 1, intss X⟩), (3, ⟨3, 1, ints (rowS m cur S t).2⟩), (0, ⟨42, 4, [machineC m]⟩)], 4⟩)
      (fun t => t ≤ m.2.1.toNat) (fun t => m.2.1.toNat - t) 0 (Nat.zero_le _) ?_ ?_
    · exact Cov.ofn (id) rfl (by simp [go_sem, List.take_of_length_le, ren, ren1, ren2, okr, okr1, okr2, ChkT, ChkN, BlkN, nf, niw, machineC, rowS]) (by simp [go_sem, List.take_of_length_le, ren, ren1, ren2, okr, okr1, okr2, ChkT, ChkN, BlkN, nf, niw, machineC, rowS])
    intro t ht
    have stept : wr64 ((t : Int) + 1) = ((t + 1 : Nat) : Int) := wr64_id (by omega) (by omega)
    obtain ⟨h1, h2, h3, h4, h5⟩ := rowS_ok hg cur hI.ok t
    have hnx := rowS_next m cur S t
    have hf1 := h1.few
    refine wkdc (@machineC.eq_1) _ ?_
    refine Holds.cond rfl (fun h => ?_) (fun h => ?_)
    · have hlt2 : t < m.2.1.toNat := by simp at h; omega
      simp only [colS] at hnx
      generalize hP : (rowS m cur S t).1 = S1 at *
      generalize hQ : (rowS m cur S t).2 = R1 at *
      have hc1 := h4 k cur hck
      have cn := l16Next m hg hx cur t (by omega)
      have hno := next_ok hg cur (t : Int)
      generalize nextL m cur (t : Int) = s at cn hno hnx
      have hsl := okS_len hno
      have hkl : k < S1.length := by omega
      refine wkdc (And.intro (@get_E _ _ _ _ hc1) (And.intro @hc1 (And.intro @hkl (And.intro @intsC.eq_1 (@machineC.eq_1))))) _ ?_
      first | refine GS.cc (cn) rfl rfl rfl rfl (by simp [go_sem, List.take_of_length_le, machineC] <;> with_reducible rfl) rfl (by simp [go_sem, List.take_of_length_le, machineC]) ?_ | refine Gd.cc (cn) rfl rfl rfl rfl (by simp [go_sem, List.take_of_length_le, machineC] <;> with_reducible rfl) rfl (by simp [go_sem, List.take_of_length_le, machineC]) ?_
      refine wkdc0 _ ?_
      refine Holds.loop (ι := Nat × Int) (fun i => ⟨[(1, .pb 0 4 0 0), (4, .own 1 1 0 S1.length), (5, .own 2 1 0 X.length), (6, .v (.int .i64 k)), (7, .own 3 1 0 R1.length), (8, .v (.int .i64 t)), (9, .im 1 (ints s)), (10, .v (.int .i64 i.2)), (34, .own 1 1 0 S1.length), (35, .v (.int .i64 S1.length)), (36, .v (.int .i64 i.1))], [(1, ⟨26, 1, intss S1⟩), (2, ⟨26, 1, intss X⟩), (3, ⟨3, 1, ints R1⟩), (0, ⟨42, 4, [machineC m]⟩)], 4⟩)
        (fun i => i.1 ≤ S1.length ∧ lastQ S1 s i.1 i.2) (fun i => S1.length - i.1) (0, -1) ⟨Nat.zero_le _, .inl ⟨rfl, fun j hj => absurd hj (Nat.not_lt_zero j)⟩⟩ ?_ ?_
      · exact Cov.ofn (id) rfl (by simp [go_sem, List.take_of_length_le, ren, ren1, ren2, okr, okr1, okr2, ChkT, ChkN, BlkN, nf, machineC]) (by simp [go_sem, List.take_of_length_le, ren, ren1, ren2, okr, okr1, okr2, ChkT, ChkN, BlkN, nf, machineC])
      rintro ⟨i, a⟩ ⟨hi, hq⟩
      dsimp only at hi hq ⊢
      have stepi : wr64 ((i : Int) + 1) = ((i + 1 : Nat) : Int) := wr64_id (by omega) (by omega)
      refine wkdc0 _ ?_
      refine Holds.cond rfl (fun h => ?_) (fun h => ?_)
      · have hlt3 : i < S1.length := by simp at h; omega
        have hxi : S1[i]? = some S1[i] := List.getElem?_eq_getElem hlt3
        have hxo := okS_len (h1.ok _ (List.getElem_mem hlt3))
        generalize S1[i] = x at hxi hxo
        have cs := l1Same x s (by omega)
        have hst := lastQ_step hq hxi
        refine wkdc (And.intro (@get_E _ _ _ _ hxi) (And.intro @hxi (And.intro @hlt3 (@intsC.eq_1)))) _ ?_
        first | refine GS.cc (cs) rfl rfl rfl rfl (by simp [go_sem, List.take_of_length_le] <;> with_reducible rfl) rfl (by simp [go_sem, List.take_of_length_le]) ?_ | refine Gd.cc (cs) rfl rfl rfl rfl (by simp [go_sem, List.take_of_length_le] <;> with_reducible rfl) rfl (by simp [go_sem, List.take_of_length_le]) ?_
        by_cases hxs : x = s
        · rw [if_pos hxs] at hst
          refine wkdc (@hxs) _ ?_
          refine ⟨(i + 1, (i : Int)), ⟨by dsimp only; omega, hst⟩, by dsimp only; omega, ?_⟩
          rw [stepi]
          exact Cov.ofn (id) rfl (by simp [go_sem, List.take_of_length_le, ren, ren1, ren2, okr, okr1, okr2, ChkT, ChkN, BlkN, nf, machineC]) (by simp [go_sem, List.take_of_length_le, ren, ren1, ren2, okr, okr1, okr2, ChkT, ChkN, BlkN, nf, machineC])
        · rw [if_neg hxs] at hst
          refine wkdc (@hxs) _ ?_
          refine ⟨(i + 1, a), ⟨by dsimp only; omega, hst⟩, by dsimp only; omega, ?_⟩
          rw [stepi]
          exact Cov.ofn (id) rfl (by simp [go_sem, List.take_of_length_le, ren, ren1, ren2, okr, okr1, okr2, ChkT, ChkN, BlkN, nf, machineC]) (by simp [go_sem, List.take_of_length_le, ren, ren1, ren2, okr, okr1, okr2, ChkT, ChkN, BlkN, nf, machineC])
      · have hle3 : i = S1.length := by simp at h; omega
        subst hle3
        have ha := lastQ_end h1.nd hq
        subst ha
        have hb1 : (S1.length + 1) * 24 ≤ 140737488355328 := by omega
        have hb2 : (R1.length + 1) * 8 ≤ 140737488355328 := by omega
        by_cases hneg : plS S1 s < 0
        · simp only [addS, atS, hneg, if_true] at hnx
          refine wkdc (And.intro @hneg (And.intro @hb1 (@hb2))) _ ?_
          refine ⟨t + 1, by omega, by omega, ?_⟩
          rw [hnx, stept]
          exact Cov.ofn (nm [0, 6, 2, 9]) rfl (by simp [go_sem, List.take_of_length_le, ren, ren1, ren2, okr, okr1, okr2, ChkT, ChkN, BlkN, nf, machineC, intss_snoc, ints_snoc]) (by simp [go_sem, List.take_of_length_le, ren, ren1, ren2, okr, okr1, okr2, ChkT, ChkN, BlkN, nf, machineC, intss_snoc, ints_snoc])
        · simp only [addS, atS, hneg, if_false] at hnx
          refine wkdc (And.intro @hneg (And.intro @hb1 (@hb2))) _ ?_
          refine ⟨t + 1, by omega, by omega, ?_⟩
          rw [hnx, stept]
          exact Cov.ofn (nm [0, 1, 2, 6]) rfl (by simp [go_sem, List.take_of_length_le, ren, ren1, ren2, okr, okr1, okr2, ChkT, ChkN, BlkN, nf, machineC, intss_snoc, ints_snoc]) (by simp [go_sem, List.take_of_length_le, ren, ren1, ren2, okr, okr1, okr2, ChkT, ChkN, BlkN, nf, machineC, intss_snoc, ints_snoc])
    · have hle2 : t = m.2.1.toNat := by simp at h; omega
      subst hle2
      have hst := hI.step hg hck
      have hb1 : (X.length + 1) * 24 ≤ 140737488355328 := by omega
      generalize (rowS m cur S m.2.1.toNat).1 = S1 at *
      generalize (rowS m cur S m.2.1.toNat).2 = R1 at *
      repeat' first | (refine Holds.condT ?_ ?_; (· (simp [go_sem, List.take_of_length_le] <;> with_reducible rfl))) | (refine Holds.condF ?_ ?_; (· (simp [go_sem, List.take_of_length_le] <;> with_reducible rfl))) | refine Holds.seq ?_ | refine Holds.skip ?_ | refine Holds.exit ?_ | refine Holds.ret ?_ | refine thenA_normal ?_ | refine thenA_exit ?_ | refine thenA_ret ?_ | refine inB_normal ?_ | refine inB_ret ?_ | refine inB_here ?_ | (refine inB_past ?_ ?_; (· exact rfl)) | refine Holds.reg ?_ | refine Holds.block ?_ | refine GS.nil ?_ | refine Gd.nil ?_ | (refine Holds.any mixed ?_ ?_; (· kernel_rfl)) | (refine GS.stepD 58 (s' := ?_) rfl ?_ ?_ ?_; rotate_left; (· exact rfl); (· (simp [go_sem, List.take_of_length_le] <;> with_reducible rfl))) | (refine GS.skip ?_ ?_ ?_; (· exact rfl); (· exact rfl)) | (refine Gd.go (s' := ?_) ?_ ?_ ?_; rotate_left; (· exact rfl); (· (simp [go_sem, List.take_of_length_le] <;> with_reducible rfl))) | (refine Gd.skip ?_ ?_ ?_; (· exact rfl); (· exact rfl)) | fail
      refine GS.frz [3] [(7, .im 1 (ints R1))] (.cons rfl (Fz.all rfl rfl (by simp) rfl (ints_cl _)) .nil) ?_
      refine wkdc (And.intro @hb1 (@frz.eq_1)) _ ?_
      refine ⟨(k + 1, S1, X ++ [R1]), hst, by dsimp only; omega, ?_⟩
      rw [stepk]
      exact Cov.ofn (nm [0, 1, 6]) rfl (by simp [go_sem, List.take_of_length_le, ren, ren1, ren2, okr, okr1, okr2, ChkT, ChkN, BlkN, nf, frz, machineC, intss_snoc]) (by simp [go_sem, List.take_of_length_le, ren, ren1, ren2, okr, okr1, okr2, ChkT, ChkN, BlkN, nf, frz, machineC, intss_snoc])
  · have hge : S.length ≤ k := by simp at h; omega
    rw [hI.end hge]
    refine wkdc0 _ ?_
    refine Out.mk (xs := ?_) ?_ ?_ (by first | exact .inr rfl | exact .inl rfl)
    rotate_left
    · simp [go_sem, List.take_of_length_le] <;> with_reducible rfl
    exact Fz.tuL (.cons (Fz.all rfl rfl (by simp) rfl (intss_ok _)) (.cons (Fz.all rfl rfl (by simp) rfl (intss_ok _)) .nil))
end Go.Proofs.Ytejpklajfcngbaa.En
end
section
namespace Go.Proofs.Ytejpklajfcngbaa.En
open Go.RowKit
set_option linter.unusedSimpArgs false
set_option linter.unusedVariables false
set_option maxHeartbeats 8000000
theorem sets1 (o s : List Int) (ho : o.length < 4611686018427387904) : Pure Try.prog 91 [.im 1 (ints o), .pi [.im 1 (ints s)]] (.v (.bool (decide (o = s)))) := by
  refine Pure.mk (rs := [.tmp 3]) (nt := 7) Try.func91 (by kernel_rfl) rfl rfl rfl (by simp) ?_
  simp only [sl]
  have c := equalInts o s ho
  refine wkc0 _ ?_
  refine GS.cc (c) rfl rfl rfl rfl (by simp [go_sem, List.take_of_length_le] <;> with_reducible rfl) rfl (by simp [go_sem, List.take_of_length_le]) ?_
  refine wkc0 _ ?_
  refine Out.mk (xs := ?_) ?_ ?_ (by first | exact .inr rfl | exact .inl rfl)
  rotate_left
  · simp [go_sem, List.take_of_length_le] <;> with_reducible rfl
  exact .v _
theorem implSets (m : MachineT) (hg : goodM m = true) (hx : m.2.2.1.length ≤ 1048576) : Fn Try.prog 48 0 [.ag (machineC m)] [] (.tu [.own 0 1 0 (setsM m).1.length, .own 1 1 0 (setsM m).2.length]) 2 [(0, ⟨26, 1, intssO (setsM m).1⟩), (1, ⟨26, 1, intssO (setsM m).2⟩)] := by
  refine Fn.mk (rs := [.tmp 2, .tmp 3]) (nt := 55) Try.func48 (by kernel_rfl) rfl rfl rfl (by simp) ?_
  simp only [sl, machineC]
  have hT := good_toks hg
  refine wkdc0 _ ?_
  refine Holds.loop (ι := Nat × List (List Int) × List (List Int)) (fun i => ⟨[(1, .pb 0 4 0 0), (4, .own 1 1 0 i.2.1.length), (5, .own 2 1 0 i.2.2.length), (6, .v (.int .i64 i.1))], [(1, ⟨26, 1, intssO i.2.1⟩), (2, ⟨26, 1, intssO i.2.2⟩), (0, ⟨42, 4, [machineC m]⟩)], 3⟩)
    (fun i => SetsI m i.1 i.2.1 i.2.2) (fun i => 64 - i.1) (0, [[0]], []) (SetsI.zero m) ?_ ?_
  · refine Cov.trans ?_ (Cov.close 2 0 0 rfl rfl rfl rfl rfl rfl rfl (by simp [nf]))
    simp only [rm, st, List.set_set]
    exact Cov.ofn (nm [0, 2, 3]) rfl (by simp [go_sem, List.take_of_length_le, ren, ren1, ren2, okr, okr1, okr2, ChkT, ChkN, BlkN, nf, machineC, intssO, intsO1, ints]) (by simp [go_sem, List.take_of_length_le, ren, ren1, ren2, okr, okr1, okr2, ChkT, ChkN, BlkN, nf, machineC, intssO, intsO1, ints])
  rintro ⟨k, S, X⟩ hI
  dsimp only at hI ⊢
  have hfew := hI.ok.few
  have hle := hI.le
  have hln := hI.ln
  have stepk : wr64 ((k : Int) + 1) = ((k + 1 : Nat) : Int) := wr64_id (by omega) (by omega)
  refine wkdc0 _ ?_
  refine Holds.cond rfl (fun h => ?_) (fun h => ?_)
  · have hlt : k < S.length := by simp at h; omega
    have hck : S[k]? = some S[k] := List.getElem?_eq_getElem hlt
    have hcok := hI.ok.ok _ (List.getElem_mem hlt)
    generalize S[k] = cur at hck hcok
    have hcl := okS_len hcok
    refine wkdc (@machineC.eq_1) _ ?_
    refine Holds.loop (ι := Nat) (fun t => ⟨[(1, .pb 0 4 0 0), (4, .own 1 1 0 (rowS m cur S t).1.length), (5, .own 2 1 0 X.length), (6, .v (.int .i64 k)), (7, .own 3 1 0 (rowS m cur S t).2.length), (22, .v (.int .i64 m.2.1)), (23, .v (.int .i64 t))], [(1, ⟨26, 1, intssO (rowS m cur S t).1⟩), (2, ⟨26, 1, intssO X⟩), (3, ⟨3, 1, ints (rowS m cur S t).2⟩), (0, ⟨42, 4, [machineC m]⟩)], 4⟩)
      (fun t => t ≤ m.2.1.toNat) (fun t => m.2.1.toNat - t) 0 (Nat.zero_le _) ?_ ?_
    · exact Cov.ofn (id) rfl (by simp [go_sem, List.take_of_length_le, ren, ren1, ren2, okr, okr1, okr2, ChkT, ChkN, BlkN, nf, machineC, rowS, show ints [] = [] from rfl]) (by simp [go_sem, List.take_of_length_le, ren, ren1, ren2, okr, okr1, okr2, ChkT, ChkN, BlkN, nf, machineC, rowS, show ints [] = [] from rfl])
    intro t ht
    have stept : wr64 ((t : Int) + 1) = ((t + 1 : Nat) : Int) := wr64_id (by omega) (by omega)
    obtain ⟨h1, h2, h3, h4, h5⟩ := rowS_ok hg cur hI.ok t
    have hnx := rowS_next m cur S t
    have hf1 := h1.few
    refine wkdc (@machineC.eq_1) _ ?_
    refine Holds.cond rfl (fun h => ?_) (fun h => ?_)
    · have hlt2 : t < m.2.1.toNat := by simp at h; omega
      simp only [colS] at hnx
      generalize hP : (rowS m cur S t).1 = S1 at *
      generalize hQ : (rowS m cur S t).2 = R1 at *
      have hc1 := h4 k cur hck
      have hkl : k < S1.length := by omega
      have cn := implNext m hg hx cur t (by omega)
      have hno := next_ok hg cur (t : Int)
      generalize nextL m cur (t : Int) = s at cn hno hnx
      have hsl := okS_len hno
      refine Holds.open 1 k 0 rfl (oGet hc1) rfl rfl ?_
      refine wkdsc0 _ ?_
      refine Holds.dia (c := 6) (⟨[(1, .pb 0 4 0 0), (4, .own 1 1 0 S1.length), (5, .own 2 1 0 X.length), (6, .v (.int .i64 k)), (7, .own 3 1 0 R1.length), (8, .v (.int .i64 t)), (9, .pb 4 1 0 0), (22, .v (.int .i64 m.2.1)), (23, .v (.int .i64 t))], [(1, ⟨26, 1, intssO S1⟩), (2, ⟨26, 1, intssO X⟩), (3, ⟨3, 1, ints R1⟩), (4, ⟨26, 1, [[.own 5 1 0 s.length]]⟩), (5, ⟨3, 1, ints s⟩), (0, ⟨42, 4, [machineC m]⟩)], 6⟩) [6, 7, 1008] [0, 1, 2, 3, 4, 5] (fun n => decide (5 ≤ n)) mixed (by exact rfl) (by exact rfl) ?_ ?_ ?_ ?_
      · kernel_rfl
      · kernel_rfl
      all_goals (try show Gx _ _ _ _ _ _ _ 0 [_, _, _, _, _, _] _)
      · refine wkdac (And.intro @hkl (@machineC.eq_1)) _ ?_
        refine And.intro ?_ ?_
        · first | refine GS.fnnd (cn) rfl rfl rfl rfl (by simp [go_sem, List.take_of_length_le, ren, ren1, ren2, okr, okr1, okr2, List.range_succ, nf, machineC] <;> with_reducible rfl) (by exact (.cons (Fz.cl rfl) (.cons (Fz.all rfl rfl (by simp) rfl (ints_cl _)) (.cons (.v _) .nil)))) (by simp) (by simp [go_sem, List.take_of_length_le, ren, ren1, ren2, okr, okr1, okr2, List.range_succ, nf, machineC]) (by simp [go_sem, List.take_of_length_le, ren, ren1, ren2, okr, okr1, okr2, List.range_succ, nf, machineC]) rfl (.nfr (by simp) .nil) (by simp [go_sem, List.take_of_length_le, ren, ren1, ren2, okr, okr1, okr2, List.range_succ, nf, machineC] <;> with_reducible rfl) ?_ | refine Gx.fnnd (cn) rfl rfl rfl rfl rfl (by simp [go_sem, List.take_of_length_le, ren, ren1, ren2, okr, okr1, okr2, List.range_succ, nf, machineC] <;> with_reducible rfl) (by exact (.cons (Fz.cl rfl) (.cons (Fz.all rfl rfl (by simp) rfl (ints_cl _)) (.cons (.v _) .nil)))) (by simp) (by simp [go_sem, List.take_of_length_le, ren, ren1, ren2, okr, okr1, okr2, List.range_succ, nf, machineC]) (by simp [go_sem, List.take_of_length_le, ren, ren1, ren2, okr, okr1, okr2, List.range_succ, nf, machineC]) rfl (.nfr (by simp) .nil) (by simp [go_sem, List.take_of_length_le, ren, ren1, ren2, okr, okr1, okr2, List.range_succ, nf, machineC]) (by simp [go_sem, List.take_of_length_le, ren, ren1, ren2, okr, okr1, okr2, List.range_succ, nf, machineC] <;> with_reducible rfl) ?_ | refine Gx.fnndo (cn) rfl rfl rfl rfl rfl (by simp [go_sem, List.take_of_length_le, ren, ren1, ren2, okr, okr1, okr2, List.range_succ, nf, machineC] <;> with_reducible rfl) (by exact (.cons (Fz.cl rfl) (.cons (Fz.all rfl rfl (by simp) rfl (ints_cl _)) (.cons (.v _) .nil)))) (by simp) (by simp [go_sem, List.take_of_length_le, ren, ren1, ren2, okr, okr1, okr2, List.range_succ, nf, machineC]) (by simp [go_sem, List.take_of_length_le, ren, ren1, ren2, okr, okr1, okr2, List.range_succ, nf, machineC]) rfl (.nfr (by simp) .nil) (by simp [go_sem, List.take_of_length_le, ren, ren1, ren2, okr, okr1, okr2, List.range_succ, nf, machineC] <;> with_reducible rfl) ?_
          refine wkdac0 _ ?_
          refine Cov.trans ?_ (Cov.close 1 k 0 rfl (set_get (oGet hc1)) rfl rfl rfl rfl (by simp) (by simp))
          simp only [rm, st, List.set_set]
          exact Cov.ofn (nm [0, 1, 2, 3, 6, 5]) rfl (by simp [go_sem, List.take_of_length_le, ren, ren1, ren2, okr, okr1, okr2, ChkT, ChkN, BlkN, nf, machineC, oSet S1 hc1]) (by simp [go_sem, List.take_of_length_le, ren, ren1, ren2, okr, okr1, okr2, ChkT, ChkN, BlkN, nf, machineC, oSet S1 hc1])
        · refine wkdac0 _ ?_
          first | refine GS.fnnd (cn) rfl rfl rfl rfl (by simp [go_sem, List.take_of_length_le, ren, ren1, ren2, okr, okr1, okr2, List.range_succ, nf, machineC] <;> with_reducible rfl) (by exact (.cons (Fz.cl rfl) (.cons (Fz.all rfl rfl (by simp) rfl (ints_cl _)) (.cons (.v _) .nil)))) (by simp) (by simp [go_sem, List.take_of_length_le, ren, ren1, ren2, okr, okr1, okr2, List.range_succ, nf, machineC]) (by simp [go_sem, List.take_of_length_le, ren, ren1, ren2, okr, okr1, okr2, List.range_succ, nf, machineC]) rfl (.nfr (by simp) .nil) (by simp [go_sem, List.take_of_length_le, ren, ren1, ren2, okr, okr1, okr2, List.range_succ, nf, machineC] <;> with_reducible rfl) ?_ | refine Gx.fnnd (cn) rfl rfl rfl rfl rfl (by simp [go_sem, List.take_of_length_le, ren, ren1, ren2, okr, okr1, okr2, List.range_succ, nf, machineC] <;> with_reducible rfl) (by exact (.cons (Fz.cl rfl) (.cons (Fz.all rfl rfl (by simp) rfl (ints_cl _)) (.cons (.v _) .nil)))) (by simp) (by simp [go_sem, List.take_of_length_le, ren, ren1, ren2, okr, okr1, okr2, List.range_succ, nf, machineC]) (by simp [go_sem, List.take_of_length_le, ren, ren1, ren2, okr, okr1, okr2, List.range_succ, nf, machineC]) rfl (.nfr (by simp) .nil) (by simp [go_sem, List.take_of_length_le, ren, ren1, ren2, okr, okr1, okr2, List.range_succ, nf, machineC]) (by simp [go_sem, List.take_of_length_le, ren, ren1, ren2, okr, okr1, okr2, List.range_succ, nf, machineC] <;> with_reducible rfl) ?_ | refine Gx.fnndo (cn) rfl rfl rfl rfl rfl (by simp [go_sem, List.take_of_length_le, ren, ren1, ren2, okr, okr1, okr2, List.range_succ, nf, machineC] <;> with_reducible rfl) (by exact (.cons (Fz.cl rfl) (.cons (Fz.all rfl rfl (by simp) rfl (ints_cl _)) (.cons (.v _) .nil)))) (by simp) (by simp [go_sem, List.take_of_length_le, ren, ren1, ren2, okr, okr1, okr2, List.range_succ, nf, machineC]) (by simp [go_sem, List.take_of_length_le, ren, ren1, ren2, okr, okr1, okr2, List.range_succ, nf, machineC]) rfl (.nfr (by simp) .nil) (by simp [go_sem, List.take_of_length_le, ren, ren1, ren2, okr, okr1, okr2, List.range_succ, nf, machineC] <;> with_reducible rfl) ?_
          refine wkdac0 _ ?_
          refine Cov.trans ?_ (Cov.close 1 k 0 rfl (set_get (oGet hc1)) rfl rfl rfl rfl (by simp) (by simp))
          simp only [rm, st, List.set_set]
          exact Cov.ofn (nm [0, 1, 2, 3, 5, 6]) rfl (by simp [go_sem, List.take_of_length_le, ren, ren1, ren2, okr, okr1, okr2, ChkT, ChkN, BlkN, nf, machineC, oSet S1 hc1]) (by simp [go_sem, List.take_of_length_le, ren, ren1, ren2, okr, okr1, okr2, ChkT, ChkN, BlkN, nf, machineC, oSet S1 hc1])
      have ci := indexFuncIntS 91 [.pi [.im 1 (ints s)]] (fun o => decide (o = s)) S1 (by omega) rfl (fun x hx => sets1 x s (by have := okS_len (h1.ok x hx); omega))
      rw [show fstP (fun o => decide (o = s)) S1 0 = plS S1 s from rfl] at ci
      refine wkdac0 _ ?_
      first | refine GS.cd (ci) rfl rfl rfl rfl (by simp [go_sem, List.take_of_length_le] <;> with_reducible rfl) rfl (by exact .cons (fz_intssO _ rfl rfl) (.cons (Fz.fnL (.cons (Fz.pbM rfl rfl rfl (.cons (Fz.all rfl rfl (by simp) rfl (ints_cl _)) .nil)) .nil)) .nil)) rfl ?_ | refine Gd.cd (ci) rfl rfl rfl rfl (by simp [go_sem, List.take_of_length_le] <;> with_reducible rfl) rfl (by exact .cons (fz_intssO _ rfl rfl) (.cons (Fz.fnL (.cons (Fz.pbM rfl rfl rfl (.cons (Fz.all rfl rfl (by simp) rfl (ints_cl _)) .nil)) .nil)) .nil)) rfl ?_ | refine Gx.cd (ci) rfl rfl rfl rfl rfl (by simp [go_sem, List.take_of_length_le] <;> with_reducible rfl) rfl (by exact .cons (fz_intssO _ rfl rfl) (.cons (Fz.fnL (.cons (Fz.pbM rfl rfl rfl (.cons (Fz.all rfl rfl (by simp) rfl (ints_cl _)) .nil)) .nil)) .nil)) rfl ?_
      have hb1 : (S1.length + 1) * 24 ≤ 140737488355328 := by omega
      have hb2 : (R1.length + 1) * 8 ≤ 140737488355328 := by omega
      by_cases hneg : plS S1 s < 0
      · simp only [addS, atS, hneg, if_true] at hnx
        refine wkdac (And.intro @hneg (And.intro @hb1 (@hb2))) _ ?_
        refine ⟨t + 1, by omega, by omega, ?_⟩
        rw [hnx, stept]
        refine Cov.trans ?_ (Cov.close 8 S1.length 0 rfl (oAt S1 _) rfl rfl rfl rfl (by simp) (by simp))
        simp only [rm, st, List.set_set]
        exact Cov.ofn (nm [0, 8, 2, 11]) rfl (by simp [go_sem, List.take_of_length_le, ren, ren1, ren2, okr, okr1, okr2, ChkT, ChkN, BlkN, nf, machineC, oSnoc, oApp, ints_snoc]) (by simp [go_sem, List.take_of_length_le, ren, ren1, ren2, okr, okr1, okr2, ChkT, ChkN, BlkN, nf, machineC, oSnoc, oApp, ints_snoc])
      · simp only [addS, atS, hneg, if_false] at hnx
        refine wkdac (And.intro @hneg (And.intro @hb1 (@hb2))) _ ?_
        refine ⟨t + 1, by omega, by omega, ?_⟩
        rw [hnx, stept]
        exact Cov.ofn (nm [0, 1, 2, 8]) rfl (by simp [go_sem, List.take_of_length_le, ren, ren1, ren2, okr, okr1, okr2, ChkT, ChkN, BlkN, nf, machineC, ints_snoc]) (by simp [go_sem, List.take_of_length_le, ren, ren1, ren2, okr, okr1, okr2, ChkT, ChkN, BlkN, nf, machineC, ints_snoc])
    · have hle2 : t = m.2.1.toNat := by simp at h; omega
      subst hle2
      have hst := hI.step hg hck
      have hb1 : (X.length + 1) * 24 ≤ 140737488355328 := by omega
      generalize (rowS m cur S m.2.1.toNat).1 = S1 at *
      generalize (rowS m cur S m.2.1.toNat).2 = R1 at *
      refine wkdac (@hb1) _ ?_
      refine ⟨(k + 1, S1, X ++ [R1]), hst, by dsimp only; omega, ?_⟩
      rw [stepk]
      refine Cov.trans ?_ (Cov.close 6 X.length 0 rfl (oAt X _) rfl rfl rfl rfl (by simp) (by simp))
      simp only [rm, st, List.set_set]
      exact Cov.ofn (nm [0, 1, 6]) rfl (by simp [go_sem, List.take_of_length_le, ren, ren1, ren2, okr, okr1, okr2, ChkT, ChkN, BlkN, nf, machineC, oSnoc, oApp]) (by simp [go_sem, List.take_of_length_le, ren, ren1, ren2, okr, okr1, okr2, ChkT, ChkN, BlkN, nf, machineC, oSnoc, oApp])
  · have hge : S.length ≤ k := by simp at h; omega
    rw [hI.end hge]
    refine wkdac0 _ ?_
    refine OutF.mkn (xs := ?_) (nm [1, 2]) ?_ ?_ ?_ ?_ ?_ (by first | exact .inr rfl | exact .inl rfl)
    rotate_left
    · simp [go_sem, List.take_of_length_le] <;> with_reducible rfl
    · simp [go_sem, List.take_of_length_le, ren, ren1, ren2, okr, okr1, okr2, ChkN, BlkN, List.range_succ, nf]
    · simp [go_sem, List.take_of_length_le, ren, ren1, ren2, okr, okr1, okr2, ChkN, BlkN, List.range_succ, nf]
    · simp [go_sem, List.take_of_length_le, ren, ren1, ren2, okr, okr1, okr2, ChkN, BlkN, List.range_succ, nf]
    · rfl
end Go.Proofs.Ytejpklajfcngbaa.En
end
section
namespace Go.Proofs.Ytejpklajfcngbaa.En
open Go.RowKit
set_option linter.unusedSimpArgs false
set_option linter.unusedVariables false
set_option maxHeartbeats 8000000
theorem setsV_len (m : MachineT) : (wtL wIntS (setsV m).1 ≤ 1000 ∧ (setsV m).1.length ≤ 64 ∧ wtL wIntS (setsV m).2.1 ≤ 1000 ∧ (setsV m).2.1.length ≤ 64) ∧ (∀ e ∈ (setsV m).1, e.length ≤ 6) ∧ ∀ e ∈ (setsV m).2.1, e.length ≤ 6 := by
  unfold setsV
  cases hg : goodM m with
  | false => simp [wtL]
  | true =>
    have h := setsM_ok hg
    have hT := good_toks hg
    have h1 := h.ok.few
    have h2 : ∀ e ∈ (setsM m).1, e.length ≤ 6 := fun e he => okS_len (h.ok.ok e he)
    have h3 : ∀ e ∈ (setsM m).2, e.length ≤ 6 := fun e he => by have := (h.rows e he).1; omega
    have h4 := h.ln
    have w1 := wtL_boundX (w := wIntS) (c := 6) (xs := (setsM m).1) (fun x hx => by simp only [wIntS, wtL_w1]; exact h2 x hx)
    have w2 := wtL_boundX (w := wIntS) (c := 6) (xs := (setsM m).2) (fun x hx => by simp only [wIntS, wtL_w1]; exact h3 x hx)
    simp only [if_true]
    exact ⟨⟨by omega, h1, by omega, by omega⟩, h2, h3⟩
theorem specSetsOf (m : MachineT) (hx : m.2.2.1.length ≤ 1048576) (hs : ∀ e ∈ m.2.2.1, e.length < 4611686018427387904) (hy : m.2.2.2.length ≤ 1048576) : Pure Try.prog 19 [.ag (machineC m)] (.tu [.im 1 (intss (setsV m).1), .im 1 (intss (setsV m).2.1), .v (.bool (setsV m).2.2)]) := by
  refine Pure.mk (rs := [.tmp 2, .tmp 3, .tmp 4]) (nt := 17) Try.func19 (by kernel_rfl) rfl rfl rfl (by simp) ?_
  simp only [sl, machineC]
  have c1 := specGoodX m (by omega) hs (by omega)
  simp only [machineC] at c1
  unfold setsV
  refine wkc0 _ ?_
  cases hg : goodM m with
  | false =>
    rw [hg] at c1
    refine GS.cc (c1) rfl rfl rfl rfl (by simp [go_sem, List.take_of_length_le] <;> with_reducible rfl) rfl (by simp [go_sem, List.take_of_length_le]) ?_
    refine wkc0 _ ?_
    refine Out.mk (xs := ?_) ?_ ?_ (by first | exact .inr rfl | exact .inl rfl)
    rotate_left
    · simp [go_sem, List.take_of_length_le] <;> with_reducible rfl
    exact Fz.tuL (.cons (.nl 1) (.cons (.nl 1) (.cons (.v _) .nil)))
  | true =>
    rw [hg] at c1
    have c2 := l16Sets m hg hx
    simp only [machineC] at c2
    refine GS.cc (c1) rfl rfl rfl rfl (by simp [go_sem, List.take_of_length_le] <;> with_reducible rfl) rfl (by simp [go_sem, List.take_of_length_le]) ?_
    refine wkc0 _ ?_
    refine GS.cc (c2) rfl rfl rfl rfl (by simp [go_sem, List.take_of_length_le] <;> with_reducible rfl) rfl (by simp [go_sem, List.take_of_length_le]) ?_
    refine wkc0 _ ?_
    refine Out.mk (xs := ?_) ?_ ?_ (by first | exact .inr rfl | exact .inl rfl)
    rotate_left
    · simp [go_sem, List.take_of_length_le] <;> with_reducible rfl
    exact Fz.tuL (.cons (.im _ _) (.cons (.im _ _) (.cons (.v _) .nil)))
theorem implSetsOf (m : MachineT) (hx : m.2.2.1.length ≤ 1048576) (hs : ∀ e ∈ m.2.2.1, e.length < 4611686018427387904) (hy : m.2.2.2.length ≤ 1048576) : Fn Try.prog 18 0 [.ag (machineC m)] [] (.tu [.own 0 1 0 (setsV m).1.length, .own 1 1 0 (setsV m).2.1.length, .v (.bool (setsV m).2.2)]) 2 [(0, ⟨26, 1, intssO (setsV m).1⟩), (1, ⟨26, 1, intssO (setsV m).2.1⟩)] := by
  refine Fn.mk (rs := [.tmp 2, .tmp 3, .tmp 4]) (nt := 17) Try.func18 (by kernel_rfl) rfl rfl rfl (by simp) ?_
  simp only [sl, machineC]
  have c1 := implGoodX m (by omega) hs (by omega)
  simp only [machineC] at c1
  unfold setsV
  refine wkc0 _ ?_
  cases hg : goodM m with
  | false =>
    rw [hg] at c1
    refine GS.cc (c1) rfl rfl rfl rfl (by simp [go_sem, List.take_of_length_le] <;> with_reducible rfl) rfl (by simp [go_sem, List.take_of_length_le]) ?_
    refine wkc0 _ ?_
    refine OutF.cov (Cov.niw (t := 2) 26 1 rfl) (OutF.cov (Cov.niw (t := 3) 26 1 rfl) ?_)
    refine OutF.mkn (xs := ?_) (nm [1, 2]) ?_ ?_ ?_ ?_ ?_ (by first | exact .inr rfl | exact .inl rfl)
    rotate_left
    · simp [go_sem, List.take_of_length_le, niw, intssO] <;> with_reducible rfl
    · simp [go_sem, List.take_of_length_le, ren, ren1, ren2, okr, okr1, okr2, ChkN, BlkN, List.range_succ, nf, niw, intssO]
    · simp [go_sem, List.take_of_length_le, ren, ren1, ren2, okr, okr1, okr2, ChkN, BlkN, List.range_succ, nf, niw, intssO]
    · simp [go_sem, List.take_of_length_le, ren, ren1, ren2, okr, okr1, okr2, ChkN, BlkN, List.range_succ, nf, niw, intssO]
    · rfl
  | true =>
    rw [hg] at c1
    have c2 := implSets m hg hx
    simp only [machineC] at c2
    refine GS.cc (c1) rfl rfl rfl rfl (by simp [go_sem, List.take_of_length_le] <;> with_reducible rfl) rfl (by simp [go_sem, List.take_of_length_le]) ?_
    refine wkc0 _ ?_
    refine GS.fnn [] (c2) rfl rfl rfl rfl (by simp [go_sem, List.take_of_length_le, ren, ren1, ren2, okr, okr1, okr2, ChkN, BlkN, List.range_succ, nf] <;> with_reducible rfl) (by simp [go_sem, List.take_of_length_le, ren, ren1, ren2, okr, okr1, okr2, ChkN, BlkN, List.range_succ, nf]) (by simp [go_sem, List.take_of_length_le, ren, ren1, ren2, okr, okr1, okr2, ChkN, BlkN, List.range_succ, nf]) (by simp [List.range_succ, lb]) (ChkN.toB (by simp [go_sem, List.take_of_length_le, ren, ren1, ren2, okr, okr1, okr2, ChkN, BlkN, List.range_succ, nf])) (by decide) (by simp) rfl (.nfr (by simp) (.nfr (by simp) .nil)) (by simp [go_sem, List.take_of_length_le, ren, ren1, ren2, okr, okr1, okr2, ChkN, BlkN, List.range_succ, nf] <;> with_reducible rfl) ?_
    refine wkc0 _ ?_
    refine OutF.mkn (xs := ?_) (nm [1, 2]) ?_ ?_ ?_ ?_ ?_ (by first | exact .inr rfl | exact .inl rfl)
    rotate_left
    · simp [go_sem, List.take_of_length_le] <;> with_reducible rfl
    · simp [go_sem, List.take_of_length_le, ren, ren1, ren2, okr, okr1, okr2, ChkN, BlkN, List.range_succ, nf]
    · simp [go_sem, List.take_of_length_le, ren, ren1, ren2, okr, okr1, okr2, ChkN, BlkN, List.range_succ, nf]
    · simp [go_sem, List.take_of_length_le, ren, ren1, ren2, okr, okr1, okr2, ChkN, BlkN, List.range_succ, nf]
    · rfl
end Go.Proofs.Ytejpklajfcngbaa.En
end
section
namespace Go.Proofs.Ytejpklajfcngbaa.En
open Go.RowKit
set_option linter.unusedSimpArgs false
set_option linter.unusedVariables false
set_option maxHeartbeats 8000000
theorem keyTail_snoc {cls row : List Int} {j : Nat} {k : Nat} {x : Int} (h : row[j]? = some (k : Int)) (hx : cls[k]? = some x) : keyTail cls (row.take (j + 1)) = keyTail cls (row.take j) ++ [x] := by
  simp [keyTail, List.take_add_one, h, hx]
theorem cls0_at {m : MachineT} {sets : List (List Int)} {i : Nat} {s : List Int} (h : sets[i]? = some s) : (cls0 m sets).take (i + 1) = (cls0 m sets).take i ++ [if endsV m s then 1 else 0] := by
  simp [cls0, List.take_add_one, h]
theorem specLeast (m : MachineT) (hx : m.2.2.1.length ≤ 1048576) (hs : ∀ e ∈ m.2.2.1, e.length < 4611686018427387904) (hy : m.2.2.2.length ≤ 1048576) : Pure Try.prog 21 [.ag (machineC m)] (.tu [.v (.int .i64 (leastV m).1), .v (.bool (leastV m).2)]) := by
  refine Pure.mk (rs := [.tmp 2, .tmp 3]) (nt := 107) Try.func21 (by kernel_rfl) rfl rfl rfl (by simp) ?_
  simp only [sl, machineC]
  have c1 := specGoodX m (by omega) hs (by omega)
  simp only [machineC] at c1
  unfold leastV
  refine wkc0 _ ?_
  cases hg : goodM m with
  | false =>
    rw [hg] at c1
    refine GS.cc (c1) rfl rfl rfl rfl (by simp [go_sem, List.take_of_length_le] <;> with_reducible rfl) rfl (by simp [go_sem, List.take_of_length_le]) ?_
    refine wkc0 _ ?_
    refine Out.mk (xs := ?_) ?_ ?_ (by first | exact .inr rfl | exact .inl rfl)
    rotate_left
    · simp [go_sem, List.take_of_length_le] <;> with_reducible rfl
    exact Fz.tuL (.cons (.v _) (.cons (.v _) .nil))
  | true =>
    rw [hg] at c1
    have c2 := l16Sets m hg hx
    have hO := setsM_ok hg
    have hLI := LI.zero m
    simp only [machineC] at c2
    refine GS.cc (c1) rfl rfl rfl rfl (by simp [go_sem, List.take_of_length_le] <;> with_reducible rfl) rfl (by simp [go_sem, List.take_of_length_le]) ?_
    refine wkc0 _ ?_
    refine GS.cc (c2) rfl rfl rfl rfl (by simp [go_sem, List.take_of_length_le] <;> with_reducible rfl) rfl (by simp [go_sem, List.take_of_length_le]) ?_
    have hce : ∀ s ∈ (setsM m).1, Pure Try.prog 55 [.ag (machineC m), .im 1 (ints s)] (.v (.bool (endsV m s))) := fun s hs => l16End m hy s (by have := okS_len (hO.ok.ok s hs); omega)
    simp only [if_true]
    generalize leastM m = L at hLI ⊢
    have hfew := hO.ok.few
    have hok := hO.ok.ok
    have hrows := hO.rows
    have hXl := hO.ln
    have hTk := good_toks hg
    clear hO
    generalize (setsM m).1 = S at hLI hce hfew hok hrows hXl ⊢
    generalize (setsM m).2 = X at hLI hrows hXl ⊢
    have hcl : (cls0 m S).length = S.length := by simp [cls0]
    have hn0 : (0 : Int) ≤ (S.length : Int) := by omega
    have hn8 : (8 : Int) * S.length ≤ 281474976710656 := by omega
    have hn1 : (S.length : Int) ≤ 281474976710656 := by omega
    have hnf0 : nfr (List.replicate S.length ([.v (.int .i64 0)] : List AV)) := .rep (by simp [nf])
    refine wkc (And.intro @hn0 (And.intro @hn8 (@hn1))) _ ?_
    refine Holds.loop (ι := Nat) (fun i => ⟨[(1, .pb 0 4 0 0), (4, .im 1 (intss S)), (5, .im 1 (intss X)), (6, .own 1 1 0 S.length), (30, .im 1 (intss S)), (31, .v (.int .i64 S.length)), (32, .v (.int .i64 i))], [(1, ⟨3, 1, ints (padI ((cls0 m S).take i) S.length)⟩), (0, ⟨42, 4, [machineC m]⟩)], 2⟩)
      (fun i => i ≤ S.length) (fun i => S.length - i) 0 (Nat.zero_le _) ?_ ?_
    · exact Cov.ofn (id) rfl (by simp [go_sem, List.take_of_length_le, ren, ren1, ren2, okr, okr1, okr2, ChkT, ChkN, BlkN, nf, machineC, padI_nil]) (by simp [go_sem, List.take_of_length_le, ren, ren1, ren2, okr, okr1, okr2, ChkT, ChkN, BlkN, nf, machineC, padI_nil])
    intro i hi
    have stepi : wr64 ((i : Int) + 1) = ((i + 1 : Nat) : Int) := wr64_id (by omega) (by omega)
    have htl : ((cls0 m S).take i).length = i := by rw [List.length_take]; omega
    refine wkc0 _ ?_
    refine Holds.cond rfl (fun h => ?_) (fun h => ?_)
    · have hlt : i < S.length := by simp at h; omega
      have hxi : S[i]? = some S[i] := List.getElem?_eq_getElem hlt
      have ce := hce _ (List.getElem_mem hlt)
      generalize S[i] = s at hxi ce
      have hat := cls0_at (m := m) hxi
      have hpl : (padI ((cls0 m S).take i) S.length).length = S.length := padI_len (by omega)
      have hps := padI_set (xs := (cls0 m S).take i) (n := S.length) (by omega)
      have hpk := padI_skip (xs := (cls0 m S).take i) (n := S.length) (by omega)
      rw [htl] at hps
      refine wkc (And.intro (@get_E _ _ _ _ hxi) (And.intro @hxi (And.intro @hlt (And.intro @intsC.eq_1 (@machineC.eq_1))))) _ ?_
      refine GS.cc (ce) rfl rfl rfl rfl (by simp [go_sem, List.take_of_length_le, machineC] <;> with_reducible rfl) rfl (by simp [go_sem, List.take_of_length_le, machineC]) ?_
      cases he : endsV m s with
      | true =>
        rw [he, if_pos rfl] at hat
        refine wkc (And.intro @hpl (@hlt)) _ ?_
        refine ⟨i + 1, by omega, by omega, ?_⟩
        rw [stepi, hat]
        exact Cov.ofn (id) rfl (by simp [go_sem, List.take_of_length_le, ren, ren1, ren2, okr, okr1, okr2, ChkT, ChkN, BlkN, nf, machineC, hps]) (by simp [go_sem, List.take_of_length_le, ren, ren1, ren2, okr, okr1, okr2, ChkT, ChkN, BlkN, nf, machineC, hps])
      | false =>
        rw [he, if_neg (by simp)] at hat
        refine wkc0 _ ?_
        refine ⟨i + 1, by omega, by omega, ?_⟩
        rw [stepi, hat, ← hpk]
        exact Cov.ofn (id) rfl (by simp [go_sem, List.take_of_length_le, ren, ren1, ren2, okr, okr1, okr2, ChkT, ChkN, BlkN, nf, machineC]) (by simp [go_sem, List.take_of_length_le, ren, ren1, ren2, okr, okr1, okr2, ChkT, ChkN, BlkN, nf, machineC])
    have hle : i = S.length := by simp at h; omega
    subst hle
    rw [List.take_of_length_le (by omega), padI_all hcl]
    refine wkc0 _ ?_
    refine Holds.loop (ι := Nat × List Int) (fun i => ⟨[(1, .pb 0 4 0 0), (4, .im 1 (intss S)), (5, .im 1 (intss X)), (6, .own 1 1 0 S.length), (9, .v (.int .i64 i.1))], [(1, ⟨3, 1, ints i.2⟩), (0, ⟨42, 4, [machineC m]⟩)], 2⟩)
      (fun i => LI X S.length L i.1 i.2) (fun i => 65 - i.1) (0, cls0 m S) hLI ?_ ?_
    · exact Cov.ofn (id) rfl (by simp [go_sem, List.take_of_length_le, ren, ren1, ren2, okr, okr1, okr2, ChkT, ChkN, BlkN, nf, machineC]) (by simp [go_sem, List.take_of_length_le, ren, ren1, ren2, okr, okr1, okr2, ChkT, ChkN, BlkN, nf, machineC])
    rintro ⟨many, C⟩ hI
    dsimp only at hI ⊢
    have hCl := hI.ln
    have hml := hI.le
    refine wkc (And.intro @hn0 (And.intro @hn8 (@hn1))) _ ?_
    refine Holds.niw 10 26 1 rfl ?_
    refine Holds.loop (ι := Nat) (fun i => ⟨[(1, .pb 0 4 0 0), (4, .im 1 (intss S)), (5, .im 1 (intss X)), (6, .own 1 1 0 S.length), (9, .v (.int .i64 many)), (10, .own 3 1 0 (rndS C X i).1.length), (11, .own 2 1 0 S.length), (47, .im 1 (intss S)), (48, .v (.int .i64 S.length)), (49, .v (.int .i64 i))],
        [(1, ⟨3, 1, ints C⟩), (2, ⟨3, 1, ints (padI (rndS C X i).2 S.length)⟩), (3, ⟨26, 1, intss (rndS C X i).1⟩), (0, ⟨42, 4, [machineC m]⟩)], 4⟩)
      (fun i => i ≤ S.length) (fun i => S.length - i) 0 (Nat.zero_le _) ?_ ?_
    · exact Cov.ofn (id) rfl (by simp [go_sem, List.take_of_length_le, ren, ren1, ren2, okr, okr1, okr2, ChkT, ChkN, BlkN, nf, niw, machineC, rndS, padI_nil, show intss [] = [] from rfl]) (by simp [go_sem, List.take_of_length_le, ren, ren1, ren2, okr, okr1, okr2, ChkT, ChkN, BlkN, nf, niw, machineC, rndS, padI_nil, show intss [] = [] from rfl])
    intro i hi
    have stepi : wr64 ((i : Int) + 1) = ((i + 1 : Nat) : Int) := wr64_id (by omega) (by omega)
    have hR := rndS_ok C X i
    have hnx := rndS_next C X i
    refine wkc0 _ ?_
    refine Holds.cond rfl (fun h => ?_) (fun h => ?_)
    · have hlt : i < S.length := by simp at h; omega
      have hltC : i < C.length := by omega
      have hltX : i < X.length := by omega
      have hci : C[i]? = some C[i] := List.getElem?_eq_getElem hltC
      have hxi : X[i]? = some X[i] := List.getElem?_eq_getElem hltX
      obtain ⟨hrl, hrr⟩ := hrows _ (List.getElem_mem hltX)
      have hka : keyAt C X i = C[i] :: keyTail C X[i] := by simp [keyAt, hltC, hltX]
      generalize X[i] = row at hxi hrl hrr hka
      generalize C[i] = c0 at hci hka
      have hrl4 : row.length ≤ 4 := by omega
      simp only [putK] at hnx
      have hkR := hR.kl
      have hlR := hR.ln
      have hnd := hR.nd
      have hkL : ∀ s ∈ (rndS C X i).1, s.length ≤ 7 := fun s hs => by
        obtain ⟨i', _, rfl⟩ := hR.from_ s hs
        exact keyAt_len C (fun r hr => by have := (hrows r hr).1; omega) i'
      clear hR
      generalize hP : (rndS C X i).1 = K at *
      generalize hQ : (rndS C X i).2 = F at *
      refine wkc (And.intro @hlt (And.intro (@get_E _ _ _ _ hci) (And.intro @hci (And.intro @hltC (And.intro (@get_E _ _ _ _ hxi) (And.intro @hxi (And.intro @hltX (@intsC.eq_1)))))))) _ ?_
      refine Holds.loop (ι := Nat) (fun j => ⟨[(1, .pb 0 4 0 0), (4, .im 1 (intss S)), (5, .im 1 (intss X)), (6, .own 1 1 0 S.length), (9, .v (.int .i64 many)), (10, .own 3 1 0 K.length), (11, .own 2 1 0 S.length), (12, .v (.int .i64 i)), (13, .own 4 1 0 ((keyTail C (row.take j)).length + 1)), (47, .im 1 (intss S)), (48, .v (.int .i64 S.length)), (49, .v (.int .i64 i)), (60, .im 1 (ints row)), (61, .v (.int .i64 row.length)), (62, .v (.int .i64 j))],
          [(1, ⟨3, 1, ints C⟩), (2, ⟨3, 1, ints (padI F S.length)⟩), (3, ⟨26, 1, intss K⟩), (4, ⟨3, 1, ints (c0 :: keyTail C (row.take j))⟩), (0, ⟨42, 4, [machineC m]⟩)], 5⟩)
        (fun j => j ≤ row.length) (fun j => row.length - j) 0 (Nat.zero_le _) ?_ ?_
      · exact Cov.ofn (id) rfl (by simp [go_sem, List.take_of_length_le, ren, ren1, ren2, okr, okr1, okr2, ChkT, ChkN, BlkN, nf, machineC, keyTail, show ∀ c, ints [c] = [[.v (.int .i64 c)]] from fun _ => rfl]) (by simp [go_sem, List.take_of_length_le, ren, ren1, ren2, okr, okr1, okr2, ChkT, ChkN, BlkN, nf, machineC, keyTail, show ∀ c, ints [c] = [[.v (.int .i64 c)]] from fun _ => rfl])
      intro j hj
      have stepj : wr64 ((j : Int) + 1) = ((j + 1 : Nat) : Int) := wr64_id (by omega) (by omega)
      refine wkc0 _ ?_
      refine Holds.cond rfl (fun h => ?_) (fun h => ?_)
      · have hlt2 : j < row.length := by simp at h; omega
        have hrj : row[j]? = some row[j] := List.getElem?_eq_getElem hlt2
        have hrr2 := hrr _ (List.getElem_mem hlt2)
        obtain ⟨k, hk⟩ : ∃ k : Nat, row[j] = (k : Int) := ⟨row[j].toNat, by omega⟩
        rw [hk] at hrj hrr2
        have hkS : k < S.length := by omega
        have hkC : k < C.length := by omega
        have hkx : C[k]? = some C[k] := List.getElem?_eq_getElem hkC
        generalize C[k] = x at hkx
        have hks := keyTail_snoc hrj hkx
        have hktl : (keyTail C (row.take j)).length = j := by simp [keyTail]; omega
        have hb : (j + 1 + 1) * 8 ≤ 140737488355328 := by omega
        refine wkc (And.intro (@get_E _ _ _ _ hrj) (And.intro @hrj (And.intro @hlt2 (And.intro (@get_E _ _ _ _ hkx) (And.intro @hkx (And.intro @hkC (And.intro @hkS (And.intro @hktl (@hb))))))))) _ ?_
        refine ⟨j + 1, by omega, by omega, ?_⟩
        rw [stepj, hks]
        exact Cov.ofn (nm [0, 1, 2, 3, 7]) rfl (by simp [go_sem, List.take_of_length_le, ren, ren1, ren2, okr, okr1, okr2, ChkT, ChkN, BlkN, nf, machineC, ints_snoc, hktl]) (by simp [go_sem, List.take_of_length_le, ren, ren1, ren2, okr, okr1, okr2, ChkT, ChkN, BlkN, nf, machineC, ints_snoc, hktl])
      · have hle2 : j = row.length := by simp at h; omega
        subst hle2
        rw [List.take_length, ← hka]
        have hkl : (keyTail C row).length + 1 = (keyAt C X i).length := by rw [hka]; rfl
        rw [hkl]
        have hk7 := keyAt_len C (next := X) (fun r hr => by have := (hrows r hr).1; omega) i
        generalize keyAt C X i = s at hnx hk7 ⊢
        refine Holds.frz [4] [(13, .im 1 (ints s))] (.cons rfl (Fz.all rfl rfl (by simp) rfl (ints_cl _)) .nil) ?_
        refine wkc (@frz.eq_1) _ ?_
        refine Holds.loop (ι := Nat × Int) (fun i' => ⟨[(1, .pb 0 4 0 0), (4, .im 1 (intss S)), (5, .im 1 (intss X)), (6, .own 1 1 0 S.length), (9, .v (.int .i64 many)), (10, .own 3 1 0 K.length), (11, .own 2 1 0 S.length), (12, .v (.int .i64 i)), (13, .im 1 (ints s)), (16, .v (.int .i64 i'.2)), (47, .im 1 (intss S)), (48, .v (.int .i64 S.length)), (49, .v (.int .i64 i)), (74, .own 3 1 0 K.length), (75, .v (.int .i64 K.length)), (76, .v (.int .i64 i'.1))],
            [(1, ⟨3, 1, ints C⟩), (2, ⟨3, 1, ints (padI F S.length)⟩), (3, ⟨26, 1, intss K⟩), (0, ⟨42, 4, [machineC m]⟩)], 5⟩)
          (fun i' => i'.1 ≤ K.length ∧ lastQ K s i'.1 i'.2) (fun i' => K.length - i'.1) (0, -1) ⟨Nat.zero_le _, .inl ⟨rfl, fun j hj => absurd hj (Nat.not_lt_zero j)⟩⟩ ?_ ?_
        · exact Cov.ofn (id) rfl (by simp [go_sem, List.take_of_length_le, ren, ren1, ren2, okr, okr1, okr2, ChkT, ChkN, BlkN, nf, frz, machineC]) (by simp [go_sem, List.take_of_length_le, ren, ren1, ren2, okr, okr1, okr2, ChkT, ChkN, BlkN, nf, frz, machineC])
        rintro ⟨q, a⟩ ⟨hq0, hq⟩
        dsimp only at hq0 hq ⊢
        have stepq : wr64 ((q : Int) + 1) = ((q + 1 : Nat) : Int) := wr64_id (by omega) (by omega)
        refine wkc0 _ ?_
        refine Holds.cond rfl (fun h => ?_) (fun h => ?_)
        · have hlt3 : q < K.length := by simp at h; omega
          have hxq : K[q]? = some K[q] := List.getElem?_eq_getElem hlt3
          have hxo := hkL _ (List.getElem_mem hlt3)
          generalize K[q] = x at hxq hxo
          have cs := l1Same x s (by omega)
          have hst := lastQ_step hq hxq
          refine wkc (And.intro (@get_E _ _ _ _ hxq) (And.intro @hxq (And.intro @hlt3 (@intsC.eq_1)))) _ ?_
          refine GS.cc (cs) rfl rfl rfl rfl (by simp [go_sem, List.take_of_length_le] <;> with_reducible rfl) rfl (by simp [go_sem, List.take_of_length_le]) ?_
          by_cases hxs : x = s
          · rw [if_pos hxs] at hst
            refine wkc (@hxs) _ ?_
            refine ⟨(q + 1, (q : Int)), ⟨by dsimp only; omega, hst⟩, by dsimp only; omega, ?_⟩
            rw [stepq]
            exact Cov.ofn (id) rfl (by simp [go_sem, List.take_of_length_le, ren, ren1, ren2, okr, okr1, okr2, ChkT, ChkN, BlkN, nf, machineC]) (by simp [go_sem, List.take_of_length_le, ren, ren1, ren2, okr, okr1, okr2, ChkT, ChkN, BlkN, nf, machineC])
          · rw [if_neg hxs] at hst
            refine wkc (@hxs) _ ?_
            refine ⟨(q + 1, a), ⟨by dsimp only; omega, hst⟩, by dsimp only; omega, ?_⟩
            rw [stepq]
            exact Cov.ofn (id) rfl (by simp [go_sem, List.take_of_length_le, ren, ren1, ren2, okr, okr1, okr2, ChkT, ChkN, BlkN, nf, machineC]) (by simp [go_sem, List.take_of_length_le, ren, ren1, ren2, okr, okr1, okr2, ChkT, ChkN, BlkN, nf, machineC])
        · have hle3 : q = K.length := by simp at h; omega
          subst hle3
          have ha := lastQ_end hnd hq
          subst ha
          have hb1 : (K.length + 1) * 24 ≤ 140737488355328 := by omega
          have hpl : (padI F S.length).length = S.length := padI_len (by omega)
          have hps := padI_set (xs := F) (n := S.length) (by omega)
          rw [hlR] at hps
          by_cases hneg : plS K s < 0
          · simp only [addS, atS, hneg, if_true] at hnx
            refine wkc (And.intro @hneg (And.intro @hb1 (And.intro @hpl (@hlt)))) _ ?_
            refine ⟨i + 1, by omega, by omega, ?_⟩
            rw [hnx, stepi]
            exact Cov.ofn (nm [0, 1, 2, 7]) rfl (by simp [go_sem, List.take_of_length_le, ren, ren1, ren2, okr, okr1, okr2, ChkT, ChkN, BlkN, nf, machineC, intss_snoc, hps]) (by simp [go_sem, List.take_of_length_le, ren, ren1, ren2, okr, okr1, okr2, ChkT, ChkN, BlkN, nf, machineC, intss_snoc, hps])
          · simp only [addS, atS, hneg, if_false] at hnx
            refine wkc (And.intro @hneg (And.intro @hpl (@hlt))) _ ?_
            refine ⟨i + 1, by omega, by omega, ?_⟩
            rw [hnx, stepi]
            exact Cov.ofn (id) rfl (by simp [go_sem, List.take_of_length_le, ren, ren1, ren2, okr, okr1, okr2, ChkT, ChkN, BlkN, nf, machineC, hps]) (by simp [go_sem, List.take_of_length_le, ren, ren1, ren2, okr, okr1, okr2, ChkT, ChkN, BlkN, nf, machineC, hps])
    · have hle2 : i = S.length := by simp at h; omega
      subst hle2
      rw [padI_all hR.ln]
      by_cases he : (rndS C X S.length).1.length = many
      · have he' : ((rndS C X S.length).1.length : Int) = many := by omega
        rw [hI.end hfew he]
        refine wkc (And.intro @he' (@he)) _ ?_
        refine Out.mk (xs := ?_) ?_ ?_ (by first | exact .inr rfl | exact .inl rfl)
        rotate_left
        · simp [go_sem, List.take_of_length_le] <;> with_reducible rfl
        exact Fz.tuL (.cons (.v _) (.cons (.v _) .nil))
      · have he' : ¬ ((rndS C X S.length).1.length : Int) = many := by omega
        have hst := hI.step hfew he
        have hFl := hR.ln
        generalize (rndS C X S.length).1 = K at *
        generalize (rndS C X S.length).2 = F at *
        have he2 : ¬ K.length = many := by omega
        refine wkc (And.intro @he' (@he2)) _ ?_
        refine ⟨(K.length, F), hst.2, by dsimp only; omega, ?_⟩
        exact Cov.ofn (nm [0, 2]) rfl (by simp [go_sem, List.take_of_length_le, ren, ren1, ren2, okr, okr1, okr2, ChkT, ChkN, BlkN, nf, machineC]) (by simp [go_sem, List.take_of_length_le, ren, ren1, ren2, okr, okr1, okr2, ChkT, ChkN, BlkN, nf, machineC])
end Go.Proofs.Ytejpklajfcngbaa.En
end
section
namespace Go.Proofs.Ytejpklajfcngbaa.En
open Go.RowKit
set_option linter.unusedSimpArgs false
set_option linter.unusedVariables false
set_option maxHeartbeats 8000000
theorem least1 (o s : List Int) (ho : o.length < 4611686018427387904) : Pure Try.prog 53 [.im 1 (ints o), .pi [.im 1 (ints s)]] (.v (.bool (decide (o = s)))) := by
  refine Pure.mk (rs := [.tmp 3]) (nt := 7) Try.func53 (by kernel_rfl) rfl rfl rfl (by simp) ?_
  simp only [sl]
  have c := equalInts o s ho
  refine wkc0 _ ?_
  refine GS.cc (c) rfl rfl rfl rfl (by simp [go_sem, List.take_of_length_le] <;> with_reducible rfl) rfl (by simp [go_sem, List.take_of_length_le]) ?_
  refine wkc0 _ ?_
  refine Out.mk (xs := ?_) ?_ ?_ (by first | exact .inr rfl | exact .inl rfl)
  rotate_left
  · simp [go_sem, List.take_of_length_le] <;> with_reducible rfl
  exact .v _
theorem implLeast (m : MachineT) (hx : m.2.2.1.length ≤ 1048576) (hs : ∀ e ∈ m.2.2.1, e.length < 4611686018427387904) (hy : m.2.2.2.length ≤ 1048576) : Pure Try.prog 20 [.ag (machineC m)] (.tu [.v (.int .i64 (leastV m).1), .v (.bool (leastV m).2)]) := by
  refine Pure.mk (rs := [.tmp 2, .tmp 3]) (nt := 95) Try.func20 (by kernel_rfl) rfl rfl rfl (by simp) ?_
  simp only [sl, machineC]
  have c1 := implGoodX m (by omega) hs (by omega)
  simp only [machineC] at c1
  unfold leastV
  refine wkdc0 _ ?_
  cases hg : goodM m with
  | false =>
    rw [hg] at c1
    first | refine GS.cc (c1) rfl rfl rfl rfl (by simp [go_sem, List.take_of_length_le] <;> with_reducible rfl) rfl (by simp [go_sem, List.take_of_length_le]) ?_ | refine Gd.cc (c1) rfl rfl rfl rfl (by simp [go_sem, List.take_of_length_le] <;> with_reducible rfl) rfl (by simp [go_sem, List.take_of_length_le]) ?_
    refine wkdc0 _ ?_
    refine Out.mk (xs := ?_) ?_ ?_ (by first | exact .inr rfl | exact .inl rfl)
    rotate_left
    · simp [go_sem, List.take_of_length_le] <;> with_reducible rfl
    exact Fz.tuL (.cons (.v _) (.cons (.v _) .nil))
  | true =>
    rw [hg] at c1
    have c2 := (implSets m hg hx).pure (r' := .tu [.im 1 (intss (setsM m).1), .im 1 (intss (setsM m).2)]) (Fz.tuL (.cons (fz_intssO _ rfl rfl) (.cons (fz_intssO _ rfl rfl) .nil)))
    have hO := setsM_ok hg
    have hLI := LI.zero m
    simp only [machineC] at c2
    first | refine GS.cc (c1) rfl rfl rfl rfl (by simp [go_sem, List.take_of_length_le] <;> with_reducible rfl) rfl (by simp [go_sem, List.take_of_length_le]) ?_ | refine Gd.cc (c1) rfl rfl rfl rfl (by simp [go_sem, List.take_of_length_le] <;> with_reducible rfl) rfl (by simp [go_sem, List.take_of_length_le]) ?_
    refine wkdc0 _ ?_
    first | refine GS.cc (c2) rfl rfl rfl rfl (by simp [go_sem, List.take_of_length_le] <;> with_reducible rfl) rfl (by simp [go_sem, List.take_of_length_le]) ?_ | refine Gd.cc (c2) rfl rfl rfl rfl (by simp [go_sem, List.take_of_length_le] <;> with_reducible rfl) rfl (by simp [go_sem, List.take_of_length_le]) ?_
    have hce : ∀ s ∈ (setsM m).1, Pure Try.prog 51 [.ag (machineC m), .im 1 (ints s)] (.v (.bool (endsV m s))) := fun s hs => implEnds m hy s (by have := okS_len (hO.ok.ok s hs); omega)
    simp only [if_true]
    generalize leastM m = L at hLI ⊢
    have hfew := hO.ok.few
    have hok := hO.ok.ok
    have hrows := hO.rows
    have hXl := hO.ln
    have hTk := good_toks hg
    clear hO
    generalize (setsM m).1 = S at hLI hce hfew hok hrows hXl ⊢
    generalize (setsM m).2 = X at hLI hrows hXl ⊢
    have hcl : (cls0 m S).length = S.length := by simp [cls0]
    have hn0 : (0 : Int) ≤ (S.length : Int) := by omega
    have hn8 : (8 : Int) * S.length ≤ 281474976710656 := by omega
    have hn1 : (S.length : Int) ≤ 281474976710656 := by omega
    have hnf0 : nfr (List.replicate S.length ([.v (.int .i64 0)] : List AV)) := .rep (by simp [nf])
    refine wkdc (And.intro @hn0 (And.intro @hn8 (@hn1))) _ ?_
    refine Holds.loop (ι := Nat) (fun i => ⟨[(1, .pb 0 4 0 0), (4, .im 1 (intss S)), (5, .im 1 (intss X)), (6, .own 1 1 0 S.length), (28, .im 1 (intss S)), (29, .v (.int .i64 S.length)), (30, .v (.int .i64 i))], [(1, ⟨3, 1, ints (padI ((cls0 m S).take i) S.length)⟩), (0, ⟨42, 4, [machineC m]⟩)], 2⟩)
      (fun i => i ≤ S.length) (fun i => S.length - i) 0 (Nat.zero_le _) ?_ ?_
    · exact Cov.ofn (id) rfl (by simp [go_sem, List.take_of_length_le, ren, ren1, ren2, okr, okr1, okr2, ChkT, ChkN, BlkN, nf, machineC, padI_nil]) (by simp [go_sem, List.take_of_length_le, ren, ren1, ren2, okr, okr1, okr2, ChkT, ChkN, BlkN, nf, machineC, padI_nil])
    intro i hi
    have stepi : wr64 ((i : Int) + 1) = ((i + 1 : Nat) : Int) := wr64_id (by omega) (by omega)
    have htl : ((cls0 m S).take i).length = i := by rw [List.length_take]; omega
    refine wkdc0 _ ?_
    refine Holds.cond rfl (fun h => ?_) (fun h => ?_)
    · have hlt : i < S.length := by simp at h; omega
      have hxi : S[i]? = some S[i] := List.getElem?_eq_getElem hlt
      have ce := hce _ (List.getElem_mem hlt)
      generalize S[i] = s at hxi ce
      have hat := cls0_at (m := m) hxi
      have hpl : (padI ((cls0 m S).take i) S.length).length = S.length := padI_len (by omega)
      have hps := padI_set (xs := (cls0 m S).take i) (n := S.length) (by omega)
      have hpk := padI_skip (xs := (cls0 m S).take i) (n := S.length) (by omega)
      rw [htl] at hps
      refine wkdc (And.intro (@get_E _ _ _ _ hxi) (And.intro @hxi (And.intro @hlt (And.intro @intsC.eq_1 (@machineC.eq_1))))) _ ?_
      first | refine GS.cc (ce) rfl rfl rfl rfl (by simp [go_sem, List.take_of_length_le, machineC] <;> with_reducible rfl) rfl (by simp [go_sem, List.take_of_length_le, machineC]) ?_ | refine Gd.cc (ce) rfl rfl rfl rfl (by simp [go_sem, List.take_of_length_le, machineC] <;> with_reducible rfl) rfl (by simp [go_sem, List.take_of_length_le, machineC]) ?_
      cases he : endsV m s with
      | true =>
        rw [he, if_pos rfl] at hat
        refine wkdc (And.intro @hpl (@hlt)) _ ?_
        refine ⟨i + 1, by omega, by omega, ?_⟩
        rw [stepi, hat]
        exact Cov.ofn (id) rfl (by simp [go_sem, List.take_of_length_le, ren, ren1, ren2, okr, okr1, okr2, ChkT, ChkN, BlkN, nf, machineC, hps]) (by simp [go_sem, List.take_of_length_le, ren, ren1, ren2, okr, okr1, okr2, ChkT, ChkN, BlkN, nf, machineC, hps])
      | false =>
        rw [he, if_neg (by simp)] at hat
        refine wkdc0 _ ?_
        refine ⟨i + 1, by omega, by omega, ?_⟩
        rw [stepi, hat, ← hpk]
        exact Cov.ofn (id) rfl (by simp [go_sem, List.take_of_length_le, ren, ren1, ren2, okr, okr1, okr2, ChkT, ChkN, BlkN, nf, machineC]) (by simp [go_sem, List.take_of_length_le, ren, ren1, ren2, okr, okr1, okr2, ChkT, ChkN, BlkN, nf, machineC])
    have hle : i = S.length := by simp at h; omega
    subst hle
    rw [List.take_of_length_le (by omega), padI_all hcl]
    refine wkdc0 _ ?_
    refine Holds.loop (ι := Nat × List Int) (fun i => ⟨[(1, .pb 0 4 0 0), (4, .im 1 (intss S)), (5, .im 1 (intss X)), (6, .own 1 1 0 S.length), (9, .v (.int .i64 i.1))], [(1, ⟨3, 1, ints i.2⟩), (0, ⟨42, 4, [machineC m]⟩)], 2⟩)
      (fun i => LI X S.length L i.1 i.2) (fun i => 65 - i.1) (0, cls0 m S) hLI ?_ ?_
    · exact Cov.ofn (id) rfl (by simp [go_sem, List.take_of_length_le, ren, ren1, ren2, okr, okr1, okr2, ChkT, ChkN, BlkN, nf, machineC]) (by simp [go_sem, List.take_of_length_le, ren, ren1, ren2, okr, okr1, okr2, ChkT, ChkN, BlkN, nf, machineC])
    rintro ⟨many, C⟩ hI
    dsimp only at hI ⊢
    have hCl := hI.ln
    have hml := hI.le
    refine wkdc0 _ ?_
    refine Holds.loop (ι := Nat) (fun i => ⟨[(1, .pb 0 4 0 0), (4, .im 1 (intss S)), (5, .im 1 (intss X)), (6, .own 1 1 0 S.length), (9, .v (.int .i64 many)), (10, .own 2 1 0 (rndS C X i).1.length), (11, .own 3 1 0 (rndS C X i).2.length), (45, .v (.int .i64 S.length)), (46, .v (.int .i64 i))],
        [(1, ⟨3, 1, ints C⟩), (2, ⟨26, 1, intssO (rndS C X i).1⟩), (3, ⟨3, 1, ints (rndS C X i).2⟩), (0, ⟨42, 4, [machineC m]⟩)], 4⟩)
      (fun i => i ≤ S.length) (fun i => S.length - i) 0 (Nat.zero_le _) ?_ ?_
    · exact Cov.ofn (id) rfl (by simp [go_sem, List.take_of_length_le, ren, ren1, ren2, okr, okr1, okr2, ChkT, ChkN, BlkN, nf, machineC, rndS, show ints [] = [] from rfl, show intssO [] = [] from rfl]) (by simp [go_sem, List.take_of_length_le, ren, ren1, ren2, okr, okr1, okr2, ChkT, ChkN, BlkN, nf, machineC, rndS, show ints [] = [] from rfl, show intssO [] = [] from rfl])
    intro i hi
    have stepi : wr64 ((i : Int) + 1) = ((i + 1 : Nat) : Int) := wr64_id (by omega) (by omega)
    have hR := rndS_ok C X i
    have hnx := rndS_next C X i
    refine wkdc0 _ ?_
    refine Holds.cond rfl (fun h => ?_) (fun h => ?_)
    · have hlt : i < S.length := by simp at h; omega
      have hltC : i < C.length := by omega
      have hltX : i < X.length := by omega
      have hci : C[i]? = some C[i] := List.getElem?_eq_getElem hltC
      have hxi : X[i]? = some X[i] := List.getElem?_eq_getElem hltX
      obtain ⟨hrl, hrr⟩ := hrows _ (List.getElem_mem hltX)
      have hka : keyAt C X i = C[i] :: keyTail C X[i] := by simp [keyAt, hltC, hltX]
      generalize X[i] = row at hxi hrl hrr hka
      generalize C[i] = c0 at hci hka
      have hrl4 : row.length ≤ 4 := by omega
      simp only [putK] at hnx
      have hkR := hR.kl
      have hlR := hR.ln
      have hnd := hR.nd
      have hkL : ∀ s ∈ (rndS C X i).1, s.length ≤ 7 := fun s hs => by
        obtain ⟨i', _, rfl⟩ := hR.from_ s hs
        exact keyAt_len C (fun r hr => by have := (hrows r hr).1; omega) i'
      clear hR
      generalize hP : (rndS C X i).1 = K at *
      generalize hQ : (rndS C X i).2 = F at *
      refine wkdc (And.intro @hlt (And.intro (@get_E _ _ _ _ hci) (And.intro @hci (And.intro @hltC (And.intro (@get_E _ _ _ _ hxi) (And.intro @hxi (And.intro @hltX (@intsC.eq_1)))))))) _ ?_
      refine Holds.loop (ι := Nat) (fun j => ⟨[(1, .pb 0 4 0 0), (4, .im 1 (intss S)), (5, .im 1 (intss X)), (6, .own 1 1 0 S.length), (9, .v (.int .i64 many)), (10, .own 2 1 0 K.length), (11, .own 3 1 0 F.length), (12, .v (.int .i64 i)), (13, .pb 5 1 0 0), (45, .v (.int .i64 S.length)), (46, .v (.int .i64 i)), (57, .im 1 (ints row)), (58, .v (.int .i64 row.length)), (59, .v (.int .i64 j))],
          [(1, ⟨3, 1, ints C⟩), (2, ⟨26, 1, intssO K⟩), (3, ⟨3, 1, ints F⟩), (4, ⟨3, 1, ints (c0 :: keyTail C (row.take j))⟩), (5, ⟨26, 1, [[.own 4 1 0 ((keyTail C (row.take j)).length + 1)]]⟩), (0, ⟨42, 4, [machineC m]⟩)], 6⟩)
        (fun j => j ≤ row.length) (fun j => row.length - j) 0 (Nat.zero_le _) ?_ ?_
      · exact Cov.ofn (id) rfl (by simp [go_sem, List.take_of_length_le, ren, ren1, ren2, okr, okr1, okr2, ChkT, ChkN, BlkN, nf, machineC, keyTail, show ∀ c, ints [c] = [[.v (.int .i64 c)]] from fun _ => rfl]) (by simp [go_sem, List.take_of_length_le, ren, ren1, ren2, okr, okr1, okr2, ChkT, ChkN, BlkN, nf, machineC, keyTail, show ∀ c, ints [c] = [[.v (.int .i64 c)]] from fun _ => rfl])
      intro j hj
      have stepj : wr64 ((j : Int) + 1) = ((j + 1 : Nat) : Int) := wr64_id (by omega) (by omega)
      refine wkdc0 _ ?_
      refine Holds.cond rfl (fun h => ?_) (fun h => ?_)
      · have hlt2 : j < row.length := by simp at h; omega
        have hrj : row[j]? = some row[j] := List.getElem?_eq_getElem hlt2
        have hrr2 := hrr _ (List.getElem_mem hlt2)
        obtain ⟨k, hk⟩ : ∃ k : Nat, row[j] = (k : Int) := ⟨row[j].toNat, by omega⟩
        rw [hk] at hrj hrr2
        have hkS : k < S.length := by omega
        have hkC : k < C.length := by omega
        have hkx : C[k]? = some C[k] := List.getElem?_eq_getElem hkC
        generalize C[k] = x at hkx
        have hks := keyTail_snoc hrj hkx
        have hktl : (keyTail C (row.take j)).length = j := by simp [keyTail]; omega
        have hb : (j + 1 + 1) * 8 ≤ 140737488355328 := by omega
        refine wkdsc (And.intro (@get_E _ _ _ _ hrj) (And.intro @hrj (@hlt2))) _ ?_
        refine Holds.anx [5, 1006, 1007] [0] (fun n => decide (6 ≤ n)) mixed ?_ ?_ ?_; (· kernel_rfl); (· kernel_rfl)
        refine wkdasc (And.intro (@get_E _ _ _ _ hrj) (And.intro @hrj (And.intro @hlt2 (And.intro (@get_E _ _ _ _ hkx) (And.intro @hkx (And.intro @hkC (And.intro @hkS (And.intro @hktl (@hb))))))))) _ ?_
        refine ⟨j + 1, by omega, by omega, ?_⟩
        rw [stepj, hks]
        exact Cov.ofn (nm [0, 1, 2, 3, 8, 5]) rfl (by simp [go_sem, List.take_of_length_le, ren, ren1, ren2, okr, okr1, okr2, ChkT, ChkN, BlkN, nf, machineC, ints_snoc, hktl]) (by simp [go_sem, List.take_of_length_le, ren, ren1, ren2, okr, okr1, okr2, ChkT, ChkN, BlkN, nf, machineC, ints_snoc, hktl])
      · have hle2 : j = row.length := by simp at h; omega
        subst hle2
        rw [List.take_length, ← hka]
        have hkl : (keyTail C row).length + 1 = (keyAt C X i).length := by rw [hka]; rfl
        rw [hkl]
        have hk7 := keyAt_len C (next := X) (fun r hr => by have := (hrows r hr).1; omega) i
        generalize keyAt C X i = s at hnx hk7 ⊢
        have ci := indexFuncIntS 53 [.pi [.im 1 (ints s)]] (fun o => decide (o = s)) K (by omega) rfl (fun x hx => least1 x s (by have := hkL x hx; omega))
        rw [show fstP (fun o => decide (o = s)) K 0 = plS K s from rfl] at ci
        refine wkdac0 _ ?_
        first | refine GS.cd (ci) rfl rfl rfl rfl (by simp [go_sem, List.take_of_length_le] <;> with_reducible rfl) rfl (by exact .cons (fz_intssO _ rfl rfl) (.cons (Fz.fnL (.cons (Fz.pbM rfl rfl rfl (.cons (Fz.all rfl rfl (by simp) rfl (ints_cl _)) .nil)) .nil)) .nil)) rfl ?_ | refine Gd.cd (ci) rfl rfl rfl rfl (by simp [go_sem, List.take_of_length_le] <;> with_reducible rfl) rfl (by exact .cons (fz_intssO _ rfl rfl) (.cons (Fz.fnL (.cons (Fz.pbM rfl rfl rfl (.cons (Fz.all rfl rfl (by simp) rfl (ints_cl _)) .nil)) .nil)) .nil)) rfl ?_ | refine Gx.cd (ci) rfl rfl rfl rfl rfl (by simp [go_sem, List.take_of_length_le] <;> with_reducible rfl) rfl (by exact .cons (fz_intssO _ rfl rfl) (.cons (Fz.fnL (.cons (Fz.pbM rfl rfl rfl (.cons (Fz.all rfl rfl (by simp) rfl (ints_cl _)) .nil)) .nil)) .nil)) rfl ?_
        have hb1 : (K.length + 1) * 24 ≤ 140737488355328 := by omega
        have hb2 : (F.length + 1) * 8 ≤ 140737488355328 := by omega
        by_cases hneg : plS K s < 0
        · simp only [addS, atS, hneg, if_true] at hnx
          refine wkdac (And.intro @hneg (And.intro @hb1 (@hb2))) _ ?_
          refine ⟨i + 1, by omega, by omega, ?_⟩
          rw [hnx, stepi]
          refine Cov.trans ?_ (Cov.close 8 K.length 0 rfl (oAt K _) rfl rfl rfl rfl (by simp) (by simp))
          simp only [rm, st, List.set_set]
          exact Cov.ofn (nm [0, 1, 8, 11]) rfl (by simp [go_sem, List.take_of_length_le, ren, ren1, ren2, okr, okr1, okr2, ChkT, ChkN, BlkN, nf, machineC, oSnoc, oApp, ints_snoc]) (by simp [go_sem, List.take_of_length_le, ren, ren1, ren2, okr, okr1, okr2, ChkT, ChkN, BlkN, nf, machineC, oSnoc, oApp, ints_snoc])
        · simp only [addS, atS, hneg, if_false] at hnx
          refine wkdac (And.intro @hneg (And.intro @hb1 (@hb2))) _ ?_
          refine ⟨i + 1, by omega, by omega, ?_⟩
          rw [hnx, stepi]
          exact Cov.ofn (nm [0, 1, 2, 8]) rfl (by simp [go_sem, List.take_of_length_le, ren, ren1, ren2, okr, okr1, okr2, ChkT, ChkN, BlkN, nf, machineC, ints_snoc]) (by simp [go_sem, List.take_of_length_le, ren, ren1, ren2, okr, okr1, okr2, ChkT, ChkN, BlkN, nf, machineC, ints_snoc])
    · have hle2 : i = S.length := by simp at h; omega
      subst hle2
      by_cases he : (rndS C X S.length).1.length = many
      · have he' : ((rndS C X S.length).1.length : Int) = many := by omega
        rw [hI.end hfew he]
        refine wkdac (And.intro @he' (@he)) _ ?_
        refine Out.mk (xs := ?_) ?_ ?_ (by first | exact .inr rfl | exact .inl rfl)
        rotate_left
        · simp [go_sem, List.take_of_length_le] <;> with_reducible rfl
        exact Fz.tuL (.cons (.v _) (.cons (.v _) .nil))
      · have he' : ¬ ((rndS C X S.length).1.length : Int) = many := by omega
        have hst := hI.step hfew he
        have hFl := hR.ln
        generalize (rndS C X S.length).1 = K at *
        generalize (rndS C X S.length).2 = F at *
        have he2 : ¬ K.length = many := by omega
        refine wkdac (And.intro @he' (@he2)) _ ?_
        refine ⟨(K.length, F), hst.2, by dsimp only; omega, ?_⟩
        exact Cov.ofn (nm [0, 3]) rfl (by simp [go_sem, List.take_of_length_le, ren, ren1, ren2, okr, okr1, okr2, ChkT, ChkN, BlkN, nf, machineC, hFl]) (by simp [go_sem, List.take_of_length_le, ren, ren1, ren2, okr, okr1, okr2, ChkT, ChkN, BlkN, nf, machineC, hFl])
end Go.Proofs.Ytejpklajfcngbaa.En
end
section
namespace Go.Proofs.Ytejpklajfcngbaa.En
open Go.RowKit
set_option linter.unusedSimpArgs false
set_option linter.unusedVariables false
set_option maxHeartbeats 8000000
theorem sameListsE (a : List (List Int)) (ha : a.length ≤ 1000000) (he : ∀ e ∈ a, e.length ≤ 1000000) : Pure Try.prog 22 [.im 1 (intss a), .im 1 (intss a)] (.v (.bool true)) := by
  refine Pure.mk (rs := [.tmp 4]) (nt := 27) Try.func22 (by kernel_rfl) rfl rfl rfl (by simp) ?_
  simp only [sl]
  refine wkdc0 _ ?_
  refine Holds.loop (ι := Nat) (fun i => ⟨[(0, .im 1 (intss a)), (1, .im 1 (intss a)), (12, .v (.int .i64 a.length)), (13, .v (.int .i64 i))], [], 0⟩)
    (fun i => i ≤ a.length) (fun i => a.length - i) 0 (Nat.zero_le _) ?_ ?_
  · exact Cov.ofn (id) rfl (by simp [go_sem, List.take_of_length_le, ren, ren1, ren2, okr, okr1, okr2, ChkT, ChkN, BlkN, nf]) (by simp [go_sem, List.take_of_length_le, ren, ren1, ren2, okr, okr1, okr2, ChkT, ChkN, BlkN, nf])
  intro i hi
  have stepi : wr64 ((i : Int) + 1) = ((i + 1 : Nat) : Int) := wr64_id (by omega) (by omega)
  refine wkdc0 _ ?_
  refine Holds.cond rfl (fun h => ?_) (fun h => ?_)
  · have hib : i < a.length := by simpa using h
    obtain ⟨x, hx⟩ : ∃ x, a[i]? = some x := ⟨_, List.getElem?_eq_getElem hib⟩
    have hit : intsC x = [.im 1 (ints x)] := rfl
    have hxl := he x (List.mem_of_getElem? hx)
    have cs := sameInts x x hxl hxl
    rw [decide_eq_true rfl] at cs
    refine wkdsc0 _ ?_
    (refine Holds.any mixed ?_ ?_; (· kernel_rfl))
    refine wkdsc (And.intro @hib (And.intro @hx (And.intro (@get_E _ _ _ _ hx) (@hit)))) _ ?_
    first | refine GS.cc (cs) rfl rfl rfl rfl (by simp [go_sem, List.take_of_length_le] <;> with_reducible rfl) rfl (by simp [go_sem, List.take_of_length_le]) ?_ | refine Gd.cc (cs) rfl rfl rfl rfl (by simp [go_sem, List.take_of_length_le] <;> with_reducible rfl) rfl (by simp [go_sem, List.take_of_length_le]) ?_
    refine wkdc0 _ ?_
    refine ⟨i + 1, by omega, by omega, ?_⟩
    rw [stepi]
    exact Cov.ofn (id) rfl (by simp [go_sem, List.take_of_length_le, ren, ren1, ren2, okr, okr1, okr2, ChkT, ChkN, BlkN, nf]) (by simp [go_sem, List.take_of_length_le, ren, ren1, ren2, okr, okr1, okr2, ChkT, ChkN, BlkN, nf])
  · refine wkdc0 _ ?_
    refine Out.mk (xs := ?_) ?_ ?_ (by first | exact .inr rfl | exact .inl rfl)
    rotate_left
    · simp [go_sem, List.take_of_length_le] <;> with_reducible rfl
    exact .v _
theorem hasF (l : List Int) (k : Int) (hl : l.length ≤ 1000000) : Pure Try.prog 24 [.im 1 (ints l), .v (.int .i64 k)] (.v (.bool (decide (k ∈ l)))) := by
  refine Pure.mk (rs := [.tmp 4]) (nt := 17) Try.func24 (by kernel_rfl) rfl rfl rfl (by simp) ?_
  simp only [sl]
  refine wkc0 _ ?_
  refine Holds.loop (ι := Nat) (fun i => ⟨[(1, .v (.int .i64 k)), (7, .im 1 (ints l)), (8, .v (.int .i64 l.length)), (9, .v (.int .i64 i))], [], 0⟩)
    (fun i => i ≤ l.length ∧ k ∉ l.take i) (fun i => l.length - i) 0 ⟨Nat.zero_le _, by simp⟩ ?_ ?_
  · exact Cov.ofn (id) rfl (by simp [go_sem, List.take_of_length_le, ren, ren1, ren2, okr, okr1, okr2, ChkT, ChkN, BlkN, nf]) (by simp [go_sem, List.take_of_length_le, ren, ren1, ren2, okr, okr1, okr2, ChkT, ChkN, BlkN, nf])
  rintro i ⟨hi, he⟩
  have stepi : wr64 ((i : Int) + 1) = ((i + 1 : Nat) : Int) := wr64_id (by omega) (by omega)
  refine wkc0 _ ?_
  refine Holds.cond rfl (fun h => ?_) (fun h => ?_)
  · have hib : i < l.length := by simpa using h
    obtain ⟨x, hx⟩ : ∃ x, l[i]? = some x := ⟨_, List.getElem?_eq_getElem hib⟩
    by_cases hxk : x = k
    · rw [decide_eq_true (hxk ▸ List.mem_of_getElem? hx)]
      have hb : (x == k) = true := by simp [hxk]
      refine wkc (And.intro @hib (And.intro @hx (And.intro (@get_E _ _ _ _ hx) (@hb)))) _ ?_
      refine Out.mk (xs := ?_) ?_ ?_ (by first | exact .inr rfl | exact .inl rfl)
      rotate_left
      · simp [go_sem, List.take_of_length_le] <;> with_reducible rfl
      exact .v _
    · have hb : (x == k) = false := by simp [hxk]
      refine wkc (And.intro @hib (And.intro @hx (And.intro (@get_E _ _ _ _ hx) (@hb)))) _ ?_
      refine ⟨i + 1, ⟨by omega, ?_⟩, by omega, ?_⟩
      · rw [List.take_add_one, hx]
        simp only [Option.toList_some, List.mem_append, List.mem_singleton]
        rintro (e | e)
        · exact he e
        · exact hxk e.symm
      rw [stepi]
      exact Cov.ofn (id) rfl (by simp [go_sem, List.take_of_length_le, ren, ren1, ren2, okr, okr1, okr2, ChkT, ChkN, BlkN, nf]) (by simp [go_sem, List.take_of_length_le, ren, ren1, ren2, okr, okr1, okr2, ChkT, ChkN, BlkN, nf])
  · have hie : i = l.length := by
      have : ¬ i < l.length := by simpa using h
      omega
    subst hie
    rw [List.take_length] at he
    rw [decide_eq_false he]
    refine wkc0 _ ?_
    refine Out.mk (xs := ?_) ?_ ?_ (by first | exact .inr rfl | exact .inl rfl)
    rotate_left
    · simp [go_sem, List.take_of_length_le] <;> with_reducible rfl
    exact .v _
theorem lawSubsets (code more : List Int) (hc : code.length < 140737488355328) (hm : more.length < 140737488355328) (hb : ∀ b ∈ code, 0 ≤ b ∧ b ≤ 255) (hbm : ∀ b ∈ more, 0 ≤ b ∧ b ≤ 255) : Pure Try.prog 4 [.im 1 (byteRows code), .im 1 (byteRows more)] (.v (.bool true)) := by
  have cbig : Pure Try.prog 16 [.im 1 (byteRows code), .im 1 (byteRows more)] (.v (.bool (decide (1048576 < code.length) || decide (1048576 - (code.length : Int) < (more.length : Int))))) := by
    have hw : wr64 (1048576 - (code.length : Int)) = 1048576 - (code.length : Int) := wr64_id (by omega) (by omega)
    refine Pure.mk (rs := [.tmp 4]) (nt := 16) Try.func16 (by kernel_rfl) rfl rfl rfl (by simp) ?_
    simp only [sl]
    by_cases h1 : 1048576 < code.length
    · have h1i : (1048576 : Int) < (code.length : Int) := by omega
      rw [decide_eq_true h1, Bool.true_or]
      refine wkc (And.intro @h1 (@h1i)) _ ?_
      refine Out.mk (xs := ?_) ?_ ?_ (by first | exact .inr rfl | exact .inl rfl)
      rotate_left
      · simp [go_sem, List.take_of_length_le] <;> with_reducible rfl
      exact .v _
    · have h1i : ¬ (1048576 : Int) < (code.length : Int) := by omega
      rw [decide_eq_false h1, Bool.false_or]
      refine wkc (And.intro @h1 (And.intro @h1i (@hw))) _ ?_
      refine Out.mk (xs := ?_) ?_ ?_ (by first | exact .inr rfl | exact .inl rfl)
      rotate_left
      · simp [go_sem, List.take_of_length_le] <;> with_reducible rfl
      exact .v _
  by_cases hbig : 1048576 < code.length ∨ (1048576 : Int) - (code.length : Int) < (more.length : Int)
  · rw [show (decide (1048576 < code.length) || decide (1048576 - (code.length : Int) < (more.length : Int))) = true by simpa using hbig] at cbig
    refine Pure.mk (rs := [.tmp 4]) (nt := 193) Try.func4 (by kernel_rfl) rfl rfl rfl (by simp) ?_
    simp only [sl]
    refine wkc0 _ ?_
    refine GS.cc (cbig) rfl rfl rfl rfl (by simp [go_sem, List.take_of_length_le] <;> with_reducible rfl) rfl (by simp [go_sem, List.take_of_length_le]) ?_
    refine wkc0 _ ?_
    refine Out.mk (xs := ?_) ?_ ?_ (by first | exact .inr rfl | exact .inl rfl)
    rotate_left
    · simp [go_sem, List.take_of_length_le] <;> with_reducible rfl
    exact .v _
  rw [show (decide (1048576 < code.length) || decide (1048576 - (code.length : Int) < (more.length : Int))) = false by simpa using hbig] at cbig
  have cd := drawTakes code (by omega) hb
  have cd2 := drawLeast more (by omega) hbm
  obtain ⟨ok1, hwl⟩ := drTakes_ok code hb
  have ok2 := (drM_ok more hbm (0, 0)).1
  generalize (drTakes code).1 = m at cd ok1
  generalize (drTakes code).2 = w at cd hwl
  generalize (drM more (0, 0)).1 = m2 at cd2 ok2
  have hpre : ∀ m : MachineT, DrOk m → m.2.2.1.length ≤ 1048576 ∧ (∀ e ∈ m.2.2.1, e.length < 4611686018427387904) ∧ m.2.2.2.length ≤ 1048576 := fun m h => ⟨by have := h.arr; omega, fun e he => by have := h.three e he; omega, by have := h.ends; omega⟩
  obtain ⟨x1, x2, x3⟩ := hpre m ok1
  obtain ⟨y1, y2, y3⟩ := hpre m2 ok2
  have p1 := (implSetsOf m x1 x2 x3).pure (r' := .tu [.im 1 (intss (setsV m).1), .im 1 (intss (setsV m).2.1), .v (.bool (setsV m).2.2)]) (Fz.tuL (.cons (fz_intssO _ rfl rfl) (.cons (fz_intssO _ rfl rfl) (.cons (.v _) .nil))))
  have p2 := specSetsOf m x1 x2 x3
  have p3 := implLeast m x1 x2 x3
  have p4 := specLeast m x1 x2 x3
  have p5 := implTakes m w x1 x2 x3 (by omega)
  have q1 := (implSetsOf m2 y1 y2 y3).pure (r' := .tu [.im 1 (intss (setsV m2).1), .im 1 (intss (setsV m2).2.1), .v (.bool (setsV m2).2.2)]) (Fz.tuL (.cons (fz_intssO _ rfl rfl) (.cons (fz_intssO _ rfl rfl) (.cons (.v _) .nil))))
  have q2 := specSetsOf m2 y1 y2 y3
  have q3 := implLeast m2 y1 y2 y3
  have q4 := specLeast m2 y1 y2 y3
  have hl1 := setsV_len m
  have hl2 := setsV_len m2
  have hnx : ∀ m, ∀ e ∈ (setsV m).2.1, e.length ≤ 1000000 := fun m e he => by have := (setsV_len m).2.2 e he; omega
  have hst : ∀ m, ∀ e ∈ (setsV m).1, e.length ≤ 1000000 := fun m e he => by have := (setsV_len m).2.1 e he; omega
  have s1 := sameListsE (setsV m).1 (by omega) (hst m)
  have s2 := sameListsE (setsV m).2.1 (by omega) (hnx m)
  have s3 := sameListsE (setsV m2).1 (by omega) (hst m2)
  have s4 := sameListsE (setsV m2).2.1 (by omega) (hnx m2)
  have g1 : (setsV m).2.2 = goodM m := by unfold setsV; split <;> simp_all
  have g2 : (leastV m).2 = goodM m := by unfold leastV; split <;> simp_all
  have g3 : (setsV m2).2.2 = goodM m2 := by unfold setsV; split <;> simp_all
  have g4 : (leastV m2).2 = goodM m2 := by unfold leastV; split <;> simp_all
  rw [g1] at p1 p2
  rw [g2] at p3 p4
  rw [g3] at q1 q2
  rw [g4] at q3 q4
  have key : goodM m = true → (takesV m w).2 = true → (takesV m w).1 = endsV m (w.foldl (nextL m) [0]) ∧ wordX m.2.1 w = true := fun h1 h2 => by
    unfold takesV at h2 ⊢
    split at h2
    · rename_i h
      rw [if_pos h]
      simp only [Bool.and_eq_true] at h
      exact ⟨rfl, h.2⟩
    · cases h2
  have hsv : goodM m = true → (setsV m).1 = (setsM m).1 ∧ (setsV m).2.1 = (setsM m).2 ∧ (leastV m).1 = (leastM m : Int) := fun h => by
    unfold setsV leastV; rw [if_pos h, if_pos h]; exact ⟨rfl, rfl, rfl⟩
  clear g1 g2 g3 g4 hnx hst hpre hl2
  generalize (setsV m2).1 = A2 at q1 q2 s3
  generalize (setsV m2).2.1 = B2 at q1 q2 s4
  generalize (leastV m2).1 = L2 at q3 q4
  generalize goodM m2 = k2 at q1 q2 q3 q4
  generalize hA : (setsV m).1 = A at p1 p2 s1 hl1
  generalize hB : (setsV m).2.1 = B at p1 p2 s2 hl1
  generalize hL : (leastV m).1 = L at p3 p4
  generalize hk : goodM m = k at p1 p2 p3 p4
  generalize hT1 : (takesV m w).1 = took at p5
  generalize hT2 : (takesV m w).2 = okk at p5
  refine Pure.mk (rs := [.tmp 4]) (nt := 193) Try.func4 (by kernel_rfl) rfl rfl rfl (by simp) ?_
  simp only [sl]
  refine wkc0 _ ?_
  refine GS.cc (cbig) rfl rfl rfl rfl (by simp [go_sem, List.take_of_length_le] <;> with_reducible rfl) rfl (by simp [go_sem, List.take_of_length_le]) ?_
  refine wkc0 _ ?_
  refine GS.cc (cd) rfl rfl rfl rfl (by simp [go_sem, List.take_of_length_le, machineC] <;> with_reducible rfl) rfl (by simp [go_sem, List.take_of_length_le, machineC]) ?_
  refine wkc (@machineC.eq_1) _ ?_
  refine GS.cc (p1) rfl rfl rfl rfl (by simp [go_sem, List.take_of_length_le, machineC] <;> with_reducible rfl) rfl (by simp [go_sem, List.take_of_length_le, machineC]) ?_
  refine wkc (@machineC.eq_1) _ ?_
  refine GS.cc (p2) rfl rfl rfl rfl (by simp [go_sem, List.take_of_length_le, machineC] <;> with_reducible rfl) rfl (by simp [go_sem, List.take_of_length_le, machineC]) ?_
  refine wkc (@machineC.eq_1) _ ?_
  refine GS.cc (p3) rfl rfl rfl rfl (by simp [go_sem, List.take_of_length_le, machineC] <;> with_reducible rfl) rfl (by simp [go_sem, List.take_of_length_le, machineC]) ?_
  refine wkc (@machineC.eq_1) _ ?_
  refine GS.cc (p4) rfl rfl rfl rfl (by simp [go_sem, List.take_of_length_le, machineC] <;> with_reducible rfl) rfl (by simp [go_sem, List.take_of_length_le, machineC]) ?_
  refine wkc (@machineC.eq_1) _ ?_
  refine GS.cc (s1) rfl rfl rfl rfl (by simp [go_sem, List.take_of_length_le] <;> with_reducible rfl) rfl (by simp [go_sem, List.take_of_length_le]) ?_
  refine wkc (@machineC.eq_1) _ ?_
  refine GS.cc (s2) rfl rfl rfl rfl (by simp [go_sem, List.take_of_length_le] <;> with_reducible rfl) rfl (by simp [go_sem, List.take_of_length_le]) ?_
  refine wkc (@machineC.eq_1) _ ?_
  refine GS.cc (p5) rfl rfl rfl rfl (by simp [go_sem, List.take_of_length_le, machineC] <;> with_reducible rfl) rfl (by simp [go_sem, List.take_of_length_le, machineC]) ?_
  refine wkc (@machineC.eq_1) _ ?_
  refine GS.guard (t := 99) rfl (fun h => ?_) (fun h => ?_)
  · subst h
    obtain ⟨hA', hB', hL'⟩ := hsv hk
    rw [hA] at hA'
    rw [hB] at hB'
    rw [hL] at hL'
    have hr := setsM_right hk
    have ho := setsM_ok hk
    have hrng := leastM_rng hk
    rw [← hA', ← hB'] at hr ho
    rw [← hA'] at hrng
    clear hA hB hL hA' hB'
    simp only [again]
    refine wkc0 _ ?_
    refine Holds.join (ι := Unit) (fun _ => ⟨[(1, .im 1 (byteRows more))], [], 1⟩) (fun _ => True) ?_ ?_
    · refine Holds.cond rfl (fun h => ?_) (fun h => ?_)
      · have h : okk = true := by simpa using h
        subst h
        obtain ⟨htk, hwd⟩ := key hk hT2
        rw [hT1] at htk
        have hin : ∀ t ∈ w, 0 ≤ t ∧ t < m.2.1 := fun t ht => by
          simp only [wordX, Bool.and_eq_true, List.all_eq_true] at hwd
          have := hwd.2 t ht
          simp only [inR, Bool.and_eq_true, decide_eq_true_eq] at this
          omega
        have hAl : A.length ≤ 64 := hl1.1.2.1
        refine wkc0 _ ?_
        have hBl : B.length = A.length := ho.ln
        have hrl := ho.rows
        have hrr := hr.right
        have hrz := hr.zero
        have htl : m.2.1.toNat ≤ 2 := by have := ok1.toks; omega
        have hsl : ∀ s ∈ A, s.length ≤ 6 := fun s hs => okS_len (ho.ok.ok s hs)
        have hel : m.2.2.2.length ≤ 1000000 := by have := ok1.ends; omega
        clear hr ho p1 p2 p3 p4 p5 s1 s2 cd cbig
        refine Holds.loop (ι := Nat × Nat) (fun x => ⟨[(1, .im 1 (byteRows more)), (5, .pb 0 4 0 0), (7, .im 1 (intss A)), (8, .im 1 (intss B)), (13, .v (.int .i64 L)), (17, .v (.bool took)), (19, .v (.int .i64 x.2)), (102, .im 1 (ints w)), (103, .v (.int .i64 w.length)), (104, .v (.int .i64 x.1))], [(0, ⟨42, 4, [machineC m]⟩)], 1⟩)
          (fun x => x.1 ≤ w.length ∧ A[x.2]? = some ((w.take x.1).foldl (nextL m) [0])) (fun x => w.length - x.1) (0, 0) ⟨Nat.zero_le _, by simpa using hrz⟩ ?_ ?_
        · exact Cov.ofn (id) rfl (by simp [go_sem, List.take_of_length_le, ren, ren1, ren2, okr, okr1, okr2, ChkT, ChkN, BlkN, nf, machineC]) (by simp [go_sem, List.take_of_length_le, ren, ren1, ren2, okr, okr1, okr2, ChkT, ChkN, BlkN, nf, machineC])
        rintro ⟨i, at'⟩ ⟨hi, hat⟩
        dsimp only at hi hat ⊢
        have stepi : wr64 ((i : Int) + 1) = ((i + 1 : Nat) : Int) := wr64_id (by omega) (by omega)
        refine wkc0 _ ?_
        refine Holds.cond rfl (fun h => ?_) (fun h => ?_)
        · have hib : i < w.length := by simpa using h
          obtain ⟨x, hx⟩ : ∃ x, w[i]? = some x := ⟨_, List.getElem?_eq_getElem hib⟩
          have hxr := hin x (List.mem_of_getElem? hx)
          obtain ⟨t, rfl⟩ : ∃ t : Nat, x = (t : Int) := ⟨x.toNat, by omega⟩
          have hal := (List.getElem?_eq_some_iff.1 hat).1
          have hab : at' < B.length := by omega
          obtain ⟨row, hrow⟩ : ∃ row, B[at']? = some row := ⟨_, List.getElem?_eq_getElem hab⟩
          have hrw := (hrl row (List.mem_of_getElem? hrow)).1
          have htt : t < m.2.1.toNat := by omega
          have htr : t < row.length := by omega
          obtain ⟨j, hj1, hj2⟩ := hrr at' _ row hat hrow t htt
          have hir : intsC row = [.im 1 (ints row)] := rfl
          rw [← fold_snoc m hx] at hj2
          refine wkc (And.intro @hib (And.intro @hx (And.intro (@get_E _ _ _ _ hx) (And.intro @hab (And.intro @hrow (And.intro (@get_E _ _ _ _ hrow) (And.intro @htr (And.intro @hj1 (And.intro (@get_E _ _ _ _ hj1) (@hir)))))))))) _ ?_
          refine ⟨(i + 1, j), ⟨by dsimp only; omega, hj2⟩, by dsimp only; omega, ?_⟩
          dsimp only
          exact Cov.ofn (id) rfl (by simp [go_sem, List.take_of_length_le, ren, ren1, ren2, okr, okr1, okr2, ChkT, ChkN, BlkN, nf, machineC, stepi]) (by simp [go_sem, List.take_of_length_le, ren, ren1, ren2, okr, okr1, okr2, ChkT, ChkN, BlkN, nf, machineC, stepi])
        · have hie : i = w.length := by
            have : ¬ i < w.length := by simpa using h
            omega
          subst hie
          rw [List.take_length] at hat
          generalize w.foldl (nextL m) [0] = set at htk hat
          have hal := (List.getElem?_eq_some_iff.1 hat).1
          have hsetl := hsl set (List.mem_of_getElem? hat)
          have hir : intsC set = [.im 1 (ints set)] := rfl
          clear hi stepi
          refine wkc (And.intro @hal (And.intro @hat (And.intro (@get_E _ _ _ _ hat) (@hir)))) _ ?_
          refine Holds.loop (ι := Nat) (fun i => ⟨[(1, .im 1 (byteRows more)), (5, .pb 0 4 0 0), (7, .im 1 (intss A)), (13, .v (.int .i64 L)), (17, .v (.bool took)), (22, .v (.bool ((set.take i).any fun k => decide (k ∈ m.2.2.2)))), (119, .im 1 (ints set)), (120, .v (.int .i64 set.length)), (121, .v (.int .i64 i))], [(0, ⟨42, 4, [machineC m]⟩)], 1⟩)
            (fun i => i ≤ set.length) (fun i => set.length - i) 0 (Nat.zero_le _) ?_ ?_
          · exact Cov.ofn (id) rfl (by simp [go_sem, List.take_of_length_le, ren, ren1, ren2, okr, okr1, okr2, ChkT, ChkN, BlkN, nf, machineC]) (by simp [go_sem, List.take_of_length_le, ren, ren1, ren2, okr, okr1, okr2, ChkT, ChkN, BlkN, nf, machineC])
          intro i hi
          have stepi : wr64 ((i : Int) + 1) = ((i + 1 : Nat) : Int) := wr64_id (by omega) (by omega)
          refine wkc0 _ ?_
          refine Holds.cond rfl (fun h => ?_) (fun h => ?_)
          · have hib : i < set.length := by simpa using h
            obtain ⟨x, hx⟩ : ∃ x, set[i]? = some x := ⟨_, List.getElem?_eq_getElem hib⟩
            have hn : ((set.take (i + 1)).any fun k => decide (k ∈ m.2.2.2)) = (((set.take i).any fun k => decide (k ∈ m.2.2.2)) || decide (x ∈ m.2.2.2)) := by
              rw [List.take_add_one, hx]; simp
            have ch := hasF m.2.2.2 x hel
            generalize ((set.take i).any fun k => decide (k ∈ m.2.2.2)) = b at hn ⊢
            generalize decide (x ∈ m.2.2.2) = d at hn ch
            cases b with
            | true =>
              refine wkc (And.intro @hib (And.intro @hx (@get_E _ _ _ _ hx))) _ ?_
              refine ⟨i + 1, by omega, by omega, ?_⟩
              rw [hn, Bool.true_or]
              exact Cov.ofn (id) rfl (by simp [go_sem, List.take_of_length_le, ren, ren1, ren2, okr, okr1, okr2, ChkT, ChkN, BlkN, nf, machineC, stepi]) (by simp [go_sem, List.take_of_length_le, ren, ren1, ren2, okr, okr1, okr2, ChkT, ChkN, BlkN, nf, machineC, stepi])
            | false =>
              refine wkc (And.intro @hib (And.intro @hx (And.intro (@get_E _ _ _ _ hx) (@machineC.eq_1)))) _ ?_
              refine GS.cc (ch) rfl rfl rfl rfl (by simp [go_sem, List.take_of_length_le, machineC] <;> with_reducible rfl) rfl (by simp [go_sem, List.take_of_length_le, machineC]) ?_
              refine wkc0 _ ?_
              refine ⟨i + 1, by omega, by omega, ?_⟩
              rw [hn, Bool.false_or]
              exact Cov.ofn (id) rfl (by simp [go_sem, List.take_of_length_le, ren, ren1, ren2, okr, okr1, okr2, ChkT, ChkN, BlkN, nf, machineC, stepi]) (by simp [go_sem, List.take_of_length_le, ren, ren1, ren2, okr, okr1, okr2, ChkT, ChkN, BlkN, nf, machineC, stepi])
          · have hie : i = set.length := by
              have : ¬ i < set.length := by simpa using h
              omega
            subst hie
            have hev : (set.any fun k => decide (k ∈ m.2.2.2)) = took := htk.symm
            have hL1 : ¬ (leastM m : Int) < 1 := by omega
            have hL2 : ¬ (A.length : Int) < (leastM m : Int) := by omega
            rw [List.take_length, hev, hL']
            refine wkc (And.intro @hL1 (@hL2)) _ ?_
            refine ⟨(), trivial, ?_⟩
            exact Cov.ofn (id) rfl (by simp [go_sem, List.take_of_length_le, ren, ren1, ren2, okr, okr1, okr2, ChkT, ChkN, BlkN, nf]) (by simp [go_sem, List.take_of_length_le, ren, ren1, ren2, okr, okr1, okr2, ChkT, ChkN, BlkN, nf])
      · refine wkc0 _ ?_
        refine ⟨(), trivial, ?_⟩
        exact Cov.ofn (id) rfl (by simp [go_sem, List.take_of_length_le, ren, ren1, ren2, okr, okr1, okr2, ChkT, ChkN, BlkN, nf]) (by simp [go_sem, List.take_of_length_le, ren, ren1, ren2, okr, okr1, okr2, ChkT, ChkN, BlkN, nf])
    rintro ⟨⟩ _
    refine wkc0 _ ?_
    refine GS.cc (cd2) rfl rfl rfl rfl (by simp [go_sem, List.take_of_length_le, machineC] <;> with_reducible rfl) rfl (by simp [go_sem, List.take_of_length_le, machineC]) ?_
    refine wkc (@machineC.eq_1) _ ?_
    refine GS.cc (q3) rfl rfl rfl rfl (by simp [go_sem, List.take_of_length_le, machineC] <;> with_reducible rfl) rfl (by simp [go_sem, List.take_of_length_le, machineC]) ?_
    refine wkc (@machineC.eq_1) _ ?_
    refine GS.cc (q4) rfl rfl rfl rfl (by simp [go_sem, List.take_of_length_le, machineC] <;> with_reducible rfl) rfl (by simp [go_sem, List.take_of_length_le, machineC]) ?_
    refine wkc (@machineC.eq_1) _ ?_
    refine GS.cc (q1) rfl rfl rfl rfl (by simp [go_sem, List.take_of_length_le, machineC] <;> with_reducible rfl) rfl (by simp [go_sem, List.take_of_length_le, machineC]) ?_
    refine wkc (@machineC.eq_1) _ ?_
    refine GS.cc (q2) rfl rfl rfl rfl (by simp [go_sem, List.take_of_length_le, machineC] <;> with_reducible rfl) rfl (by simp [go_sem, List.take_of_length_le, machineC]) ?_
    refine wkc (@machineC.eq_1) _ ?_
    refine GS.cc (s3) rfl rfl rfl rfl (by simp [go_sem, List.take_of_length_le] <;> with_reducible rfl) rfl (by simp [go_sem, List.take_of_length_le]) ?_
    refine wkc0 _ ?_
    refine GS.cc (s4) rfl rfl rfl rfl (by simp [go_sem, List.take_of_length_le] <;> with_reducible rfl) rfl (by simp [go_sem, List.take_of_length_le]) ?_
    refine wkc0 _ ?_
    refine Out.mk (xs := ?_) ?_ ?_ (by first | exact .inr rfl | exact .inl rfl)
    rotate_left
    · simp [go_sem, List.take_of_length_le] <;> with_reducible rfl
    exact .v _
  · subst h
    simp only [again]
    refine wkc0 _ ?_
    refine GS.cc (cd2) rfl rfl rfl rfl (by simp [go_sem, List.take_of_length_le, machineC] <;> with_reducible rfl) rfl (by simp [go_sem, List.take_of_length_le, machineC]) ?_
    refine wkc (@machineC.eq_1) _ ?_
    refine GS.cc (q3) rfl rfl rfl rfl (by simp [go_sem, List.take_of_length_le, machineC] <;> with_reducible rfl) rfl (by simp [go_sem, List.take_of_length_le, machineC]) ?_
    refine wkc (@machineC.eq_1) _ ?_
    refine GS.cc (q4) rfl rfl rfl rfl (by simp [go_sem, List.take_of_length_le, machineC] <;> with_reducible rfl) rfl (by simp [go_sem, List.take_of_length_le, machineC]) ?_
    refine wkc (@machineC.eq_1) _ ?_
    refine GS.cc (q1) rfl rfl rfl rfl (by simp [go_sem, List.take_of_length_le, machineC] <;> with_reducible rfl) rfl (by simp [go_sem, List.take_of_length_le, machineC]) ?_
    refine wkc (@machineC.eq_1) _ ?_
    refine GS.cc (q2) rfl rfl rfl rfl (by simp [go_sem, List.take_of_length_le, machineC] <;> with_reducible rfl) rfl (by simp [go_sem, List.take_of_length_le, machineC]) ?_
    refine wkc (@machineC.eq_1) _ ?_
    refine GS.cc (s3) rfl rfl rfl rfl (by simp [go_sem, List.take_of_length_le] <;> with_reducible rfl) rfl (by simp [go_sem, List.take_of_length_le]) ?_
    refine wkc0 _ ?_
    refine GS.cc (s4) rfl rfl rfl rfl (by simp [go_sem, List.take_of_length_le] <;> with_reducible rfl) rfl (by simp [go_sem, List.take_of_length_le]) ?_
    refine wkc0 _ ?_
    refine Out.mk (xs := ?_) ?_ ?_ (by first | exact .inr rfl | exact .inl rfl)
    rotate_left
    · simp [go_sem, List.take_of_length_le] <;> with_reducible rfl
    exact .v _
end Go.Proofs.Ytejpklajfcngbaa.En
end
