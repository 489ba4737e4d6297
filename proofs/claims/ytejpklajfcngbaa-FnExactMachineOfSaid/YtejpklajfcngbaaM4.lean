/- Own words and walks of this claim, part 4: what the program's functions compute, for all the arguments that are named; no further conditions. -/
import Derived.Test.YtejpklajfcngbaaM3
import Derived.Test.YtejpklajfcngbaaM2
section
namespace Go.Proofs.Ytejpklajfcngbaa.En
open Go.RowKit
set_option linter.unusedSimpArgs false
set_option linter.unusedVariables false
def intc (xs : List Int) : List AV := xs.map fun n => .v (.int .i64 n)
@[simp] theorem intc_len (xs : List Int) : (intc xs).length = xs.length := by simp [intc]
@[simp] theorem intc_get (xs : List Int) (i : Nat) : (intc xs)[i]? = (xs[i]?).map fun n => .v (.int .i64 n) := by simp [intc]
@[simp] theorem intc_gE (xs : List Int) (i : Nat) (h : i < (intc xs).length) : (intc xs)[i] = .v (.int .i64 (xs[i]'(by simpa using h))) := by simp [intc]
@[simp] theorem intc_set (xs : List Int) (i : Nat) (n : Int) : (intc xs).set i (.v (.int .i64 n)) = intc (xs.set i n) := by simp [intc, List.map_set]
@[simp] theorem nfc_intc (xs : List Int) : nfc (intc xs) := fun x hx => by
  simp only [intc, List.mem_map] at hx
  obtain ⟨n, _, rfl⟩ := hx
  rfl
def gB (B : List Int) (x : Int) : Int := B.getD x.toNat 0
def stI (B : List Int) (n x : Int) : Int := if x < 0 ∨ n = 0 then n else if gB B x = 0 then 0 else n + gB B x
def stS (B : List Int) (n x : Int) : Int := if 0 ≤ x ∧ gB B x = 0 then -1000000 else if 0 ≤ x then n + gB B x else n
def sumB (B : List Int) (c : Int) (right : List Int) : Int := right.foldl (stI B) c
def sumS (B : List Int) (c : Int) (right : List Int) : Int := right.foldl (stS B) c
theorem gB_in {B : List Int} {V : Int} (h : ∀ b ∈ B, 0 ≤ b ∧ b ≤ V) (hV : 0 ≤ V) (x : Int) : 0 ≤ gB B x ∧ gB B x ≤ V := by
  unfold gB
  by_cases hx : x.toNat < B.length
  · rw [List.getD_eq_getElem?_getD, List.getElem?_eq_getElem hx]
    exact h _ (List.getElem_mem hx)
  · rw [List.getD_eq_getElem?_getD, List.getElem?_eq_none (by omega)]
    exact ⟨Int.le_refl 0, hV⟩
theorem sums (B : List Int) (V c : Int) (h : ∀ b ∈ B, 0 ≤ b ∧ b ≤ V) (hV : 0 ≤ V) (hV1 : V ≤ 136500) : ∀ (r : List Int) (t : Nat) (n s : Int), t + r.length ≤ 4 → n ≤ c + V * t → ((0 < n ∧ s = n) ∨ (n = 0 ∧ s ≤ -1000000 + V * t)) →
    r.foldl (stI B) n ≤ c + V * (t + r.length : Nat) ∧ ((0 < r.foldl (stI B) n ∧ r.foldl (stS B) s = r.foldl (stI B) n) ∨ (r.foldl (stI B) n = 0 ∧ r.foldl (stS B) s ≤ -1000000 + V * 4)) := by
  intro r
  induction r with
  | nil =>
    intro t n s ht hn hr
    refine ⟨by simpa using hn, ?_⟩
    rcases hr with hr | ⟨h1, h2⟩
    · exact .inl hr
    · refine .inr ⟨h1, ?_⟩
      have : V * t ≤ V * 4 := Int.mul_le_mul_of_nonneg_left (by simp at ht; omega) hV
      simp only [List.foldl_nil]; omega
  | cons x r ih =>
    intro t n s ht hn hr
    obtain ⟨g0, g1⟩ := gB_in h hV x
    simp only [List.length_cons] at ht
    have e : V * ((t + 1 : Nat) : Int) = V * t + V := by rw [Int.natCast_add, Int.mul_add]; simp
    have key := ih (t + 1) (stI B n x) (stS B s x) (by omega) (by rw [e]; unfold stI; split; · omega
                                                                  · split <;> omega) (by
      rw [e]
      have e4 : V * (t : Int) ≤ 136500 * 4 := by
        have h1 : V * (t : Int) ≤ 136500 * (t : Int) := Int.mul_le_mul_of_nonneg_right hV1 (by omega)
        omega
      have e5 : 0 ≤ V * (t : Int) := Int.mul_nonneg hV (by omega)
      unfold stI stS
      rcases hr with ⟨h1, rfl⟩ | ⟨rfl, h2⟩
      · by_cases hx : x < 0
        · rw [if_pos (.inl hx), if_neg (by omega), if_neg (by omega)]; exact .inl ⟨h1, rfl⟩
        · rw [if_neg (by omega)]
          by_cases hg : gB B x = 0
          · rw [if_pos hg, if_pos ⟨by omega, hg⟩]; right; omega
          · rw [if_neg hg, if_neg (by omega), if_pos (by omega)]; left; omega
      · rw [if_pos (.inr rfl)]
        by_cases hx : 0 ≤ x
        · by_cases hg : gB B x = 0
          · rw [if_pos ⟨hx, hg⟩]; right; omega
          · rw [if_neg (by omega), if_pos hx]; right; omega
        · rw [if_neg (by omega), if_neg hx]; right; omega)
    rw [List.foldl_cons, List.foldl_cons, List.length_cons, show t + (r.length + 1) = t + 1 + r.length by omega]
    exact key
def VV : Nat → Int
  | 0 => 0
  | m + 1 => 100 + 4 * VV m
theorem VV_nonneg : ∀ m, 0 ≤ VV m
  | 0 => Int.le_refl 0
  | m + 1 => by have := VV_nonneg m; unfold VV; omega
theorem VV_le : ∀ m, VV m ≤ VV (m + 1) := fun m => by have := VV_nonneg m; show VV m ≤ 100 + 4 * VV m; omega
theorem VV_mono {a b : Nat} (h : a ≤ b) : VV a ≤ VV b := by
  induction h with
  | refl => exact Int.le_refl _
  | step _ ih => exact Int.le_trans ih (VV_le _)
theorem VV_six {m : Nat} (h : m ≤ 6) : VV m ≤ 136500 := Int.le_trans (VV_mono h) (by decide)
def nz (B : List Int) : Nat := B.countP (fun b => decide (b ≠ 0))
def tot : List Int → Int
  | [] => 0
  | x :: xs => x + tot xs
theorem tot_set : ∀ (B : List Int) (k : Nat) (s : Int) (h : k < B.length), tot (B.set k s) = tot B - B[k] + s
  | [], k, s, h => by simp at h
  | x :: xs, 0, s, h => by simp [tot]; omega
  | x :: xs, k + 1, s, h => by
    have := tot_set xs k s (by simpa using h)
    simp only [List.set_cons_succ, tot, List.getElem_cons_succ, this]; omega
theorem tot_in (V : Int) : ∀ (B : List Int), (∀ b ∈ B, 0 ≤ b ∧ b ≤ V) → 0 ≤ tot B ∧ tot B ≤ V * B.length
  | [], _ => by simp [tot]
  | x :: xs, h => by
    have h1 := h x (.head _)
    have h2 := tot_in V xs fun b hb => h b (.tail _ hb)
    rw [List.length_cons, Int.natCast_add, Int.mul_add]
    simp only [tot]
    omega
theorem nz_le (B : List Int) : nz B ≤ B.length := List.countP_le_length
theorem nz_set (B : List Int) (k : Nat) (s : Int) (h : k < B.length) (hs : s ≠ 0) : nz (B.set k s) = nz B + if B[k] = 0 then 1 else 0 := by
  unfold nz
  rw [List.countP_set h]
  by_cases hk : B[k] = 0
  · simp [hk, hs]
  · have hp : 0 < List.countP (fun b => decide (b ≠ 0)) B := List.countP_pos_iff.2 ⟨_, List.getElem_mem h, by simpa using hk⟩
    have e1 : decide (B[k] ≠ 0) = true := by simpa using hk
    have e2 : decide (s ≠ 0) = true := by simpa using hs
    rw [e1, e2, if_neg hk]
    simp only [if_true]
    omega
structure InvB (nons : Nat) (B : List Int) : Prop where
  len : B.length = 6
  low : ∀ b ∈ B, 0 ≤ b
  up : ∀ b ∈ B, b ≤ VV (nz B)
  out : ∀ k, nons ≤ k → B.getD k 0 = 0
theorem InvB.all {nons : Nat} {B : List Int} (h : InvB nons B) : ∀ b ∈ B, 0 ≤ b ∧ b ≤ VV (nz B) := fun b hb => ⟨h.low b hb, h.up b hb⟩
theorem InvB.nz6 {nons : Nat} {B : List Int} (h : InvB nons B) : nz B ≤ 6 := by have := nz_le B; rw [h.len] at this; exact this
def muB (B : List Int) : Nat := (6 - nz B) * 10000000 + (tot B).toNat
theorem InvB.set {nons : Nat} {B : List Int} (h : InvB nons B) {k : Nat} (hk : k < nons) (hn : nons ≤ 6) {s : Int} (hs0 : 0 < s) (hs : s ≤ 100 + 4 * VV (nz B)) (hb : B.getD k 0 = 0 ∨ s < B.getD k 0) : InvB nons (B.set k s) ∧ muB (B.set k s) < muB B := by
  have hkl : k < B.length := by rw [h.len]; omega
  have hg : B.getD k 0 = B[k] := by simp [hkl]
  rw [hg] at hb
  have hk0 := h.low _ (List.getElem_mem hkl)
  have hk1 := h.up _ (List.getElem_mem hkl)
  have hnz := nz_set B k s hkl (by omega)
  have ht := tot_set B k s hkl
  have hnn := VV_nonneg (nz B)
  have h6 := h.nz6
  have htl := tot_in (VV (nz B)) B h.all
  have hinv : InvB nons (B.set k s) := by
    refine ⟨by simpa using h.len, fun b hbm => ?_, fun b hbm => ?_, fun j hj => ?_⟩
    · rcases List.mem_or_eq_of_mem_set hbm with g | g
      · exact h.low b g
      · rw [g]; omega
    · rcases List.mem_or_eq_of_mem_set hbm with g | g
      · exact Int.le_trans (h.up b g) (VV_mono (by rw [hnz]; omega))
      · rw [hnz, g]
        split
        · exact hs
        · rename_i g
          have : s < B[k] := hb.resolve_left g
          simp only [Nat.add_zero]; omega
    · have := h.out j hj
      rw [List.getD_eq_getElem?_getD, List.getElem?_set_ne (by omega), ← List.getD_eq_getElem?_getD]
      exact this
  refine ⟨hinv, ?_⟩
  have h62 := hinv.nz6
  have hnew := (tot_in _ _ hinv.all).1
  rw [ht] at hnew
  unfold muB
  rw [hnz, ht]
  rw [hnz] at h62
  have hv6 := VV_six h6
  have hs2 : s ≤ 1000000 := by omega
  split
  · rename_i g
    rw [if_pos g] at h62
    rw [g]
    have : (6 - nz B) = (6 - (nz B + 1)) + 1 := by omega
    rw [this, Nat.add_mul]
    omega
  · rename_i g
    have : s < B[k] := hb.resolve_left g
    simp only [Nat.add_zero]
    omega
def stepB (p : List Int × Bool) (rc : RuleT × Int) : List Int × Bool :=
  if 0 < sumB p.1 rc.2 rc.1.2 ∧ (gB p.1 rc.1.1 = 0 ∨ sumB p.1 rc.2 rc.1.2 < gB p.1 rc.1.1) then (p.1.set rc.1.1.toNat (sumB p.1 rc.2 rc.1.2), true) else p
def roundB (rs : List (RuleT × Int)) (B : List Int) : List Int × Bool := rs.foldl stepB (B, false)
def iterB (rs : List (RuleT × Int)) : Nat → List Int → List Int
  | 0, B => B
  | n + 1, B => if (roundB rs B).2 then iterB rs n (roundB rs B).1 else (roundB rs B).1
def zeroB : List Int := [0, 0, 0, 0, 0, 0]
def fuelB : Nat := muB zeroB + 1
def bestB (rs : List (RuleT × Int)) : List Int := iterB rs fuelB zeroB
theorem InvB.zero (nons : Nat) : InvB nons zeroB := ⟨rfl, fun b hb => by simp [zeroB] at hb; omega, fun b hb => by simp [zeroB] at hb; have := VV_nonneg (nz zeroB); omega, fun k _ => by
  unfold zeroB
  match k with
  | 0 | 1 | 2 | 3 | 4 | 5 => rfl
  | k + 6 => rfl⟩
def okRC (nons : Nat) (rc : RuleT × Int) : Prop := 0 ≤ rc.1.1 ∧ rc.1.1 < nons ∧ rc.1.2.length ≤ 4 ∧ (∀ x ∈ rc.1.2, x < nons) ∧ 1 ≤ rc.2 ∧ rc.2 ≤ 100
theorem sum_facts {nons : Nat} {B : List Int} (h : InvB nons B) {rc : RuleT × Int} (hr : okRC nons rc) : sumB B rc.2 rc.1.2 ≤ 100 + 4 * VV (nz B) ∧ ((0 < sumB B rc.2 rc.1.2 ∧ sumS B rc.2 rc.1.2 = sumB B rc.2 rc.1.2) ∨ (sumB B rc.2 rc.1.2 = 0 ∧ sumS B rc.2 rc.1.2 ≤ 0)) := by
  obtain ⟨_, _, h3, _, h5, h6⟩ := hr
  have hv6 := VV_six h.nz6
  have hnn := VV_nonneg (nz B)
  have := sums B (VV (nz B)) rc.2 h.all hnn hv6 rc.1.2 0 rc.2 rc.2 (by omega) (by simp) (.inl ⟨by omega, rfl⟩)
  have e : VV (nz B) * ((0 + rc.1.2.length : Nat) : Int) ≤ VV (nz B) * 4 := Int.mul_le_mul_of_nonneg_left (by omega) hnn
  refine ⟨by unfold sumB; omega, ?_⟩
  rcases this.2 with g | ⟨g1, g2⟩
  · exact .inl g
  · refine .inr ⟨g1, ?_⟩
    unfold sumS
    omega
theorem InvB.stepB {nons : Nat} (hn : nons ≤ 6) {p : List Int × Bool} (h : InvB nons p.1) {rc : RuleT × Int} (hr : okRC nons rc) : InvB nons (En.stepB p rc).1 ∧ muB (En.stepB p rc).1 ≤ muB p.1 ∧ ((En.stepB p rc).2 = true → p.2 = true ∨ muB (En.stepB p rc).1 < muB p.1) := by
  unfold En.stepB
  split
  · rename_i hc
    have := h.set (k := rc.1.1.toNat) (by have := hr.1; have := hr.2.1; omega) hn hc.1 (sum_facts h hr).1 hc.2
    exact ⟨this.1, Nat.le_of_lt this.2, fun _ => .inr this.2⟩
  · exact ⟨h, Nat.le_refl _, fun h => .inl h⟩
attribute [irreducible] fuelB bestB iterB roundB
end Go.Proofs.Ytejpklajfcngbaa.En
end
section
namespace Go.Proofs.Ytejpklajfcngbaa.En
open Go.RowKit
set_option linter.unusedSimpArgs false
set_option linter.unusedVariables false
set_option maxHeartbeats 8000000
theorem allB_at {p : Nat → Bool} {n i : Nat} (h : allB p n = true) (hi : i < n) : p i = true := by
  cases g : p i with
  | true => rfl
  | false => rw [allB_no hi g] at h; cases h
structure OkG (g : GrammarT) : Prop where
  n0 : 1 ≤ g.1
  n1 : g.1 ≤ 6
  t0 : 1 ≤ g.2.1
  t1 : g.2.1 ≤ 4
  len : g.2.2.length ≤ 16
  l0 : ∀ r ∈ g.2.2, 0 ≤ r.1
  l1 : ∀ r ∈ g.2.2, r.1 < g.1
  r4 : ∀ r ∈ g.2.2, r.2.length ≤ 4
  s0 : ∀ r ∈ g.2.2, ∀ x ∈ r.2, -g.2.1 ≤ x
  s1 : ∀ r ∈ g.2.2, ∀ x ∈ r.2, x < g.1
theorem goodG_ok {g : GrammarT} (h : goodG g = true) : OkG g := by
  unfold goodG at h
  simp only [Bool.and_eq_true, decide_eq_true_eq] at h
  obtain ⟨⟨⟨h1, h2⟩, h3⟩, h4⟩ := h
  simp [inR] at h1 h2
  have key : ∀ r ∈ g.2.2, 0 ≤ r.1 ∧ r.1 ≤ g.1 - 1 ∧ r.2.length ≤ 4 ∧ ∀ x ∈ r.2, -g.2.1 ≤ x ∧ x ≤ g.1 - 1 := fun r hr => by
    obtain ⟨i, hi⟩ := List.mem_iff_getElem?.1 hr
    have hlt : i < g.2.2.length := (List.getElem?_eq_some_iff.1 hi).1
    have ha := allB_at h4 hlt
    have hd : g.2.2.getD i (0, []) = r := by rw [List.getD_eq_getElem?_getD, hi]; rfl
    unfold goodAtG at ha
    rw [hd] at ha
    simp only [Bool.and_eq_true, decide_eq_true_eq, List.all_eq_true] at ha
    obtain ⟨⟨⟨a1, a2⟩, a3⟩, _⟩ := ha
    simp [inR] at a1
    refine ⟨a1.1, a1.2, a2, fun x hx => ?_⟩
    have := a3 x hx
    simpa [symOk, inR] using this
  exact ⟨h1.1, h1.2, h2.1, h2.2, h3, fun r hr => (key r hr).1, fun r hr => by have := (key r hr).2.1; omega, fun r hr => (key r hr).2.2.1, fun r hr x hx => ((key r hr).2.2.2 x hx).1, fun r hr x hx => by have := ((key r hr).2.2.2 x hx).2; omega⟩
end Go.Proofs.Ytejpklajfcngbaa.En
end
section
namespace Go.Proofs.Ytejpklajfcngbaa.En
open Go.RowKit
set_option linter.unusedSimpArgs false
set_option linter.unusedVariables false
def kposF (x : List Int) (l : List (List Int)) : Nat → Nat
  | 0 => 0
  | n + 1 => if cmpRow x (l.getD n []) < 0 then kposF x l n else n + 1
theorem kposF_le (x : List Int) (l : List (List Int)) : ∀ n, kposF x l n ≤ n
  | 0 => Nat.le_refl _
  | n + 1 => by
    have := kposF_le x l n
    unfold kposF
    split <;> omega
theorem kposF_gt (x : List Int) (l : List (List Int)) : ∀ n j, kposF x l n ≤ j → j < n → cmpRow x (l.getD j []) < 0
  | 0, j, _, h => by omega
  | n + 1, j, h1, h2 => by
    unfold kposF at h1
    split at h1
    · by_cases e : j = n
      · subst e; assumption
      · exact kposF_gt x l n j h1 (by omega)
    · omega
theorem kposF_at (x : List Int) (l : List (List Int)) : ∀ n k, kposF x l n = k + 1 → 0 ≤ cmpRow x (l.getD k [])
  | 0, k, h => by cases h
  | n + 1, k, h => by
    unfold kposF at h
    split at h
    · exact kposF_at x l n k h
    · have : n = k := by omega
      subst this; omega
def insA (l : List (List Int)) (x : List Int) : List (List Int) := l.take (kposF x l l.length) ++ [x] ++ l.drop (kposF x l l.length)
theorem insA_perm (l : List (List Int)) (x : List Int) : (insA l x).Perm (x :: l) := by
  unfold insA
  rw [List.append_assoc]
  have := (List.perm_middle (a := x) (l₁ := l.take (kposF x l l.length)) (l₂ := l.drop (kposF x l l.length)))
  rw [List.take_append_drop] at this
  exact this
abbrev SortA (l : List (List Int)) : Prop := l.Pairwise fun a b => cmpRow a b < 0
theorem insA_sort {l : List (List Int)} (h : SortA l) {x : List Int} (hx : x ∉ l) : SortA (insA l x) := by
  have hk := kposF_le x l l.length
  have hgt := kposF_gt x l l.length
  have hat := kposF_at x l l.length
  unfold insA
  generalize kposF x l l.length = k at hk hgt hat ⊢
  have hl : ∀ j (hj : j < l.length), l.getD j [] = l[j] := fun j hj => by rw [List.getD_eq_getElem?_getD, List.getElem?_eq_getElem hj]; rfl
  have h' := List.pairwise_iff_getElem.1 h
  have hlow : ∀ a ∈ l.take k, cmpRow a x < 0 := fun a ha => by
    obtain ⟨j, hj, e⟩ := List.getElem_of_mem ha
    rw [List.length_take] at hj
    rw [List.getElem_take] at e
    cases k with
    | zero => omega
    | succ m =>
      have hm : m < l.length := by omega
      have h0 := hat m rfl
      rw [hl m hm] at h0
      have hne : cmpRow x l[m] ≠ 0 := fun e0 => hx (by rw [cmpRow_zero _ _ e0]; exact List.getElem_mem hm)
      have hmx : cmpRow l[m] x < 0 := by
        have := cmpRow_anti x l[m]
        omega
      by_cases e2 : j = m
      · subst e2; rw [← e]; exact hmx
      · rw [← e]; exact cmpRow_trans _ _ _ (h' j m (by omega) hm (by omega)) hmx
  have hhigh : ∀ a ∈ l.drop k, cmpRow x a < 0 := fun a ha => by
    obtain ⟨j, hj, e⟩ := List.getElem_of_mem ha
    rw [List.length_drop] at hj
    rw [List.getElem_drop] at e
    have := hgt (k + j) (by omega) (by omega)
    rw [hl _ (by omega)] at this
    rw [← e]; exact this
  have hsplit := h
  rw [← List.take_append_drop k l, SortA, List.pairwise_append] at hsplit
  obtain ⟨s1, s2, s3⟩ := hsplit
  rw [SortA, List.append_assoc, List.pairwise_append]
  refine ⟨s1, ?_, fun a ha b hb => ?_⟩
  · rw [List.singleton_append, List.pairwise_cons]
    exact ⟨hhigh, s2⟩
  · rcases List.mem_append.1 hb with hb | hb
    · rw [List.mem_singleton] at hb
      subst hb
      exact hlow a ha
    · exact s3 a ha b hb
theorem foldA {A : List (List Int)} : A.Nodup → SortA (A.foldl insA []) ∧ (A.foldl insA []).Perm A := by
  have key : ∀ (A l : List (List Int)), (A ++ l).Nodup → SortA l → SortA (A.foldl insA l) ∧ (A.foldl insA l).Perm (A ++ l) := by
    intro A
    induction A with
    | nil => intro l _ h; exact ⟨h, List.Perm.refl _⟩
    | cons x A ih =>
      intro l hn h
      rw [List.cons_append, List.nodup_cons] at hn
      obtain ⟨hx, hn⟩ := hn
      have hxl : x ∉ l := fun e => hx (List.mem_append.2 (.inr e))
      have hp := insA_perm l x
      have hp2 : (A ++ insA l x).Perm (x :: (A ++ l)) := (List.Perm.append_left A hp).trans List.perm_middle
      obtain ⟨i1, i2⟩ := ih (insA l x) (hp2.nodup_iff.2 (List.nodup_cons.2 ⟨hx, hn⟩)) (insA_sort h hxl)
      rw [List.foldl_cons]
      exact ⟨i1, i2.trans hp2⟩
  intro hn
  have := key A [] (by rw [List.append_nil]; exact hn) List.Pairwise.nil
  rw [List.append_nil] at this
  exact this
theorem foldA_sorted {A : List (List Int)} (h : A.Nodup) : A.foldl insA [] = sortedBy cmpRow A := by
  obtain ⟨h1, h2⟩ := foldA h
  have h3 : (sortedBy cmpRow A).Perm A := List.mergeSort_perm _ _
  have h4 : (sortedBy cmpRow A).Pairwise fun a b => (!(ltOf cmpRow) b a) = true := by
    refine List.pairwise_mergeSort (fun a b c => ?_) (fun a b => ?_) A
    · intro p q
      simp only [Bool.not_eq_true'] at p q ⊢
      exact cmpRow_swo.ntrans _ _ _ q p
    · cases e : ltOf cmpRow b a with
      | false => simp
      | true =>
        cases e2 : ltOf cmpRow a b with
        | false => simp
        | true =>
          have := cmpRow_swo.trans _ _ _ e e2
          rw [cmpRow_swo.irrefl] at this
          cases this
  refine List.Perm.eq_of_pairwise (le := fun a b => (!(ltOf cmpRow) b a) = true) (fun a b _ _ p q => ?_) (h1.imp fun {a b} hab => ?_) h4 (h2.trans h3.symm)
  · simp only [Bool.not_eq_true'] at p q
    exact cmpRow_tot a b q p
  · have := cmpRow_anti a b
    simp [ltOf]; omega
theorem lessL_row : ∀ x y : List Int, x.length = y.length → lessL x y = decide (cmpRow x y < 0)
  | [], [], _ => rfl
  | [], _ :: _, h => by simp at h
  | _ :: _, [], h => by simp at h
  | a :: x, b :: y, h => by
    simp only [List.length_cons, Nat.add_right_cancel_iff] at h
    have ih := lessL_row x y h
    unfold lessL cmpRow
    by_cases e : a = b
    · rw [if_pos e, if_neg (show ¬ a < b by omega), if_neg (show ¬ b < a by omega), ih]
    · rw [if_neg e]
      by_cases g : a < b
      · rw [if_pos g]; simp [g]
      · rw [if_neg g, if_pos (show b < a by omega)]; simp [g]
def arrowOf (r : RuleT) : List Int := [r.1, -1 - r.2.getD 0 0, r.2.getD 1 0]
def arrowsP (l : List RuleT) : List (List Int) := (l.filter fun r => !decide (r.2.length = 0)).map arrowOf
def endsP (l : List RuleT) : List Int := (l.filter fun r => decide (r.2.length = 0)).map (·.1)
theorem arrowsP_snoc {l : List RuleT} {i : Nat} {r : RuleT} (h : l[i]? = some r) : arrowsP (l.take (i + 1)) = arrowsP (l.take i) ++ if r.2.length = 0 then [] else [arrowOf r] := by
  rw [List.take_add_one, h, arrowsP, arrowsP, List.filter_append, List.map_append]
  by_cases e : r.2.length = 0
  · have d : decide (r.2.length = 0) = true := decide_eq_true e
    rw [if_pos e]
    simp only [Option.toList, List.filter_cons, d, Bool.not_true, if_true, Bool.false_eq_true, if_false, List.filter_nil, List.map_cons, List.map_nil]
  · have d : decide (r.2.length = 0) = false := decide_eq_false e
    rw [if_neg e]
    simp only [Option.toList, List.filter_cons, d, Bool.not_false, if_true, Bool.false_eq_true, if_false, List.filter_nil, List.map_cons, List.map_nil]
theorem endsP_snoc {l : List RuleT} {i : Nat} {r : RuleT} (h : l[i]? = some r) : endsP (l.take (i + 1)) = endsP (l.take i) ++ if r.2.length = 0 then [r.1] else [] := by
  rw [List.take_add_one, h, endsP, endsP, List.filter_append, List.map_append]
  by_cases e : r.2.length = 0
  · have d : decide (r.2.length = 0) = true := decide_eq_true e
    rw [if_pos e]
    simp only [Option.toList, List.filter_cons, d, Bool.not_true, if_true, Bool.false_eq_true, if_false, List.filter_nil, List.map_cons, List.map_nil]
  · have d : decide (r.2.length = 0) = false := decide_eq_false e
    rw [if_neg e]
    simp only [Option.toList, List.filter_cons, d, Bool.not_false, if_true, Bool.false_eq_true, if_false, List.filter_nil, List.map_cons, List.map_nil]
theorem arrowsP_len (l : List RuleT) : (arrowsP l).length ≤ l.length := by
  rw [arrowsP, List.length_map]; exact List.length_filter_le _ _
theorem endsP_len (l : List RuleT) : (endsP l).length ≤ l.length := by
  rw [endsP, List.length_map]; exact List.length_filter_le _ _
theorem reg_rule {r : RuleT} (h : notReg r = false) : r.2.length = 0 ∨ ∃ x y, r.2 = [x, y] ∧ x < 0 ∧ 0 ≤ y := by
  obtain ⟨l, R⟩ := r
  unfold notReg at h
  match R, h with
  | [], _ => exact .inl rfl
  | [x, y], h =>
    simp at h
    exact .inr ⟨x, y, rfl, by omega, by omega⟩
theorem good_nodup {g : GrammarT} (h : goodG g = true) : g.2.2.Nodup := by
  unfold goodG at h
  simp only [Bool.and_eq_true, decide_eq_true_eq] at h
  rw [List.nodup_iff_pairwise_ne, List.pairwise_iff_getElem]
  intro i j hi hj hij e
  have ha := allB_at h.2 hj
  have hd : g.2.2.getD j (0, []) = g.2.2[j] := by rw [List.getD_eq_getElem?_getD, List.getElem?_eq_getElem hj]; rfl
  unfold goodAtG at ha
  rw [hd] at ha
  simp only [Bool.and_eq_true, Bool.not_eq_true'] at ha
  have hm : g.2.2[i] ∈ g.2.2.take j := by
    rw [List.mem_take_iff_getElem]
    exact ⟨i, by omega, rfl⟩
  have := List.any_eq_false.1 ha.2 _ hm
  exact this (by simpa using e)
theorem arrows_nodup {l : List RuleT} (h : l.Nodup) (hr : ∀ r ∈ l, notReg r = false) : (arrowsP l).Nodup := by
  unfold arrowsP
  rw [List.nodup_iff_pairwise_ne, List.pairwise_map]
  have hf : (l.filter fun r => !decide (r.2.length = 0)).Pairwise (· ≠ ·) := (List.nodup_iff_pairwise_ne.1 h).filter _
  refine hf.imp_of_mem fun {a b} ha hb hab e => hab ?_
  obtain ⟨ha1, ha2⟩ := List.mem_filter.1 ha
  obtain ⟨hb1, hb2⟩ := List.mem_filter.1 hb
  rcases reg_rule (hr a ha1) with h0 | ⟨x, y, e1, _, _⟩
  · simp [h0] at ha2
  · rcases reg_rule (hr b hb1) with h0 | ⟨x2, y2, e2, _, _⟩
    · simp [h0] at hb2
    · obtain ⟨a1, a2⟩ := a
      obtain ⟨b1, b2⟩ := b
      dsimp only at e1 e2
      subst e1 e2
      simp [arrowOf] at e
      obtain ⟨e3, e4, e5⟩ := e
      rw [e3, e5, show x = x2 by omega]
theorem ends_nodup {l : List RuleT} (h : l.Nodup) : (endsP l).Nodup := by
  unfold endsP
  rw [List.nodup_iff_pairwise_ne, List.pairwise_map]
  have hf : (l.filter fun r => decide (r.2.length = 0)).Pairwise (· ≠ ·) := (List.nodup_iff_pairwise_ne.1 h).filter _
  refine hf.imp_of_mem fun {a b} ha hb hab e => hab ?_
  obtain ⟨ha1, ha2⟩ := List.mem_filter.1 ha
  obtain ⟨hb1, hb2⟩ := List.mem_filter.1 hb
  obtain ⟨a1, a2⟩ := a
  obtain ⟨b1, b2⟩ := b
  simp at ha2 hb2
  subst ha2 hb2
  dsimp only at e
  rw [e]
theorem sorted_nodup {xs : List Int} (h : xs.Nodup) : sorted xs = xs.foldl putL [] := by
  obtain ⟨h3, h4⟩ := foldl_put xs [] List.Pairwise.nil
  have hp : (sorted xs).Perm xs := List.mergeSort_perm _ _
  have hs : (sorted xs).Pairwise fun a b => decide (a ≤ b) = true := List.pairwise_mergeSort (fun a b c p q => by simp at *; omega) (fun a b => by simp; omega) xs
  have hn : (sorted xs).Nodup := hp.nodup_iff.2 h
  refine incr_ext ?_ h3 fun z => ?_
  · refine (hs.and (List.nodup_iff_pairwise_ne.1 hn)).imp fun {a b} hab => ?_
    obtain ⟨p, q⟩ := hab
    simp at p
    omega
  · rw [h4, hp.mem_iff]; simp
def regG (g : GrammarT) : Bool := !g.2.2.any notReg
def machV (g : GrammarT) : MachineT × Bool := if (goodG g && regG g) = true then ((g.1, g.2.1, sortedBy cmpRow (arrowsP g.2.2), sorted (endsP g.2.2)), true) else ((0, 0, [], []), false)
end Go.Proofs.Ytejpklajfcngbaa.En
end
section
namespace Go.Proofs.Ytejpklajfcngbaa.En
set_option linter.unusedSimpArgs false
set_option linter.unusedVariables false
structure GoodP (g : GrammarT) (n : Nat) (P : List (List Int)) : Prop where
  hd : ∀ t ∈ P, ∃ (r : Nat) (s : List Int), t = (r : Int) :: s ∧ r < g.2.2.length
  sum : (P.map List.length).sum = n
theorem GoodP.nil (g : GrammarT) : GoodP g 0 [] := ⟨fun t h => (by cases h), rfl⟩
theorem GoodP.len {g : GrammarT} {n : Nat} {P : List (List Int)} (h : GoodP g n P) : P.length ≤ n := by
  have key : ∀ Q : List (List Int), (∀ t ∈ Q, ∃ (r : Nat) (s : List Int), t = (r : Int) :: s ∧ r < g.2.2.length) → Q.length ≤ (Q.map List.length).sum := by
    intro Q
    induction Q with
    | nil => intro _; simp
    | cons t Q ih =>
      intro hq
      obtain ⟨r, s, e, _⟩ := hq t (.head _)
      have := ih fun t ht => hq t (.tail _ ht)
      rw [e]
      simp only [List.map_cons, List.sum_cons, List.length_cons]
      omega
  rw [← h.sum]; exact key P h.hd
theorem GoodP.step {g : GrammarT} {n : Nat} {P : List (List Int)} (h : GoodP g n P) {r : Nat} (hr : r < g.2.2.length) (m : Nat) : GoodP g (n + 1) (P.take m ++ [(r : Int) :: (P.drop m).flatten]) := by
  refine ⟨fun t ht => ?_, ?_⟩
  · rcases List.mem_append.1 ht with ht | ht
    · exact h.hd t (List.mem_of_mem_take ht)
    · rw [List.mem_singleton] at ht
      exact ⟨r, _, ht, hr⟩
  · have e := h.sum
    rw [← List.take_append_drop m P, List.map_append, List.sum_append] at e
    rw [List.map_append, List.sum_append]
    simp only [List.map_cons, List.map_nil, List.sum_cons, List.sum_nil, List.length_cons, List.length_flatten]
    omega
theorem GoodP.flat {g : GrammarT} {n : Nat} {P : List (List Int)} (h : GoodP g n P) (m k : Nat) : ((P.drop m).take k).flatten.length ≤ n := by
  have e := h.sum
  rw [← List.take_append_drop m P, List.map_append, List.sum_append] at e
  rw [← List.take_append_drop k (P.drop m), List.map_append, List.sum_append] at e
  rw [List.length_flatten]
  omega
end Go.Proofs.Ytejpklajfcngbaa.En
end
section
namespace Go.Proofs.Ytejpklajfcngbaa.En
open Go.RowKit
set_option linter.unusedSimpArgs false
set_option linter.unusedVariables false
section
attribute [local semireducible] G Gq Holds GS thenA
variable {P : Program} {nt : NT} {s : AS} {K : AS → Prop} {ops : Array Oper} {o : Oper} {l : List Oper} {i : Nat}
end
end Go.Proofs.Ytejpklajfcngbaa.En
end
section
namespace Go.Proofs.Ytejpklajfcngbaa.En
open Go.RowKit
set_option linter.unusedSimpArgs false
set_option linter.unusedVariables false
section
attribute [local semireducible] G Gq Holds GS thenA
variable {P : Program} {nt : NT} {s s' : AS} {K : AS → Prop} {ops : Array Oper} {l : List Oper}
theorem Cov.short {q : Nat} (n m : Nat) {b : Blk} (hb : lb s.bl n = some b) : Cov q { s with bl := st s.bl n { b with xs := b.xs.take m } } s :=
  fun _ _ _ S _ _ _ h => ⟨S, _, _, h.short hb⟩
theorem GS.short (n m : Nat) {b : Blk} (hb : lb s.bl n = some b) (hs : ({ s with bl := st s.bl n { b with xs := b.xs.take m } } : AS) = s') {p : Nat} (h : GS P nt ops K l p s') : GS P nt ops K l p s :=
  GS.cov (Cov.short n m hb) (by rw [hs]; exact h)
theorem Holds.short {c : Code} {Q : Exit → AS → Prop} (n m : Nat) {b : Blk} (hb : lb s.bl n = some b) (hs : ({ s with bl := st s.bl n { b with xs := b.xs.take m } } : AS) = s') (h : Holds P nt c Q s') : Holds P nt c Q s :=
  Holds.cov (Cov.short n m hb) (by rw [hs]; exact h)
end
end Go.Proofs.Ytejpklajfcngbaa.En
end
section
namespace Go.Proofs.Ytejpklajfcngbaa.En
open Go.RowKit
set_option linter.unusedSimpArgs false
set_option linter.unusedVariables false
set_option maxHeartbeats 4000000
theorem intss_allT (l : List (List Int)) (P : List AV → Prop) : (∀ x, x ∈ intss l → P x) ↔ ∀ n, n ∈ l → P [.im 1 (ints n)] := by
  simp only [intss, List.mem_map]
  exact ⟨fun h n hn => h _ ⟨n, hn, rfl⟩, fun h x ⟨n, hn, e⟩ => e ▸ h n hn⟩
theorem intss_takeT (l : List (List Int)) (n : Nat) : (intss l).take n = intss (l.take n) := by simp [intss, List.map_take]
theorem intss_clT (l : List (List Int)) : ∀ row ∈ intss l, ∀ x ∈ row, cl1 x = true := fun row hr x hx => by
  simp only [intss, List.mem_map] at hr
  obtain ⟨t, _, rfl⟩ := hr
  simp only [intsC, List.mem_singleton] at hx
  subst hx; rfl
end Go.Proofs.Ytejpklajfcngbaa.En
end
section
namespace Go.Proofs.Ytejpklajfcngbaa.En
open Go.RowKit
set_option linter.unusedSimpArgs false
set_option linter.unusedVariables false
set_option maxHeartbeats 4000000
theorem intss_dropT (l : List (List Int)) (n : Nat) : (intss l).drop n = intss (l.drop n) := by simp [intss, List.map_drop]
theorem l5Insert (l : List (List Int)) (x : List Int) (hl : l.length ≤ 1000) (hx : x.length ≤ 1000) (h3 : ∀ t ∈ l, x.length = t.length) (hn : x ∉ l) : Pure Try.prog 66 [.im 1 (intss l), .im 1 (ints x)] (.im 1 (intss (insA l x))) := by
  unfold insA
  have hgt := kposF_gt x l l.length
  obtain ⟨K, hK⟩ : ∃ K, K = kposF x l l.length := ⟨_, rfl⟩
  have hKl : K ≤ l.length := by rw [hK]; exact kposF_le x l l.length
  rw [← hK]
  refine Pure.mk (rs := [.tmp 4]) (nt := 51) Try.func66 (by kernel_rfl) rfl rfl rfl (by simp) ?_
  simp only [sl]
  refine wkc0 _ ?_
  refine Holds.loop (ι := Nat) (fun k => ⟨[(0, .im 1 (intss l)), (1, .im 1 (ints x)), (5, .v (.int .i64 k))], [], 0⟩)
    (fun k => k ≤ l.length ∧ K = kposF x l k) (fun k => k) l.length ⟨Nat.le_refl _, hK⟩ ?_ ?_
  · exact Cov.ofn (id) rfl (by simp [go_sem, List.take_of_length_le, ren, ren1, ren2, okr, okr1, okr2, ChkT, ChkN, BlkN, nf]) (by simp [go_sem, List.take_of_length_le, ren, ren1, ren2, okr, okr1, okr2, ChkT, ChkN, BlkN, nf])
  clear hK hgt
  rintro k ⟨hk, hK⟩
  have fin : K = k → (k = 0 ∨ ∃ t, k - 1 < l.length ∧ l[k - 1]? = some t ∧ 0 < k ∧ x ≠ t) := fun _ => by
    rcases Nat.eq_zero_or_pos k with h | h
    · exact .inl h
    · have h2 : l[k - 1]? = some l[k - 1] := List.getElem?_eq_getElem (by omega)
      exact .inr ⟨_, by omega, h2, h, fun e => hn (by rw [e]; exact List.getElem_mem _)⟩
  have hkl : K = k → k ≤ l.length := fun _ => hk
  cases k with
  | zero =>
    rw [kposF] at hK
    subst hK
    have hdl : (l.drop 0) = l := rfl
    have hb1 : l.length * 24 ≤ 140737488355328 := by omega
    have hb2 : (1 + l.length) * 24 ≤ 140737488355328 := by omega
    refine wkc0 _ ?_
    refine wkc (And.intro @hb1 (And.intro @hb2 (And.intro @intss_dropT (And.intro @intss_takeT (@intss_allT))))) _ ?_
    refine Out.mk (xs := ?_) ?_ ?_ (by first | exact .inr rfl | exact .inl rfl)
    rotate_left
    · simp [go_sem, List.take_of_length_le] <;> with_reducible rfl
    exact Fz.all rfl rfl (by simp; omega) (by simp [intss, intsC]) (intss_clT _)
  | succ k =>
    have hkl1 : k < l.length := by omega
    obtain ⟨t, ht⟩ : ∃ t, l[k]? = some t := ⟨_, List.getElem?_eq_getElem hkl1⟩
    have htm := List.mem_of_getElem? ht
    have htg : l.getD k [] = t := by rw [List.getD_eq_getElem?_getD, ht]; rfl
    have hxt := h3 t htm
    have cl := l5Less x t (by omega) (by omega)
    rw [lessL_row x t hxt] at cl
    have cs := l1Same t x (by omega)
    rw [decide_eq_false (fun e => hn (by rw [← e]; exact htm))] at cs
    rw [kposF, htg] at hK
    have hw1 : wr64 (((k + 1 : Nat) : Int) - 1) = (k : Int) := by rw [wr64_id (by omega) (by omega)]; omega
    have hw2 : wr64 (k : Int) = (k : Int) := wr64_id (by omega) (by omega)
    have hit : intsC t = [.im 1 (ints t)] := rfl
    refine wkc (And.intro @hw1 (And.intro @hw2 (And.intro @hkl1 (And.intro @ht (And.intro (@get_E _ _ _ _ ht) (@hit)))))) _ ?_
    by_cases hlt : cmpRow x t < 0
    · rw [if_pos hlt] at hK
      rw [decide_eq_true hlt] at cl
      refine GS.cc (cl) rfl rfl rfl rfl (by simp [go_sem, List.take_of_length_le] <;> with_reducible rfl) rfl (by simp [go_sem, List.take_of_length_le]) ?_
      refine wkc (And.intro @hw1 (@hw2)) _ ?_
      refine ⟨k, ⟨by omega, hK⟩, by omega, ?_⟩
      exact Cov.ofn (id) rfl (by simp [go_sem, List.take_of_length_le, ren, ren1, ren2, okr, okr1, okr2, ChkT, ChkN, BlkN, nf]) (by simp [go_sem, List.take_of_length_le, ren, ren1, ren2, okr, okr1, okr2, ChkT, ChkN, BlkN, nf])
    · rw [if_neg hlt] at hK
      subst hK
      rw [decide_eq_false hlt] at cl
      obtain ⟨K, hKk⟩ : ∃ K, K = k + 1 := ⟨_, rfl⟩
      have hKc : ((k : Int) + 1) = (K : Int) := by omega
      have hKl : K ≤ l.length := by omega
      have hdl : (l.drop K).length = l.length - K := by rw [List.length_drop]
      have htl : (l.take K).length = K := by rw [List.length_take]; omega
      have hmin : min K l.length = K := by omega
      have hb1 : (l.length - K) * 24 ≤ 140737488355328 := by omega
      have hb2 : K * 24 ≤ 140737488355328 := by omega
      have hb3 : (K + 1) * 24 ≤ 140737488355328 := by omega
      have hb4 : (K + 1 + (l.length - K)) * 24 ≤ 140737488355328 := by omega
      rw [← hKk]
      refine GS.cc (cl) rfl rfl rfl rfl (by simp [go_sem, List.take_of_length_le] <;> with_reducible rfl) rfl (by simp [go_sem, List.take_of_length_le]) ?_
      refine wkc (And.intro @hw1 (And.intro @hw2 (And.intro @hkl1 (And.intro @ht (And.intro (@get_E _ _ _ _ ht) (@hit)))))) _ ?_
      refine GS.cc (cs) rfl rfl rfl rfl (by simp [go_sem, List.take_of_length_le] <;> with_reducible rfl) rfl (by simp [go_sem, List.take_of_length_le]) ?_
      refine wkc (And.intro @hKc (And.intro @hKl (And.intro @hmin (And.intro @hb1 (And.intro @hb2 (And.intro @hb3 (And.intro @hb4 (And.intro @intss_dropT (And.intro @intss_takeT (@intss_allT)))))))))) _ ?_
      refine Out.mk (xs := ?_) ?_ ?_ (by first | exact .inr rfl | exact .inl rfl)
      rotate_left
      · simp [go_sem, List.take_of_length_le] <;> with_reducible rfl
      exact Fz.all rfl rfl (by simp; omega) (by simp [intss, intsC]) (intss_clT _)
end Go.Proofs.Ytejpklajfcngbaa.En
end
section
namespace Go.Proofs.Ytejpklajfcngbaa.En
open Go.RowKit
set_option linter.unusedSimpArgs false
set_option linter.unusedVariables false
set_option maxHeartbeats 8000000
theorem putL_split (n : Int) : ∀ (l : List Int) (k : Nat), k ≤ l.length → (∀ j, j < k → ∀ x, l[j]? = some x → x < n) → putL l n = l.take k ++ putL (l.drop k) n
  | l, 0, _, _ => by simp
  | [], k + 1, h, _ => by simp at h
  | x :: xs, k + 1, h, hp => by
    have hx : x < n := hp 0 (by omega) x (by simp)
    have ih := putL_split n xs k (by simpa using h) (fun j hj y hy => hp (j + 1) (by omega) y (by simpa using hy))
    rw [List.take_succ_cons, List.drop_succ_cons, putL, if_pos hx, ih]; rfl
theorem ints_all (l : List Int) (P : List AV → Prop) : (∀ x, x ∈ ints l → P x) ↔ ∀ n, n ∈ l → P [.v (.int .i64 n)] := by simp [ints]
theorem l1Put (l : List Int) (n : Int) (hl : l.length ≤ 4000000) : Pure Try.prog 65 [.im 1 (ints l), .v (.int .i64 n)] (.im 1 (ints (putL l n))) := by
  refine Pure.mk (rs := [.tmp 4]) (nt := 48) Try.func65 (by kernel_rfl) rfl rfl rfl (by simp) ?_
  simp only [sl]
  refine wkc0 _ ?_
  refine Holds.loop (ι := Nat) (fun k => ⟨[(0, .im 1 (ints l)), (1, .v (.int .i64 n)), (5, .v (.int .i64 k))], [], 0⟩) (fun k => k ≤ l.length ∧ ∀ j, j < k → ∀ x, l[j]? = some x → x < n) (fun k => l.length - k) 0 ⟨Nat.zero_le _, fun j hj => absurd hj (Nat.not_lt_zero j)⟩ ?_ ?_
  · exact Cov.ofn (id) rfl (by simp [go_sem, List.take_of_length_le, ren, ren1, ren2, okr, okr1, okr2, ChkT, ChkN, BlkN, nf]) (by simp [go_sem, List.take_of_length_le, ren, ren1, ren2, okr, okr1, okr2, ChkT, ChkN, BlkN, nf])
  rintro k ⟨hk, hall⟩
  have stepk : wr64 ((k : Int) + 1) = ((k + 1 : Nat) : Int) := wr64_id (by omega) (by omega)
  have hsp := putL_split n l k hk hall
  have htk : (ints l).take k = ints (l.take k) := by simp [ints, List.map_take]
  have hdk : (ints l).drop k = ints (l.drop k) := by simp [ints, List.map_drop]
  have hi00 : (List.length l - k) = (l.drop k).length := by simp
  by_cases hlt : k < l.length
  · have hxi : l[k]? = some l[k] := List.getElem?_eq_getElem hlt
    have hdr : l.drop k = l[k] :: l.drop (k + 1) := List.drop_eq_getElem_cons hlt
    by_cases hx : l[k] < n
    · refine wkc (And.intro @hlt (@hx)) _ ?_
      refine ⟨k + 1, ⟨by omega, fun j hj y hy => ?_⟩, by omega, ?_⟩
      · by_cases e : j = k
        · subst e; rw [hxi] at hy; cases hy; exact hx
        · exact hall j (by omega) y hy
      rw [stepk]
      exact Cov.ofn (id) rfl (by simp [go_sem, List.take_of_length_le, ren, ren1, ren2, okr, okr1, okr2, ChkT, ChkN, BlkN, nf]) (by simp [go_sem, List.take_of_length_le, ren, ren1, ren2, okr, okr1, okr2, ChkT, ChkN, BlkN, nf])
    · by_cases he : l[k] = n
      · have hv : putL l n = l := by
          rw [hsp, hdr, putL, if_neg hx, if_pos he, ← hdr, List.take_append_drop]
        have he' : (l[k] == n) = true := by simp [he]
        rw [hv]
        refine wkc (And.intro @hlt (And.intro @hx (@he'))) _ ?_
        refine Out.mk (xs := ?_) ?_ ?_ (by first | exact .inr rfl | exact .inl rfl)
        rotate_left
        · simp [go_sem, List.take_of_length_le] <;> with_reducible rfl
        exact .im _ _
      · have hv : ints (putL l n) = ints (l.take k) ++ [.v (.int .i64 n)] :: ints (l.drop k) := by
          rw [hsp, hdr, putL, if_neg hx, if_neg he]; simp [ints]
        have he' : (l[k] == n) = false := by simp [he]
        have hm : min k l.length = k := Nat.min_eq_left hk
        have hb1 : k * 8 ≤ 140737488355328 := by omega
        have hb2 : (k + 1) * 8 ≤ 140737488355328 := by omega
        have hb3 : (k + 1 + (l.length - k)) * 8 ≤ 140737488355328 := by omega
        rw [hv]
        refine wkc (And.intro @hlt (And.intro @hx (And.intro @he' (And.intro @htk (And.intro @hdk (And.intro @hk (And.intro @hm (And.intro @hb1 (And.intro @hb2 (And.intro @hb3 (@ints_all))))))))))) _ ?_
        refine Out.mk (xs := ?_) ?_ ?_ (by first | exact .inr rfl | exact .inl rfl)
        rotate_left
        · simp [go_sem, List.take_of_length_le] <;> with_reducible rfl
        exact Fz.all rfl rfl (by simp; omega) rfl (by rw [← hv]; exact ints_cl _)
  · have hke : k = l.length := by omega
    subst hke
    have hv : ints (putL l n) = ints l ++ [[.v (.int .i64 n)]] := by
      rw [hsp, List.take_length, List.drop_length]; simp [ints, putL]
    have hb1 : l.length * 8 ≤ 140737488355328 := by omega
    have hb2 : (l.length + 1) * 8 ≤ 140737488355328 := by omega
    have hnl : ¬ l.length < l.length := by omega
    rw [List.take_length] at htk
    rw [List.drop_length] at hdk
    rw [hv]
    refine wkc (And.intro @hnl (And.intro @htk (And.intro @hdk (And.intro @hb1 (And.intro @hb2 (@ints_all)))))) _ ?_
    refine Out.mk (xs := ?_) ?_ ?_ (by first | exact .inr rfl | exact .inl rfl)
    rotate_left
    · simp [go_sem, List.take_of_length_le] <;> with_reducible rfl
    exact Fz.all rfl rfl (by simp) rfl (by rw [← hv]; exact ints_cl _)
end Go.Proofs.Ytejpklajfcngbaa.En
end
section
namespace Go.Proofs.Ytejpklajfcngbaa.En
open Go.RowKit
set_option linter.unusedSimpArgs false
set_option linter.unusedVariables false
set_option maxHeartbeats 4000000
section
attribute [local semireducible] G Gq Holds GS Pure Out Fn OutF
variable {P : Program} {nt : NT} {Q : Exit → AS → Prop} {s s' : AS} {c : Code}
theorem Cov.nic {q n i : Nat} (z : Nat) {b : Blk} {row : List AV} (hb : lb s.bl n = some b) (hrow : b.xs = [row]) (hi : row[i]? = some (.v (.slice none 0 0))) : Cov q ⟨s.tm, st s.bl n { b with xs := [row.set i (.im z [])] }, s.nx⟩ s :=
  Cov.reblk hb rfl rfl (by simp [hrow]) fun j row' hj => by
    cases j with
    | succ j => simp at hj
    | zero =>
      simp only [List.getElem?_cons_zero, Option.some.injEq] at hj
      subst hj
      refine ⟨row, by rw [hrow]; rfl, by simp, fun k x' hk => ?_⟩
      by_cases e : i = k
      · subst e
        rw [List.getElem?_set_self (List.getElem?_eq_some_iff.1 hi).1] at hk
        injection hk with hk
        subst hk
        refine ⟨_, hi, fun w S Ow L p u hu => ?_⟩
        obtain ⟨rfl, _⟩ := hu.v_inv
        exact .im z [] none 0 ⟨0, 0, none⟩ (fun _ _ => undef) (Nat.le_refl 0) (fun hx => absurd rfl hx) (fun hx => absurd rfl hx) (fun j row hj => by simp at hj) (fun j row i y hj => by simp at hj) (fun j row i y hj => by simp at hj)
      · rw [List.getElem?_set_ne e] at hk
        exact ⟨x', hk, fun w S Ow L p u hu => hu⟩
theorem Holds.nic (n i z : Nat) {b : Blk} {row : List AV} (hb : lb s.bl n = some b) (hrow : b.xs = [row]) (hi : row[i]? = some (.v (.slice none 0 0))) (hs : (⟨s.tm, st s.bl n { b with xs := [row.set i (.im z [])] }, s.nx⟩ : AS) = s') (h : Holds P nt c Q s') : Holds P nt c Q s :=
  Holds.cov (Cov.nic z hb hrow hi) (by rw [hs]; exact h)
end
theorem arrowsP_mem {l : List RuleT} {t : List Int} (h : t ∈ arrowsP l) : t.length = 3 := by
  obtain ⟨r, _, rfl⟩ := List.mem_map.1 h
  rfl
def macA (g : GrammarT) (i : Nat) : List (List Int) := (arrowsP (g.2.2.take i)).foldl insA []
def macE (g : GrammarT) (i : Nat) : List Int := (endsP (g.2.2.take i)).foldl putL []
theorem macA_next {g : GrammarT} {i : Nat} {r : RuleT} (h : g.2.2[i]? = some r) : macA g (i + 1) = if r.2.length = 0 then macA g i else insA (macA g i) (arrowOf r) := by
  unfold macA
  rw [arrowsP_snoc h, List.foldl_append]
  split <;> rfl
theorem macE_next {g : GrammarT} {i : Nat} {r : RuleT} (h : g.2.2[i]? = some r) : macE g (i + 1) = if r.2.length = 0 then putL (macE g i) r.1 else macE g i := by
  unfold macE
  rw [endsP_snoc h, List.foldl_append]
  split <;> rfl
structure MacOk (g : GrammarT) : Prop where
  ok : OkG g
  nd : g.2.2.Nodup
  rg : ∀ r ∈ g.2.2, notReg r = false
theorem macOk {g : GrammarT} (h1 : goodG g = true) (h2 : regG g = true) : MacOk g := ⟨goodG_ok h1, good_nodup h1, fun r hr => by
  unfold regG at h2
  have := List.any_eq_false.1 (show g.2.2.any notReg = false by simpa using h2) r hr
  simpa using this⟩
theorem MacOk.perm {g : GrammarT} (h : MacOk g) (i : Nat) : (macA g i).Perm (arrowsP (g.2.2.take i)) :=
  (foldA (arrows_nodup (h.nd.sublist (List.take_sublist _ _)) fun r hr => h.rg r (List.mem_of_mem_take hr))).2
theorem MacOk.lenA {g : GrammarT} (h : MacOk g) (i : Nat) : (macA g i).length ≤ 16 := by
  rw [(h.perm i).length_eq]
  have := arrowsP_len (g.2.2.take i)
  rw [List.length_take] at this
  have := h.ok.len
  omega
theorem putL_len (l : List Int) (n : Int) : (putL l n).length ≤ l.length + 1 := by
  induction l with
  | nil => simp [putL]
  | cons x l ih =>
    unfold putL
    split
    · simp only [List.length_cons]; omega
    · split <;> simp
theorem macE_len (g : GrammarT) (hl : g.2.2.length ≤ 16) (i : Nat) : (macE g i).length ≤ 16 := by
  have key : ∀ (a l : List Int), (a.foldl putL l).length ≤ l.length + a.length := by
    intro a
    induction a with
    | nil => intro l; simp
    | cons x a ih =>
      intro l
      have h1 := ih (putL l x)
      have h2 := putL_len l x
      rw [List.foldl_cons, List.length_cons]
      omega
  have h1 := key (endsP (g.2.2.take i)) []
  have h2 := endsP_len (g.2.2.take i)
  rw [List.length_take] at h2
  unfold macE
  simp only [List.length_nil] at h1
  omega
theorem MacOk.new {g : GrammarT} (h : MacOk g) {i : Nat} {r : RuleT} (hr : g.2.2[i]? = some r) (hn : ¬ r.2.length = 0) : arrowOf r ∉ macA g i := by
  have h1 := arrows_nodup (h.nd.sublist (List.take_sublist (i + 1) _)) fun q hq => h.rg q (List.mem_of_mem_take hq)
  rw [arrowsP_snoc hr, if_neg hn, List.nodup_append] at h1
  intro hm
  exact h1.2.2 _ ((h.perm i).mem_iff.1 hm) _ (List.mem_singleton.2 rfl) rfl
theorem MacOk.fin {g : GrammarT} (h : MacOk g) : macA g g.2.2.length = sortedBy cmpRow (arrowsP g.2.2) ∧ macE g g.2.2.length = sorted (endsP g.2.2) := by
  unfold macA macE
  rw [List.take_length]
  exact ⟨foldA_sorted (arrows_nodup h.nd h.rg), (sorted_nodup (ends_nodup h.nd)).symm⟩
theorem specMach (g : GrammarT) (hx : g.2.2.length < 4611686018427387904) (hs : ∀ e ∈ g.2.2, e.2.length < 4611686018427387904) : Pure Try.prog 31 [.ag (grammarC g)] (.tu [.ag (machineC (machV g).1), .v (.bool (machV g).2)]) := by
  have cg := specGoodG g hx hs
  have cr := specIsReg g hx hs
  rw [show (!g.2.2.any notReg) = regG g from rfl] at cr
  unfold machV
  refine Pure.mk (rs := [.cell 2 42, .tmp 3]) (nt := 56) Try.func31 (by kernel_rfl) rfl rfl rfl (by simp) ?_
  simp only [sl, grammarC]
  refine wkdc (@grammarC.eq_1) _ ?_
  cases hg : goodG g with
  | false =>
    rw [hg] at cg
    simp only [Bool.false_and, Bool.false_eq_true, if_false]
    first | refine GS.cc (cg) rfl rfl rfl rfl (by simp [go_sem, List.take_of_length_le, grammarC] <;> with_reducible rfl) rfl (by simp [go_sem, List.take_of_length_le, grammarC]) ?_ | refine Gd.cc (cg) rfl rfl rfl rfl (by simp [go_sem, List.take_of_length_le, grammarC] <;> with_reducible rfl) rfl (by simp [go_sem, List.take_of_length_le, grammarC]) ?_
    refine wkdc0 _ ?_
    refine Out.mk (xs := ?_) ?_ ?_ (by first | exact .inr rfl | exact .inl rfl)
    rotate_left
    · simp [go_sem, List.take_of_length_le] <;> with_reducible rfl
    exact Fz.tuL (.cons (Fz.agL (.cons (.v _) (.cons (.v _) (.cons (Fz.nl _) (.cons (Fz.nl _) .nil))))) (.cons (.v _) .nil))
  | true =>
    rw [hg] at cg
    rw [Bool.true_and]
    first | refine GS.cc (cg) rfl rfl rfl rfl (by simp [go_sem, List.take_of_length_le, grammarC] <;> with_reducible rfl) rfl (by simp [go_sem, List.take_of_length_le, grammarC]) ?_ | refine Gd.cc (cg) rfl rfl rfl rfl (by simp [go_sem, List.take_of_length_le, grammarC] <;> with_reducible rfl) rfl (by simp [go_sem, List.take_of_length_le, grammarC]) ?_
    refine wkdc (@grammarC.eq_1) _ ?_
    cases hr : regG g with
    | false =>
      rw [hr] at cr
      simp only [Bool.false_eq_true, if_false]
      first | refine GS.cc (cr) rfl rfl rfl rfl (by simp [go_sem, List.take_of_length_le, grammarC] <;> with_reducible rfl) rfl (by simp [go_sem, List.take_of_length_le, grammarC]) ?_ | refine Gd.cc (cr) rfl rfl rfl rfl (by simp [go_sem, List.take_of_length_le, grammarC] <;> with_reducible rfl) rfl (by simp [go_sem, List.take_of_length_le, grammarC]) ?_
      refine wkdc0 _ ?_
      refine Out.mk (xs := ?_) ?_ ?_ (by first | exact .inr rfl | exact .inl rfl)
      rotate_left
      · simp [go_sem, List.take_of_length_le] <;> with_reducible rfl
      exact Fz.tuL (.cons (Fz.agL (.cons (.v _) (.cons (.v _) (.cons (Fz.nl _) (.cons (Fz.nl _) .nil))))) (.cons (.v _) .nil))
    | true =>
      rw [hr] at cr
      have hM := macOk hg hr
      have hlen := hM.ok.len
      obtain ⟨e1, e2⟩ := hM.fin
      simp only [if_true]
      rw [← e1, ← e2]
      clear e1 e2
      first | refine GS.cc (cr) rfl rfl rfl rfl (by simp [go_sem, List.take_of_length_le, grammarC] <;> with_reducible rfl) rfl (by simp [go_sem, List.take_of_length_le, grammarC]) ?_ | refine Gd.cc (cr) rfl rfl rfl rfl (by simp [go_sem, List.take_of_length_le, grammarC] <;> with_reducible rfl) rfl (by simp [go_sem, List.take_of_length_le, grammarC]) ?_
      refine wkdc (@grammarC.eq_1) _ ?_
      refine Holds.nic 2 2 1 rfl rfl rfl rfl ?_
      refine Holds.nic 2 3 1 rfl rfl rfl rfl ?_
      refine Holds.loop (ι := Nat) (fun i => ⟨[(1, .pb 0 3 0 0), (2, .pb 1 4 0 0), (4, .pb 2 4 0 0), (22, .im 2 (rules g.2.2)), (23, .v (.int .i64 g.2.2.length)), (24, .v (.int .i64 i))], [(2, ⟨42, 4, [[.v (.int .i64 g.1), .v (.int .i64 g.2.1), .im 1 (intss (macA g i)), .im 1 (ints (macE g i))]]⟩), (1, ⟨42, 4, [[.v (.int .i64 0), .v (.int .i64 0), .v (.slice none 0 0), .v (.slice none 0 0)]]⟩), (0, ⟨31, 3, [grammarC g]⟩)], 3⟩)
        (fun i => i ≤ g.2.2.length) (fun i => g.2.2.length - i) 0 (Nat.zero_le _) ?_ ?_
      · exact Cov.ofn (id) rfl (by simp [go_sem, List.take_of_length_le, ren, ren1, ren2, okr, okr1, okr2, ChkT, ChkN, BlkN, nf, grammarC, st, show macA g 0 = [] from rfl, show macE g 0 = [] from rfl, show intss [] = [] from rfl, show ints [] = [] from rfl]) (by simp [go_sem, List.take_of_length_le, ren, ren1, ren2, okr, okr1, okr2, ChkT, ChkN, BlkN, nf, grammarC, st, show macA g 0 = [] from rfl, show macE g 0 = [] from rfl, show intss [] = [] from rfl, show ints [] = [] from rfl])
      intro i hi
      have stepi : wr64 ((i : Int) + 1) = ((i + 1 : Nat) : Int) := wr64_id (by omega) (by omega)
      refine wkdc0 _ ?_
      refine Holds.cond rfl (fun h => ?_) (fun h => ?_)
      · have hil : i < g.2.2.length := by simpa using h
        obtain ⟨r, hr1⟩ : ∃ r, g.2.2[i]? = some r := ⟨_, List.getElem?_eq_getElem hil⟩
        have hA := macA_next hr1
        have hE := macE_next hr1
        have hla := hM.lenA i
        have hle := macE_len g hlen i
        have hnw := hM.new hr1
        have hmem : ∀ t ∈ macA g i, t.length = 3 := fun t ht => arrowsP_mem ((hM.perm i).mem_iff.1 ht)
        have hreg := reg_rule (hM.rg r (List.mem_of_getElem? hr1))
        have hb0 := hM.ok.s0 r (List.mem_of_getElem? hr1)
        have hb1 := hM.ok.s1 r (List.mem_of_getElem? hr1)
        have ht1 := hM.ok.t1
        have hn1 := hM.ok.n1
        generalize macA g i = M at hA hla hnw hmem ⊢
        generalize macE g i = E at hE hle ⊢
        obtain ⟨l, R⟩ := r
        dsimp only at hA hE hnw hreg hb0 hb1
        rcases hreg with h0 | ⟨x, y, rfl, hx0, hy0⟩
        · have hR : R = [] := List.length_eq_zero_iff.1 h0
          subst hR
          simp only [List.length_nil, if_true] at hA hE
          have cp := l1Put E l (by omega)
          refine wkdc (And.intro @hil (And.intro @hr1 (And.intro (@get_E _ _ _ _ hr1) (@ruleC.eq_1)))) _ ?_
          first | refine GS.cc (cp) rfl rfl rfl rfl (by simp [go_sem, List.take_of_length_le] <;> with_reducible rfl) rfl (by simp [go_sem, List.take_of_length_le]) ?_ | refine Gd.cc (cp) rfl rfl rfl rfl (by simp [go_sem, List.take_of_length_le] <;> with_reducible rfl) rfl (by simp [go_sem, List.take_of_length_le]) ?_
          refine wkdc0 _ ?_
          refine ⟨i + 1, by omega, by omega, ?_⟩
          rw [stepi, hA, hE]
          exact Cov.ofn (nm [0, 1, 2]) rfl (by simp [go_sem, List.take_of_length_le, ren, ren1, ren2, okr, okr1, okr2, ChkT, ChkN, BlkN, nf, grammarC]) (by simp [go_sem, List.take_of_length_le, ren, ren1, ren2, okr, okr1, okr2, ChkT, ChkN, BlkN, nf, grammarC])
        · simp only [List.length_cons, List.length_nil, Nat.reduceAdd, Nat.reduceEqDiff, if_false] at hA hE hnw
          have hxr := hb0 x (.head _)
          have hw1 : wr64 (-1 - x) = -1 - x := wr64_id (by omega) (by omega)
          have har : arrowOf (l, [x, y]) = [l, -1 - x, y] := rfl
          rw [har] at hA hnw
          have ci := l5Insert M [l, -1 - x, y] (by omega) (by simp) (fun t ht => by rw [hmem t ht]; rfl) (hnw (by simp))
          have hin : ints [x, y] = [[.v (.int .i64 x)], [.v (.int .i64 y)]] := rfl
          refine wkdsc (And.intro @hil (And.intro @hr1 (And.intro (@get_E _ _ _ _ hr1) (And.intro @ruleC.eq_1 (@hin))))) _ ?_
          refine Holds.anx [1016] [2013] (fun n => decide (4 ≤ n)) mixed ?_ ?_ ?_; (· kernel_rfl); (· kernel_rfl)
          refine wkdasc (And.intro @hin (@hw1)) _ ?_
          refine Gx.bs (sz := 1) (e := 3) (rows := ints [l, -1 - x, y]) [(41, .v (.int .i64 l)), (46, .v (.int .i64 (-1 - x))), (50, .v (.int .i64 y))] rfl rfl rfl rfl rfl (by simp [go_sem, List.take_of_length_le, Op.operands, cl, cl1, ints]) (by simp [go_sem, List.take_of_length_le, Op.operands, cl, cl1, ints]) (by simp [go_sem, List.take_of_length_le, Op.operands, cl, cl1, ints]) ?_
          refine wkdasc0 _ ?_
          first | refine GS.cc (ci) rfl rfl rfl rfl (by simp [go_sem, List.take_of_length_le] <;> with_reducible rfl) rfl (by simp [go_sem, List.take_of_length_le]) ?_ | refine Gd.cc (ci) rfl rfl rfl rfl (by simp [go_sem, List.take_of_length_le] <;> with_reducible rfl) rfl (by simp [go_sem, List.take_of_length_le]) ?_ | refine Gx.cc (ci) rfl rfl rfl rfl rfl (by simp [go_sem, List.take_of_length_le] <;> with_reducible rfl) rfl (by simp [go_sem, List.take_of_length_le]) ?_ | refine Gx.cch (ci) rfl rfl rfl rfl rfl (by simp [go_sem, List.take_of_length_le] <;> with_reducible rfl) rfl (by simp [go_sem, List.take_of_length_le]) ?_
          refine wkdasc0 _ ?_
          refine ⟨i + 1, by omega, by omega, ?_⟩
          rw [stepi, hA, hE]
          exact Cov.ofn (nm [0, 1, 2]) rfl (by simp [go_sem, List.take_of_length_le, ren, ren1, ren2, okr, okr1, okr2, ChkT, ChkN, BlkN, nf, grammarC]) (by simp [go_sem, List.take_of_length_le, ren, ren1, ren2, okr, okr1, okr2, ChkT, ChkN, BlkN, nf, grammarC])
      · have hie : i = g.2.2.length := by
          have : ¬ i < g.2.2.length := by simpa using h
          omega
        subst hie
        refine wkdac0 _ ?_
        refine Out.mk (xs := ?_) ?_ ?_ (by first | exact .inr rfl | exact .inl rfl)
        rotate_left
        · simp [go_sem, List.take_of_length_le] <;> with_reducible rfl
        exact Fz.tuL (.cons (Fz.agL (.cons (.v _) (.cons (.v _) (.cons (.im _ _) (.cons (.im _ _) .nil))))) (.cons (.v _) .nil))
end Go.Proofs.Ytejpklajfcngbaa.En
end
section
namespace Go.Proofs.Ytejpklajfcngbaa.En
open Go.RowKit
set_option linter.unusedSimpArgs false
set_option linter.unusedVariables false
set_option maxHeartbeats 4000000
def wMachine (x : MachineT) : Nat := wtL wIntS x.2.2.1 + wtL w1 x.2.2.2
def mMachine (k : Int) (x : MachineT) : MachineT := (x.1, x.2.1, mkL wIntS mIntS (k) x.2.2.1, mkL w1 m1 (k + wtL wIntS x.2.2.1) x.2.2.2)
theorem markMachine (x : MachineT) (k : Int) (h0 : 0 ≤ k) (h1 : k + wMachine x ≤ 4611686018427387904) (g20 : x.2.2.1.length ≤ 4611686018427387904) : Fn Try.prog 34 2 [.ag [.v (.int .i64 x.1), .v (.int .i64 x.2.1), .own 0 1 0 (x.2.2.1).length, .own 1 1 0 (x.2.2.2).length], .v (.int .i64 k)] [(0, ⟨26, 1, intssO x.2.2.1⟩), (1, ⟨3, 1, ints x.2.2.2⟩)] (.v (.int .i64 (k + wMachine x))) 2 [(0, ⟨26, 1, intssO (mMachine k x).2.2.1⟩), (1, ⟨3, 1, ints (mMachine k x).2.2.2⟩)] := by
  simp only [wMachine] at h1
  simp only [wMachine, mMachine]
  refine Fn.mk (rs := [.tmp 4]) (nt := 14) Try.func34 (by kernel_rfl) rfl rfl rfl (by simp) ?_
  simp only [sl]
  refine wk0 _ ?_
  refine GS.fnn [0] (markIntSS x.2.2.1 (k) (by omega) (by omega) g20) rfl rfl rfl rfl (by simp [go_sem, List.take_of_length_le, ren, ren1, ren2, okr, okr1, okr2, ChkN, BlkN, List.range_succ, nf] <;> with_reducible rfl) (by simp [go_sem, List.take_of_length_le, ren, ren1, ren2, okr, okr1, okr2, ChkN, BlkN, List.range_succ, nf]) (by simp [go_sem, List.take_of_length_le, ren, ren1, ren2, okr, okr1, okr2, ChkN, BlkN, List.range_succ, nf]) (by simp [List.range_succ, lb]) (ChkN.toB (by simp [go_sem, List.take_of_length_le, ren, ren1, ren2, okr, okr1, okr2, ChkN, BlkN, List.range_succ, nf])) (by decide) (by simp) rfl (.nfr (by simp) .nil) (by simp [go_sem, List.take_of_length_le, ren, ren1, ren2, okr, okr1, okr2, ChkN, BlkN, List.range_succ, nf] <;> with_reducible rfl) ?_
  refine wk0 _ ?_
  refine GS.fnn [1] (markIntS x.2.2.2 (k + wtL wIntS x.2.2.1) (by omega) (by omega)) rfl rfl rfl rfl (by simp [go_sem, List.take_of_length_le, ren, ren1, ren2, okr, okr1, okr2, ChkN, BlkN, List.range_succ, nf] <;> with_reducible rfl) (by simp [go_sem, List.take_of_length_le, ren, ren1, ren2, okr, okr1, okr2, ChkN, BlkN, List.range_succ, nf]) (by simp [go_sem, List.take_of_length_le, ren, ren1, ren2, okr, okr1, okr2, ChkN, BlkN, List.range_succ, nf]) (by simp [List.range_succ, lb]) (ChkN.toB (by simp [go_sem, List.take_of_length_le, ren, ren1, ren2, okr, okr1, okr2, ChkN, BlkN, List.range_succ, nf])) (by decide) (by simp) rfl (.nfr (by simp) .nil) (by simp [go_sem, List.take_of_length_le, ren, ren1, ren2, okr, okr1, okr2, ChkN, BlkN, List.range_succ, nf] <;> with_reducible rfl) ?_
  refine wk0 _ ?_
  refine OutF.mkn (xs := ?_) (nm [0, 1]) ?_ ?_ ?_ ?_ ?_ (by first | exact .inr rfl | exact .inl rfl)
  rotate_left
  · simp [go_sem, List.take_of_length_le, Int.add_assoc, cnt] <;> with_reducible rfl
  · simp [go_sem, List.take_of_length_le, ren, ren1, ren2, okr, okr1, okr2, ChkN, BlkN, List.range_succ, nf, Int.add_assoc, cnt]
  · simp [go_sem, List.take_of_length_le, ren, ren1, ren2, okr, okr1, okr2, ChkN, BlkN, List.range_succ, nf, Int.add_assoc, cnt]
  · simp [go_sem, List.take_of_length_le, ren, ren1, ren2, okr, okr1, okr2, ChkN, BlkN, List.range_succ, nf, Int.add_assoc, cnt]
  · rfl
theorem heldMachine (x : MachineT) (k : Int) (h0 : 0 ≤ k) (h1 : k + wMachine x ≤ 4611686018427387904) (g20 : x.2.2.1.length ≤ 4611686018427387904) : Pure Try.prog 35 [.ag (machineC (mMachine k x)), .v (.int .i64 k)] (.v (.int .i64 (k + wMachine x))) := by
  simp only [wMachine] at h1
  simp only [wMachine, mMachine]
  refine Pure.mk (rs := [.tmp 4]) (nt := 18) Try.func35 (by kernel_rfl) rfl rfl rfl (by simp) ?_
  simp only [sl, machineC]
  refine wk0 _ ?_
  refine GS.cc (heldIntSS x.2.2.1 (k) (by omega) (by omega) g20) rfl rfl rfl rfl (by simp [go_sem, List.take_of_length_le] <;> with_reducible rfl) rfl (by simp [go_sem, List.take_of_length_le]) ?_
  refine wk0 _ ?_
  refine Holds.cond rfl (fun hl => absurd hl (by simp; omega)) (fun hl => ?_)
  refine wk0 _ ?_
  refine GS.cc (heldIntS x.2.2.2 (k + wtL wIntS x.2.2.1) (by omega) (by omega)) rfl rfl rfl rfl (by simp [go_sem, List.take_of_length_le] <;> with_reducible rfl) rfl (by simp [go_sem, List.take_of_length_le]) ?_
  refine wk0 _ ?_
  refine Holds.cond rfl (fun hl => absurd hl (by simp; omega)) (fun hl => ?_)
  refine wk0 _ ?_
  try simp only [wtL_w1, Int.natCast_add, ← Int.add_assoc]
  refine Out.mk (xs := ?_) ?_ ?_ (by first | exact .inr rfl | exact .inl rfl)
  rotate_left
  · simp [go_sem, List.take_of_length_le] <;> with_reducible rfl
  exact .v _
end Go.Proofs.Ytejpklajfcngbaa.En
end
section
namespace Go.Proofs.Ytejpklajfcngbaa.En
open Go.RowKit
set_option linter.unusedSimpArgs false
set_option linter.unusedVariables false
@[simp] theorem nfr_nodes (l : List Node3) : nfr (nodes l) := nfr_of_ok (nodes_ok l)
@[simp] theorem nfr_edges (l : List Edge3) : nfr (edges l) := nfr_of_ok (edges_ok l)
end Go.Proofs.Ytejpklajfcngbaa.En
end
section
namespace Go.Proofs.Ytejpklajfcngbaa.En
open Go.RowKit
set_option linter.unusedSimpArgs false
set_option linter.unusedVariables false
set_option maxHeartbeats 4000000
@[simp] theorem onyR_nodes (l : List (Node3)) : onyR (nodes l) := fun row hr x hx => by
  have := nodes_ok l row hr x hx
  simp only [nodes, List.mem_map] at hr
  obtain ⟨n, _, rfl⟩ := hr
  simp only [nodeC, List.mem_cons, List.not_mem_nil, or_false] at hx
  rcases hx with rfl | rfl | rfl <;> simp
def edgeO (x : Edge3) : List AV := [.v (.int .i64 x.1), .v (.int .i64 x.2.1), .ow 3 1 (ints x.2.2)]
def edgesO (l : List Edge3) : List (List AV) := l.map edgeO
@[simp] theorem edgesO_len (l : List (Edge3)) : (edgesO l).length = l.length := by simp [edgesO]
@[simp] theorem edgesO_get (l : List (Edge3)) (i : Nat) : (edgesO l)[i]? = (l[i]?).map edgeO := by simp [edgesO]
@[simp] theorem edgesO_gE (l : List (Edge3)) (i : Nat) (h : i < (edgesO l).length) : (edgesO l)[i] = edgeO (l[i]'(by simpa using h)) := by simp [edgesO]
theorem edgesO_all (p : AV → Prop) (l : List (Edge3)) (h : ∀ x ∈ l, ∀ y ∈ edgeO x, p y) : ∀ row ∈ edgesO l, ∀ y ∈ row, p y := by
  intro row hr y hy
  simp only [edgesO, List.mem_map] at hr
  obtain ⟨n, hn, rfl⟩ := hr
  exact h n hn y hy
@[simp] theorem nfr_edgesO (l : List (Edge3)) : nfr (edgesO l) := edgesO_all _ l fun x _ y hy => by simp only [edgeO, List.mem_cons, List.not_mem_nil, or_false] at hy; rcases hy with rfl | rfl | rfl <;> rfl
@[simp] theorem onyR_edgesO (l : List (Edge3)) : onyR (edgesO l) := edgesO_all _ l fun x _ y hy => by simp only [edgeO, List.mem_cons, List.not_mem_nil, or_false] at hy; rcases hy with rfl | rfl | rfl <;> simp
end Go.Proofs.Ytejpklajfcngbaa.En
end
section
namespace Go.Proofs.Ytejpklajfcngbaa.En
open Go.RowKit
set_option linter.unusedSimpArgs false
set_option linter.unusedVariables false
set_option maxHeartbeats 4000000
@[simp] theorem onyR_dones (l : List (DoneT)) : onyR (dones l) := fun row hr x hx => by
  have := dones_ok l row hr x hx
  simp only [dones, List.mem_map] at hr
  obtain ⟨n, _, rfl⟩ := hr
  simp only [doneC, List.mem_cons, List.not_mem_nil, or_false] at hx
  rcases hx with rfl | rfl | rfl | rfl <;> simp
end Go.Proofs.Ytejpklajfcngbaa.En
end
section
namespace Go.Proofs.Ytejpklajfcngbaa.En
open Go.RowKit
set_option linter.unusedSimpArgs false
set_option linter.unusedVariables false
theorem wtL_bound {α : Type} {w : α → Nat} {c : Nat} : ∀ {xs : List α}, (∀ x ∈ xs, w x ≤ c) → wtL w xs ≤ c * xs.length
  | [], _ => by simp [wtL]
  | x :: xs, h => by
    have h1 := h x (by simp)
    have h2 := wtL_bound (xs := xs) (fun y hy => h y (by simp [hy]))
    simp only [wtL, List.length_cons, Nat.mul_succ]; omega
end Go.Proofs.Ytejpklajfcngbaa.En
end
section
namespace Go.Proofs.Ytejpklajfcngbaa.En
open Go.RowKit
set_option linter.unusedSimpArgs false
set_option linter.unusedVariables false
set_option maxHeartbeats 4000000
theorem symbolOfM (x : Int) (h0 : -100 ≤ x) (h1 : x ≤ 100) : Pure Try.prog 68 [.v (.int .i64 x)] (.v (.int .i64 (-1 - x))) := by
  refine Pure.mk (rs := [.tmp 2]) (nt := 5) Try.func68 (by kernel_rfl) rfl rfl rfl (by simp) ?_
  simp only [sl]
  have hw : wr64 (-1 - x) = -1 - x := wr64_id (by omega) (by omega)
  refine wkc (@hw) _ ?_
  refine Out.mk (xs := ?_) ?_ ?_ (by first | exact .inr rfl | exact .inl rfl)
  rotate_left
  · simp [go_sem, List.take_of_length_le] <;> with_reducible rfl
  exact .v _
theorem implMach (g : GrammarT) (hx : g.2.2.length < 4611686018427387904) (hs : ∀ e ∈ g.2.2, e.2.length < 4611686018427387904) : Fn Try.prog 32 0 [.ag (grammarC g)] [] (.tu [.ag [.v (.int .i64 (machV g).1.1), .v (.int .i64 (machV g).1.2.1), .own 0 1 0 (machV g).1.2.2.1.length, .own 1 1 0 (machV g).1.2.2.2.length], .v (.bool (machV g).2)]) 2 [(0, ⟨26, 1, intssO (machV g).1.2.2.1⟩), (1, ⟨3, 1, ints (machV g).1.2.2.2⟩)] := by
  have cg := implGoodG g hx hs
  have cr := implIsReg g hx hs
  rw [show (!g.2.2.any notReg) = regG g from rfl] at cr
  unfold machV
  refine Fn.mk (rs := [.cell 2 42, .tmp 3]) (nt := 64) Try.func32 (by kernel_rfl) rfl rfl rfl (by simp) ?_
  simp only [sl, grammarC]
  refine wkdc (@grammarC.eq_1) _ ?_
  cases hg : goodG g with
  | false =>
    rw [hg] at cg
    simp only [Bool.false_and, Bool.false_eq_true, if_false]
    first | refine GS.cc (cg) rfl rfl rfl rfl (by simp [go_sem, List.take_of_length_le, grammarC] <;> with_reducible rfl) rfl (by simp [go_sem, List.take_of_length_le, grammarC]) ?_ | refine Gd.cc (cg) rfl rfl rfl rfl (by simp [go_sem, List.take_of_length_le, grammarC] <;> with_reducible rfl) rfl (by simp [go_sem, List.take_of_length_le, grammarC]) ?_
    refine wkdc0 _ ?_
    refine OutF.cov (Cov.nir (n := 1) (j := 0) (i := 2) 26 1 rfl rfl rfl) ?_
    refine OutF.cov (Cov.nir (n := 1) (j := 0) (i := 3) 3 1 rfl rfl rfl) ?_
    refine OutF.mkn (xs := ?_) (nm [2, 3]) ?_ ?_ ?_ ?_ ?_ (by first | exact .inr rfl | exact .inl rfl)
    rotate_left
    · simp [go_sem, List.take_of_length_le, nirw, st, ints, intssO] <;> with_reducible rfl
    · simp [go_sem, List.take_of_length_le, ren, ren1, ren2, okr, okr1, okr2, ChkN, BlkN, List.range_succ, nf, nirw, st, ints, intssO]
    · simp [go_sem, List.take_of_length_le, ren, ren1, ren2, okr, okr1, okr2, ChkN, BlkN, List.range_succ, nf, nirw, st, ints, intssO]
    · simp [go_sem, List.take_of_length_le, ren, ren1, ren2, okr, okr1, okr2, ChkN, BlkN, List.range_succ, nf, nirw, st, ints, intssO]
    · rfl
  | true =>
    rw [hg] at cg
    rw [Bool.true_and]
    first | refine GS.cc (cg) rfl rfl rfl rfl (by simp [go_sem, List.take_of_length_le, grammarC] <;> with_reducible rfl) rfl (by simp [go_sem, List.take_of_length_le, grammarC]) ?_ | refine Gd.cc (cg) rfl rfl rfl rfl (by simp [go_sem, List.take_of_length_le, grammarC] <;> with_reducible rfl) rfl (by simp [go_sem, List.take_of_length_le, grammarC]) ?_
    refine wkdc (@grammarC.eq_1) _ ?_
    cases hr : regG g with
    | false =>
      rw [hr] at cr
      simp only [Bool.false_eq_true, if_false]
      first | refine GS.cc (cr) rfl rfl rfl rfl (by simp [go_sem, List.take_of_length_le, grammarC] <;> with_reducible rfl) rfl (by simp [go_sem, List.take_of_length_le, grammarC]) ?_ | refine Gd.cc (cr) rfl rfl rfl rfl (by simp [go_sem, List.take_of_length_le, grammarC] <;> with_reducible rfl) rfl (by simp [go_sem, List.take_of_length_le, grammarC]) ?_
      refine wkdc0 _ ?_
      refine OutF.cov (Cov.nir (n := 1) (j := 0) (i := 2) 26 1 rfl rfl rfl) ?_
      refine OutF.cov (Cov.nir (n := 1) (j := 0) (i := 3) 3 1 rfl rfl rfl) ?_
      refine OutF.mkn (xs := ?_) (nm [2, 3]) ?_ ?_ ?_ ?_ ?_ (by first | exact .inr rfl | exact .inl rfl)
      rotate_left
      · simp [go_sem, List.take_of_length_le, nirw, st, ints, intssO] <;> with_reducible rfl
      · simp [go_sem, List.take_of_length_le, ren, ren1, ren2, okr, okr1, okr2, ChkN, BlkN, List.range_succ, nf, nirw, st, ints, intssO]
      · simp [go_sem, List.take_of_length_le, ren, ren1, ren2, okr, okr1, okr2, ChkN, BlkN, List.range_succ, nf, nirw, st, ints, intssO]
      · simp [go_sem, List.take_of_length_le, ren, ren1, ren2, okr, okr1, okr2, ChkN, BlkN, List.range_succ, nf, nirw, st, ints, intssO]
      · rfl
    | true =>
      rw [hr] at cr
      have hM := macOk hg hr
      have hlen := hM.ok.len
      simp only [if_true]
      have hnd := arrows_nodup hM.nd hM.rg
      have h3 : ∀ t ∈ arrowsP g.2.2, t.length = 3 := fun t ht => arrowsP_mem ht
      have hlA := arrowsP_len g.2.2
      have hlE := endsP_len g.2.2
      have cA := sortLists (arrowsP g.2.2) (by omega) hnd (fun t ht => by rw [h3 t ht]; omega) 26
      have cE := sortInts (endsP g.2.2) (by omega)
      first | refine GS.cc (cr) rfl rfl rfl rfl (by simp [go_sem, List.take_of_length_le, grammarC] <;> with_reducible rfl) rfl (by simp [go_sem, List.take_of_length_le, grammarC]) ?_ | refine Gd.cc (cr) rfl rfl rfl rfl (by simp [go_sem, List.take_of_length_le, grammarC] <;> with_reducible rfl) rfl (by simp [go_sem, List.take_of_length_le, grammarC]) ?_
      refine wkdc (@grammarC.eq_1) _ ?_
      refine Holds.nir 2 0 2 26 1 rfl rfl rfl rfl ?_
      refine Holds.nir 2 0 3 3 1 rfl rfl rfl rfl ?_
      refine Holds.loop (ι := Nat) (fun i => ⟨[(1, .pb 0 3 0 0), (2, .pb 1 4 0 0), (4, .pb 2 4 0 0), (22, .im 2 (rules g.2.2)), (23, .v (.int .i64 g.2.2.length)), (24, .v (.int .i64 i))], [(4, ⟨3, 1, ints (endsP (g.2.2.take i))⟩), (3, ⟨26, 1, intssO (arrowsP (g.2.2.take i))⟩), (2, ⟨42, 4, [[.v (.int .i64 g.1), .v (.int .i64 g.2.1), .own 3 1 0 (arrowsP (g.2.2.take i)).length, .own 4 1 0 (endsP (g.2.2.take i)).length]]⟩), (1, ⟨42, 4, [[.v (.int .i64 0), .v (.int .i64 0), .v (.slice none 0 0), .v (.slice none 0 0)]]⟩), (0, ⟨31, 3, [grammarC g]⟩)], 5⟩)
        (fun i => i ≤ g.2.2.length) (fun i => g.2.2.length - i) 0 (Nat.zero_le _) ?_ ?_
      · exact Cov.ofn (id) rfl (by simp [go_sem, List.take_of_length_le, ren, ren1, ren2, okr, okr1, okr2, ChkT, ChkN, BlkN, nf, grammarC, st, show arrowsP [] = [] from rfl, show endsP [] = [] from rfl, show intssO [] = [] from rfl, show ints [] = [] from rfl]) (by simp [go_sem, List.take_of_length_le, ren, ren1, ren2, okr, okr1, okr2, ChkT, ChkN, BlkN, nf, grammarC, st, show arrowsP [] = [] from rfl, show endsP [] = [] from rfl, show intssO [] = [] from rfl, show ints [] = [] from rfl])
      intro i hi
      have stepi : wr64 ((i : Int) + 1) = ((i + 1 : Nat) : Int) := wr64_id (by omega) (by omega)
      refine wkdc0 _ ?_
      refine Holds.cond rfl (fun h => ?_) (fun h => ?_)
      · have hil : i < g.2.2.length := by simpa using h
        obtain ⟨r, hr1⟩ : ∃ r, g.2.2[i]? = some r := ⟨_, List.getElem?_eq_getElem hil⟩
        have hA := arrowsP_snoc hr1
        have hE := endsP_snoc hr1
        have hla : (arrowsP (g.2.2.take i)).length ≤ 16 := by
          have := arrowsP_len (g.2.2.take i)
          rw [List.length_take] at this; omega
        have hle : (endsP (g.2.2.take i)).length ≤ 16 := by
          have := endsP_len (g.2.2.take i)
          rw [List.length_take] at this; omega
        have hreg := reg_rule (hM.rg r (List.mem_of_getElem? hr1))
        have hb0 := hM.ok.s0 r (List.mem_of_getElem? hr1)
        have ht1 := hM.ok.t1
        generalize arrowsP (g.2.2.take i) = M at hA hla ⊢
        generalize endsP (g.2.2.take i) = E at hE hle ⊢
        have hbE : (E.length + 1) * 8 ≤ 140737488355328 := by omega
        have hbM : (M.length + 1) * 24 ≤ 140737488355328 := by omega
        obtain ⟨l, R⟩ := r
        dsimp only at hA hE hreg hb0
        rcases hreg with h0 | ⟨x, y, rfl, hx0, hy0⟩
        · have hR : R = [] := List.length_eq_zero_iff.1 h0
          subst hR
          simp only [List.length_nil, if_true, List.append_nil] at hA hE
          refine wkdc (And.intro @hil (And.intro @hr1 (And.intro (@get_E _ _ _ _ hr1) (And.intro @ruleC.eq_1 (@hbE))))) _ ?_
          refine ⟨i + 1, by omega, by omega, ?_⟩
          rw [stepi, hA, hE]
          exact Cov.ofn (nm [0, 1, 2, 3, 8]) rfl (by simp [go_sem, List.take_of_length_le, ren, ren1, ren2, okr, okr1, okr2, ChkT, ChkN, BlkN, nf, grammarC, ints_snoc]) (by simp [go_sem, List.take_of_length_le, ren, ren1, ren2, okr, okr1, okr2, ChkT, ChkN, BlkN, nf, grammarC, ints_snoc])
        · simp only [List.length_cons, List.length_nil, Nat.reduceAdd, Nat.reduceEqDiff, if_false, List.append_nil] at hA hE
          have hxr := hb0 x (.head _)
          have cs := symbolOfM x (by omega) (by omega)
          have har : arrowOf (l, [x, y]) = [l, -1 - x, y] := rfl
          rw [har] at hA
          have hin : ints [x, y] = [[.v (.int .i64 x)], [.v (.int .i64 y)]] := rfl
          refine wkdsc (And.intro @hil (And.intro @hr1 (And.intro (@get_E _ _ _ _ hr1) (And.intro @ruleC.eq_1 (@hin))))) _ ?_
          refine Holds.anx [13, 14, 1015, 1017] [0, 1] (fun n => decide (6 ≤ n)) mixed ?_ ?_ ?_; (· kernel_rfl); (· kernel_rfl)
          refine wkdasc (@hin) _ ?_
          first | refine GS.cc (cs) rfl rfl rfl rfl (by simp [go_sem, List.take_of_length_le] <;> with_reducible rfl) rfl (by simp [go_sem, List.take_of_length_le]) ?_ | refine Gd.cc (cs) rfl rfl rfl rfl (by simp [go_sem, List.take_of_length_le] <;> with_reducible rfl) rfl (by simp [go_sem, List.take_of_length_le]) ?_ | refine Gx.cc (cs) rfl rfl rfl rfl rfl (by simp [go_sem, List.take_of_length_le] <;> with_reducible rfl) rfl (by simp [go_sem, List.take_of_length_le]) ?_ | refine Gx.cch (cs) rfl rfl rfl rfl rfl (by simp [go_sem, List.take_of_length_le] <;> with_reducible rfl) rfl (by simp [go_sem, List.take_of_length_le]) ?_
          have hz0 : ints [0, 0, 0] = [[.v (.int .i64 0)], [.v (.int .i64 0)], [.v (.int .i64 0)]] := rfl
          refine wkdasc (And.intro @hbM (@hz0)) _ ?_
          refine ⟨i + 1, by omega, by omega, ?_⟩
          rw [stepi, hA, hE]
          refine Cov.trans ?_ (Cov.close 9 M.length 0 rfl (oAt M _) rfl rfl rfl rfl (by simp) (by simp [nf]))
          have hsn : intssO M ++ [[AV.ow 3 1 [[AV.v (.int .i64 l)], [AV.v (.int .i64 (-1 - x))], [AV.v (.int .i64 y)]]]] = intssO (M ++ [[l, -1 - x, y]]) := oApp M [l, -1 - x, y]
          simp only [rm, st, List.set_set]
          exact Cov.ofn (nm [0, 1, 2, 9, 4]) rfl (by simp [go_sem, List.take_of_length_le, ren, ren1, ren2, okr, okr1, okr2, ChkT, ChkN, BlkN, nf, grammarC, hsn]) (by simp [go_sem, List.take_of_length_le, ren, ren1, ren2, okr, okr1, okr2, ChkT, ChkN, BlkN, nf, grammarC, hsn])
      · have hie : i = g.2.2.length := by
          have : ¬ i < g.2.2.length := by simpa using h
          omega
        subst hie
        rw [List.take_length]
        generalize arrowsP g.2.2 = M at cA hlA hnd h3 ⊢
        generalize endsP g.2.2 = E at cE hlE ⊢
        refine wkdac0 _ ?_
        first | refine GS.fnn [3] (cA) rfl rfl rfl rfl (by simp [go_sem, List.take_of_length_le, ren, ren1, ren2, okr, okr1, okr2, ChkN, BlkN, List.range_succ, nf] <;> with_reducible rfl) (by simp [go_sem, List.take_of_length_le, ren, ren1, ren2, okr, okr1, okr2, ChkN, BlkN, List.range_succ, nf]) (by simp [go_sem, List.take_of_length_le, ren, ren1, ren2, okr, okr1, okr2, ChkN, BlkN, List.range_succ, nf]) (by simp [List.range_succ, lb]) (ChkN.toB (by simp [go_sem, List.take_of_length_le, ren, ren1, ren2, okr, okr1, okr2, ChkN, BlkN, List.range_succ, nf])) (by decide) (by simp) rfl (.nfr (by simp) .nil) (by simp [go_sem, List.take_of_length_le, ren, ren1, ren2, okr, okr1, okr2, ChkN, BlkN, List.range_succ, nf] <;> with_reducible rfl) ?_ | refine Gx.fnn [3] (cA) rfl rfl rfl rfl rfl (by simp [go_sem, List.take_of_length_le, ren, ren1, ren2, okr, okr1, okr2, ChkN, BlkN, List.range_succ, nf] <;> with_reducible rfl) (by simp [go_sem, List.take_of_length_le, ren, ren1, ren2, okr, okr1, okr2, ChkN, BlkN, List.range_succ, nf]) (by simp [go_sem, List.take_of_length_le, ren, ren1, ren2, okr, okr1, okr2, ChkN, BlkN, List.range_succ, nf]) (by simp [List.range_succ, lb]) (ChkN.toB (by simp [go_sem, List.take_of_length_le, ren, ren1, ren2, okr, okr1, okr2, ChkN, BlkN, List.range_succ, nf])) (by decide) (by simp) rfl (.nfr (by simp) .nil) (by simp [go_sem, List.take_of_length_le, ren, ren1, ren2, okr, okr1, okr2, ChkN, BlkN, List.range_succ, nf]) (by simp [go_sem, List.take_of_length_le, ren, ren1, ren2, okr, okr1, okr2, ChkN, BlkN, List.range_succ, nf] <;> with_reducible rfl) ?_ | refine Gx.fnno [3] (cA) rfl rfl rfl rfl rfl (by simp [go_sem, List.take_of_length_le, ren, ren1, ren2, okr, okr1, okr2, ChkN, BlkN, List.range_succ, nf] <;> with_reducible rfl) (by simp [go_sem, List.take_of_length_le, ren, ren1, ren2, okr, okr1, okr2, ChkN, BlkN, List.range_succ, nf]) (by simp [go_sem, List.take_of_length_le, ren, ren1, ren2, okr, okr1, okr2, ChkN, BlkN, List.range_succ, nf]) (by simp [List.range_succ, lb]) (ChkN.toB (by simp [go_sem, List.take_of_length_le, ren, ren1, ren2, okr, okr1, okr2, ChkN, BlkN, List.range_succ, nf])) (by decide) (by simp) rfl (.nfr (by simp) .nil) (by simp [go_sem, List.take_of_length_le, ren, ren1, ren2, okr, okr1, okr2, ChkN, BlkN, List.range_succ, nf] <;> with_reducible rfl) ?_
        refine wkdac0 _ ?_
        first | refine GS.fnn [4] (cE) rfl rfl rfl rfl (by simp [go_sem, List.take_of_length_le, ren, ren1, ren2, okr, okr1, okr2, ChkN, BlkN, List.range_succ, nf] <;> with_reducible rfl) (by simp [go_sem, List.take_of_length_le, ren, ren1, ren2, okr, okr1, okr2, ChkN, BlkN, List.range_succ, nf]) (by simp [go_sem, List.take_of_length_le, ren, ren1, ren2, okr, okr1, okr2, ChkN, BlkN, List.range_succ, nf]) (by simp [List.range_succ, lb]) (ChkN.toB (by simp [go_sem, List.take_of_length_le, ren, ren1, ren2, okr, okr1, okr2, ChkN, BlkN, List.range_succ, nf])) (by decide) (by simp) rfl (.nfr (by simp) .nil) (by simp [go_sem, List.take_of_length_le, ren, ren1, ren2, okr, okr1, okr2, ChkN, BlkN, List.range_succ, nf] <;> with_reducible rfl) ?_ | refine Gx.fnn [4] (cE) rfl rfl rfl rfl rfl (by simp [go_sem, List.take_of_length_le, ren, ren1, ren2, okr, okr1, okr2, ChkN, BlkN, List.range_succ, nf] <;> with_reducible rfl) (by simp [go_sem, List.take_of_length_le, ren, ren1, ren2, okr, okr1, okr2, ChkN, BlkN, List.range_succ, nf]) (by simp [go_sem, List.take_of_length_le, ren, ren1, ren2, okr, okr1, okr2, ChkN, BlkN, List.range_succ, nf]) (by simp [List.range_succ, lb]) (ChkN.toB (by simp [go_sem, List.take_of_length_le, ren, ren1, ren2, okr, okr1, okr2, ChkN, BlkN, List.range_succ, nf])) (by decide) (by simp) rfl (.nfr (by simp) .nil) (by simp [go_sem, List.take_of_length_le, ren, ren1, ren2, okr, okr1, okr2, ChkN, BlkN, List.range_succ, nf]) (by simp [go_sem, List.take_of_length_le, ren, ren1, ren2, okr, okr1, okr2, ChkN, BlkN, List.range_succ, nf] <;> with_reducible rfl) ?_ | refine Gx.fnno [4] (cE) rfl rfl rfl rfl rfl (by simp [go_sem, List.take_of_length_le, ren, ren1, ren2, okr, okr1, okr2, ChkN, BlkN, List.range_succ, nf] <;> with_reducible rfl) (by simp [go_sem, List.take_of_length_le, ren, ren1, ren2, okr, okr1, okr2, ChkN, BlkN, List.range_succ, nf]) (by simp [go_sem, List.take_of_length_le, ren, ren1, ren2, okr, okr1, okr2, ChkN, BlkN, List.range_succ, nf]) (by simp [List.range_succ, lb]) (ChkN.toB (by simp [go_sem, List.take_of_length_le, ren, ren1, ren2, okr, okr1, okr2, ChkN, BlkN, List.range_succ, nf])) (by decide) (by simp) rfl (.nfr (by simp) .nil) (by simp [go_sem, List.take_of_length_le, ren, ren1, ren2, okr, okr1, okr2, ChkN, BlkN, List.range_succ, nf] <;> with_reducible rfl) ?_
        refine wkdac0 _ ?_
        refine OutF.mkn (xs := ?_) (nm [3, 4]) ?_ ?_ ?_ ?_ ?_ (by first | exact .inr rfl | exact .inl rfl)
        rotate_left
        · simp [go_sem, List.take_of_length_le, sorted_len] <;> with_reducible rfl
        · simp [go_sem, List.take_of_length_le, ren, ren1, ren2, okr, okr1, okr2, ChkN, BlkN, List.range_succ, nf, sorted_len]
        · simp [go_sem, List.take_of_length_le, ren, ren1, ren2, okr, okr1, okr2, ChkN, BlkN, List.range_succ, nf, sorted_len]
        · simp [go_sem, List.take_of_length_le, ren, ren1, ren2, okr, okr1, okr2, ChkN, BlkN, List.range_succ, nf, sorted_len]
        · rfl
theorem machV_len (g : GrammarT) : (machV g).1.2.2.1.length ≤ 16 ∧ (∀ e ∈ (machV g).1.2.2.1, e.length ≤ 3) ∧ (machV g).1.2.2.2.length ≤ 16 ∧ wMachine (machV g).1 ≤ 1000 := by
  have key : ∀ m : MachineT, m.2.2.1.length ≤ 16 → (∀ e ∈ m.2.2.1, e.length ≤ 3) → m.2.2.2.length ≤ 16 → m.2.2.1.length ≤ 16 ∧ (∀ e ∈ m.2.2.1, e.length ≤ 3) ∧ m.2.2.2.length ≤ 16 ∧ wMachine m ≤ 1000 := fun m a b c => by
    refine ⟨a, b, c, ?_⟩
    have h2 := wtL_bound (w := wIntS) (c := 3) (xs := m.2.2.1) fun x hx => by
      have := b x hx
      rw [wIntS, wtL_w1]
      omega
    rw [wMachine, wtL_w1]
    omega
  unfold machV
  by_cases h : (goodG g && regG g) = true
  · rw [if_pos h]
    rw [Bool.and_eq_true] at h
    have hM := macOk h.1 h.2
    have hlen := hM.ok.len
    have h1 := arrowsP_len g.2.2
    have h2 := endsP_len g.2.2
    refine key (g.1, g.2.1, sortedBy cmpRow (arrowsP g.2.2), sorted (endsP g.2.2)) (by simp; omega) (fun e he => ?_) (by simp; omega)
    have hp : (sortedBy cmpRow (arrowsP g.2.2)).Perm (arrowsP g.2.2) := List.mergeSort_perm _ _
    rw [arrowsP_mem (hp.mem_iff.1 he)]
    omega
  · rw [if_neg h]
    exact key (0, 0, [], []) (by simp) (fun e he => by cases he) (by simp)
end Go.Proofs.Ytejpklajfcngbaa.En
end
section
namespace Go.Proofs.Ytejpklajfcngbaa.En
open Go.RowKit
set_option linter.unusedSimpArgs false
set_option linter.unusedVariables false
set_option maxHeartbeats 8000000
end Go.Proofs.Ytejpklajfcngbaa.En
end
section
namespace Go.Proofs.Ytejpklajfcngbaa.En
open Go.RowKit
set_option linter.unusedSimpArgs false
set_option linter.unusedVariables false
set_option maxHeartbeats 8000000
theorem lawMach (g : GrammarT) (hxg : g.2.2.length < 8796093022208) (hsg : ∀ e ∈ g.2.2, e.2.length < 35184372088832) : Pure Try.prog 6 [.ag (grammarC g)] (.v (.bool true)) := by
  refine Pure.mk (rs := [.tmp 2]) (nt := 96) Try.func6 (by kernel_rfl) rfl rfl rfl (by simp) ?_
  simp only [sl, grammarC, machineC]
  have hsg' : ∀ e ∈ g.2.2, e.2.length < 4611686018427387904 := fun e he => by have := hsg e he; omega
  have ctg := toGrammar g hxg hsg
  have ceg := eqGrammar g g hxg hsg
  have cog := toGrammarO g hxg hsg
  have hig := szGrammarF_in (n := 1048576) (x := g) (by omega)
  have czg := szGrammar g 1048576 (by omega) (by omega) hxg hsg
  have p1 := specMach g (by omega) hsg'
  have p2 := implMach g (by omega) hsg'
  try simp only [decide_true] at ceg
  have hv := machV_len g
  generalize machV g = v at p1 p2 hv
  obtain ⟨hv1, hv2, hv3, hv4⟩ := hv
  have p3 := p2.pure (r' := .tu [.ag (machineC v.1), .v (.bool v.2)]) (Fz.tuL (.cons (Fz.agL (.cons (.v _) (.cons (.v _) (.cons (fz_intssO _ rfl rfl) (.cons (Fz.all rfl rfl (by simp) rfl (ints_cl _)) .nil))))) (.cons (.v _) .nil)))
  refine wkd0 _ ?_
  first | refine GS.cc (czg) rfl rfl rfl rfl (by simp [go_sem, List.take_of_length_le, grammarC, machineC] <;> with_reducible rfl) rfl (by simp [go_sem, List.take_of_length_le, grammarC, machineC]) ?_ | refine Gd.cc (czg) rfl rfl rfl rfl (by simp [go_sem, List.take_of_length_le, grammarC, machineC] <;> with_reducible rfl) rfl (by simp [go_sem, List.take_of_length_le, grammarC, machineC]) ?_
  refine wkd0 _ ?_
  refine Holds.cond rfl (fun h => ?_) (fun h => ?_)
  · refine wkd0 _ ?_
    refine Out.mk (xs := ?_) ?_ ?_ (by first | exact .inr rfl | exact .inl rfl)
    rotate_left
    · simp [go_sem, List.take_of_length_le] <;> with_reducible rfl
    exact .v _
  have hqg := szGrammar_wt (show 0 ≤ szGrammarF (1048576) g by simp at h; omega)
  refine wkd (And.intro @grammarC.eq_1 (@machineC.eq_1)) _ ?_
  first | refine GS.cc (ctg) rfl rfl rfl rfl (by simp [go_sem, List.take_of_length_le, grammarC, machineC] <;> with_reducible rfl) rfl (by simp [go_sem, List.take_of_length_le, grammarC, machineC]) ?_ | refine Gd.cc (ctg) rfl rfl rfl rfl (by simp [go_sem, List.take_of_length_le, grammarC, machineC] <;> with_reducible rfl) rfl (by simp [go_sem, List.take_of_length_le, grammarC, machineC]) ?_
  refine wkd (And.intro @grammarC.eq_1 (@machineC.eq_1)) _ ?_
  first | refine GS.cc (p1) rfl rfl rfl rfl (by simp [go_sem, List.take_of_length_le, grammarC, machineC] <;> with_reducible rfl) rfl (by simp [go_sem, List.take_of_length_le, grammarC, machineC]) ?_ | refine Gd.cc (p1) rfl rfl rfl rfl (by simp [go_sem, List.take_of_length_le, grammarC, machineC] <;> with_reducible rfl) rfl (by simp [go_sem, List.take_of_length_le, grammarC, machineC]) ?_
  refine wkd (And.intro @grammarC.eq_1 (@machineC.eq_1)) _ ?_
  refine GS.fnn [] (cog) rfl rfl rfl rfl (by simp [go_sem, List.take_of_length_le, ren, ren1, ren2, okr, okr1, okr2, ChkN, BlkN, List.range_succ, nf, grammarC, machineC] <;> with_reducible rfl) (by simp [go_sem, List.take_of_length_le, ren, ren1, ren2, okr, okr1, okr2, ChkN, BlkN, List.range_succ, nf, grammarC, machineC]) (by simp [go_sem, List.take_of_length_le, ren, ren1, ren2, okr, okr1, okr2, ChkN, BlkN, List.range_succ, nf, grammarC, machineC]) (by simp [List.range_succ, lb]) (ChkN.toB (by simp [go_sem, List.take_of_length_le, ren, ren1, ren2, okr, okr1, okr2, ChkN, BlkN, List.range_succ, nf, grammarC, machineC])) (by decide) (by simp) rfl (.nfr (by simp) .nil) (by simp [go_sem, List.take_of_length_le, ren, ren1, ren2, okr, okr1, okr2, ChkN, BlkN, List.range_succ, nf, grammarC, machineC] <;> with_reducible rfl) ?_
  refine wkd (And.intro @grammarC.eq_1 (@machineC.eq_1)) _ ?_
  refine GS.fnnd (p2) rfl rfl rfl rfl (by simp [go_sem, List.take_of_length_le, ren, ren1, ren2, okr, okr1, okr2, List.range_succ, nf, grammarC, machineC] <;> with_reducible rfl) (by exact (.cons (Fz.agL (.cons (.v _) (.cons (.v _) (.cons (fz_rulesO _ rfl rfl) .nil)))) .nil)) (by simp) (by simp [go_sem, List.take_of_length_le, ren, ren1, ren2, okr, okr1, okr2, List.range_succ, nf, grammarC, machineC]) (by simp [go_sem, List.take_of_length_le, ren, ren1, ren2, okr, okr1, okr2, List.range_succ, nf, grammarC, machineC]) rfl (.nfr (by simp) (.nfr (by simp) (.nil))) (by simp [go_sem, List.take_of_length_le, ren, ren1, ren2, okr, okr1, okr2, List.range_succ, nf, grammarC, machineC] <;> with_reducible rfl) ?_
  have ceq := eqMachineX v.1 (by omega) (fun e he => by have := hv2 e he; omega) (by omega)
  try simp only [decide_true] at ceq
  refine wkd (@machineC.eq_1) _ ?_
  first | refine GS.cd (ceq) rfl rfl rfl rfl (by simp [go_sem, List.take_of_length_le, machineC] <;> with_reducible rfl) rfl (by exact (.cons (Fz.agL (.cons (.v _) (.cons (.v _) (.cons (fz_intssO _ rfl rfl) (.cons (Fz.all rfl rfl (by simp) rfl (ints_cl _)) .nil))))) (.cons (Fz.cl rfl) .nil))) rfl ?_ | refine Gd.cd (ceq) rfl rfl rfl rfl (by simp [go_sem, List.take_of_length_le, machineC] <;> with_reducible rfl) rfl (by exact (.cons (Fz.agL (.cons (.v _) (.cons (.v _) (.cons (fz_intssO _ rfl rfl) (.cons (Fz.all rfl rfl (by simp) rfl (ints_cl _)) .nil))))) (.cons (Fz.cl rfl) .nil))) rfl ?_
  clear ceq
  refine wkd (@machineC.eq_1) _ ?_
  refine Holds.cond rfl (fun h => ?_) (fun h => ?_)
  · cases h
  refine wkd0 _ ?_
  first | refine GS.cc (ctg) rfl rfl rfl rfl (by simp [go_sem, List.take_of_length_le, grammarC, machineC] <;> with_reducible rfl) rfl (by simp [go_sem, List.take_of_length_le, grammarC, machineC]) ?_ | refine Gd.cc (ctg) rfl rfl rfl rfl (by simp [go_sem, List.take_of_length_le, grammarC, machineC] <;> with_reducible rfl) rfl (by simp [go_sem, List.take_of_length_le, grammarC, machineC]) ?_
  refine wkd (And.intro @grammarC.eq_1 (@machineC.eq_1)) _ ?_
  first | refine GS.cd (ceg) rfl rfl rfl rfl (by simp [go_sem, List.take_of_length_le, grammarC, machineC] <;> with_reducible rfl) rfl (by exact (.cons (Fz.agL (.cons (.v _) (.cons (.v _) (.cons (fz_rulesO _ rfl rfl) .nil)))) (.cons (Fz.cl rfl) .nil))) rfl ?_ | refine Gd.cd (ceg) rfl rfl rfl rfl (by simp [go_sem, List.take_of_length_le, grammarC, machineC] <;> with_reducible rfl) rfl (by exact (.cons (Fz.agL (.cons (.v _) (.cons (.v _) (.cons (fz_rulesO _ rfl rfl) .nil)))) (.cons (Fz.cl rfl) .nil))) rfl ?_
  refine wkd0 _ ?_
  refine Holds.cond rfl (fun h => ?_) (fun h => ?_)
  · cases h
  have cmg := markGrammar g ((1 : Int)) (by omega) (by omega) (by omega)
  refine wkd0 _ ?_
  refine GS.fnn [2] (cmg) rfl rfl rfl rfl (by simp [go_sem, List.take_of_length_le, ren, ren1, ren2, okr, okr1, okr2, ChkN, BlkN, List.range_succ, nf] <;> with_reducible rfl) (by simp [go_sem, List.take_of_length_le, ren, ren1, ren2, okr, okr1, okr2, ChkN, BlkN, List.range_succ, nf]) (by simp [go_sem, List.take_of_length_le, ren, ren1, ren2, okr, okr1, okr2, ChkN, BlkN, List.range_succ, nf]) (by simp [List.range_succ, lb]) (ChkN.toB (by simp [go_sem, List.take_of_length_le, ren, ren1, ren2, okr, okr1, okr2, ChkN, BlkN, List.range_succ, nf])) (by decide) (by simp) rfl (.nfr (by simp) (.nil)) (by simp [go_sem, List.take_of_length_le, ren, ren1, ren2, okr, okr1, okr2, ChkN, BlkN, List.range_succ, nf] <;> with_reducible rfl) ?_
  have hk0 : ¬ ((1 : Int) + (wGrammar g : Nat) < 0) := by omega
  have ceq := eqMachineX v.1 (by omega) (fun e he => by have := hv2 e he; omega) (by omega)
  try simp only [decide_true] at ceq
  refine wkd (And.intro @hk0 (@machineC.eq_1)) _ ?_
  first | refine GS.cd (ceq) rfl rfl rfl rfl (by simp [go_sem, List.take_of_length_le, hk0, machineC] <;> with_reducible rfl) rfl (by exact (.cons (Fz.agL (.cons (.v _) (.cons (.v _) (.cons (fz_intssO _ rfl rfl) (.cons (Fz.all rfl rfl (by simp) rfl (ints_cl _)) .nil))))) (.cons (Fz.cl rfl) .nil))) rfl ?_ | refine Gd.cd (ceq) rfl rfl rfl rfl (by simp [go_sem, List.take_of_length_le, hk0, machineC] <;> with_reducible rfl) rfl (by exact (.cons (Fz.agL (.cons (.v _) (.cons (.v _) (.cons (fz_intssO _ rfl rfl) (.cons (Fz.all rfl rfl (by simp) rfl (ints_cl _)) .nil))))) (.cons (Fz.cl rfl) .nil))) rfl ?_
  clear ceq
  refine wkd (And.intro @hk0 (@machineC.eq_1)) _ ?_
  refine Holds.cond rfl (fun h => ?_) (fun h => ?_)
  · cases h
  have cm := markMachine v.1 ((1 : Int)) (by omega) (by omega) (by omega)
  have ch4 := heldMachine v.1 ((1 : Int)) (by omega) (by omega) (by omega)
  try simp only [wtL_w1] at cm ch4
  refine wkd0 _ ?_
  refine GS.fnn [4, 5] (cm) rfl rfl rfl rfl (by simp [go_sem, List.take_of_length_le, ren, ren1, ren2, okr, okr1, okr2, ChkN, BlkN, List.range_succ, nf] <;> with_reducible rfl) (by simp [go_sem, List.take_of_length_le, ren, ren1, ren2, okr, okr1, okr2, ChkN, BlkN, List.range_succ, nf]) (by simp [go_sem, List.take_of_length_le, ren, ren1, ren2, okr, okr1, okr2, ChkN, BlkN, List.range_succ, nf]) (by simp [List.range_succ, lb]) (ChkN.toB (by simp [go_sem, List.take_of_length_le, ren, ren1, ren2, okr, okr1, okr2, ChkN, BlkN, List.range_succ, nf])) (by decide) (by simp) rfl (.nfr (by simp) (.nfr (by simp) .nil)) (by simp [go_sem, List.take_of_length_le, ren, ren1, ren2, okr, okr1, okr2, ChkN, BlkN, List.range_succ, nf] <;> with_reducible rfl) ?_
  clear cm
  refine wkd0 _ ?_
  first | refine GS.cd (ch4) rfl rfl rfl rfl (by simp [go_sem, List.take_of_length_le] <;> with_reducible rfl) rfl (by exact (.cons (Fz.agL (.cons (.v _) (.cons (.v _) (.cons (fz_intssO _ rfl (by simp [mMachine])) (.cons (Fz.all rfl rfl (by simp [mMachine]) rfl (ints_cl _)) .nil))))) (.cons (.v _) .nil))) rfl ?_ | refine Gd.cd (ch4) rfl rfl rfl rfl (by simp [go_sem, List.take_of_length_le] <;> with_reducible rfl) rfl (by exact (.cons (Fz.agL (.cons (.v _) (.cons (.v _) (.cons (fz_intssO _ rfl (by simp [mMachine])) (.cons (Fz.all rfl rfl (by simp [mMachine]) rfl (ints_cl _)) .nil))))) (.cons (.v _) .nil))) rfl ?_
  have hk4 : ¬ ((1 : Int) + (wMachine v.1 : Nat) < 0) := by omega
  refine wkd (@hk4) _ ?_
  refine Holds.cond rfl (fun h => ?_) (fun h => ?_)
  · cases h
  refine wkd0 _ ?_
  refine Holds.cond rfl (fun h => ?_) (fun h => ?_)
  · cases h
  refine wkd (And.intro @grammarC.eq_1 (@machineC.eq_1)) _ ?_
  first | refine GS.cc (ctg) rfl rfl rfl rfl (by simp [go_sem, List.take_of_length_le, grammarC, machineC] <;> with_reducible rfl) rfl (by simp [go_sem, List.take_of_length_le, grammarC, machineC]) ?_ | refine Gd.cc (ctg) rfl rfl rfl rfl (by simp [go_sem, List.take_of_length_le, grammarC, machineC] <;> with_reducible rfl) rfl (by simp [go_sem, List.take_of_length_le, grammarC, machineC]) ?_
  refine wkd (And.intro @grammarC.eq_1 (@machineC.eq_1)) _ ?_
  first | refine GS.cc (p3) rfl rfl rfl rfl (by simp [go_sem, List.take_of_length_le, grammarC, machineC] <;> with_reducible rfl) rfl (by simp [go_sem, List.take_of_length_le, grammarC, machineC]) ?_ | refine Gd.cc (p3) rfl rfl rfl rfl (by simp [go_sem, List.take_of_length_le, grammarC, machineC] <;> with_reducible rfl) rfl (by simp [go_sem, List.take_of_length_le, grammarC, machineC]) ?_
  have ceq := eqMachineX v.1 (by omega) (fun e he => by have := hv2 e he; omega) (by omega)
  try simp only [decide_true] at ceq
  refine wkd (@machineC.eq_1) _ ?_
  first | refine GS.cc (ceq) rfl rfl rfl rfl (by simp [go_sem, List.take_of_length_le, machineC] <;> with_reducible rfl) rfl (by simp [go_sem, List.take_of_length_le, machineC]) ?_ | refine Gd.cc (ceq) rfl rfl rfl rfl (by simp [go_sem, List.take_of_length_le, machineC] <;> with_reducible rfl) rfl (by simp [go_sem, List.take_of_length_le, machineC]) ?_
  clear ceq
  refine wkd (@machineC.eq_1) _ ?_
  refine Holds.cond rfl (fun h => ?_) (fun h => ?_)
  · cases h
  refine wkd0 _ ?_
  first | refine GS.cd (ch4) rfl rfl rfl rfl (by simp [go_sem, List.take_of_length_le] <;> with_reducible rfl) rfl (by exact (.cons (Fz.agL (.cons (.v _) (.cons (.v _) (.cons (fz_intssO _ rfl (by simp [mMachine])) (.cons (Fz.all rfl rfl (by simp [mMachine]) rfl (ints_cl _)) .nil))))) (.cons (.v _) .nil))) rfl ?_ | refine Gd.cd (ch4) rfl rfl rfl rfl (by simp [go_sem, List.take_of_length_le] <;> with_reducible rfl) rfl (by exact (.cons (Fz.agL (.cons (.v _) (.cons (.v _) (.cons (fz_intssO _ rfl (by simp [mMachine])) (.cons (Fz.all rfl rfl (by simp [mMachine]) rfl (ints_cl _)) .nil))))) (.cons (.v _) .nil))) rfl ?_
  have hk4 : ¬ ((1 : Int) + (wMachine v.1 : Nat) < 0) := by omega
  refine wkd (@hk4) _ ?_
  refine Holds.cond rfl (fun h => ?_) (fun h => ?_)
  · cases h
  refine wkd0 _ ?_
  refine Holds.cond rfl (fun h => ?_) (fun h => ?_)
  · cases h
  refine wkd0 _ ?_
  refine Out.mk (xs := ?_) ?_ ?_ (by first | exact .inr rfl | exact .inl rfl)
  rotate_left
  · simp [go_sem, List.take_of_length_le] <;> with_reducible rfl
  exact .v _
end Go.Proofs.Ytejpklajfcngbaa.En
end
