/- BestAnyCost: the plain law: the table of least costs, turned until it stands. -/
import Derived.Test.YtaiefncpgkoniaaGc
namespace Go.Proofs.Ytaiefncpgkoniaa.En
open Go.RowKit
set_option linter.unusedSimpArgs false
set_option linter.unusedVariables false
/-- Numbers as the cells of an array. -/
def intc (xs : List Int) : List AV := xs.map fun n => .v (.int .i64 n)
@[simp] theorem intc_len (xs : List Int) : (intc xs).length = xs.length := by simp [intc]
@[simp] theorem intc_get (xs : List Int) (i : Nat) : (intc xs)[i]? = (xs[i]?).map fun n => .v (.int .i64 n) := by simp [intc]
@[simp] theorem intc_gE (xs : List Int) (i : Nat) (h : i < (intc xs).length) : (intc xs)[i] = .v (.int .i64 (xs[i]'(by simpa using h))) := by simp [intc]
@[simp] theorem intc_set (xs : List Int) (i : Nat) (n : Int) : (intc xs).set i (.v (.int .i64 n)) = intc (xs.set i n) := by simp [intc, List.map_set]
@[simp] theorem nfc_intc (xs : List Int) : nfc (intc xs) := fun x hx => by
  simp only [intc, List.mem_map] at hx
  obtain ⟨n, _, rfl⟩ := hx
  rfl
def gB (B : List Int) (x : Int) : Int := B.getD x.toNat 0
def stI (B : List Int) (n x : Int) : Int := if x < 0 ∨ n = 0 then n else if gB B x = 0 then 0 else n + gB B x
def stS (B : List Int) (n x : Int) : Int := if 0 ≤ x ∧ gB B x = 0 then -1000000 else if 0 ≤ x then n + gB B x else n
def sumB (B : List Int) (c : Int) (right : List Int) : Int := right.foldl (stI B) c
def sumS (B : List Int) (c : Int) (right : List Int) : Int := right.foldl (stS B) c
theorem gB_in {B : List Int} {V : Int} (h : ∀ b ∈ B, 0 ≤ b ∧ b ≤ V) (hV : 0 ≤ V) (x : Int) : 0 ≤ gB B x ∧ gB B x ≤ V := by
  unfold gB
  by_cases hx : x.toNat < B.length
  · rw [List.getD_eq_getElem?_getD, List.getElem?_eq_getElem hx]
    exact h _ (List.getElem_mem hx)
  · rw [List.getD_eq_getElem?_getD, List.getElem?_eq_none (by omega)]
    exact ⟨Int.le_refl 0, hV⟩
/-- The two sums side by side. -/
theorem sums (B : List Int) (V c : Int) (h : ∀ b ∈ B, 0 ≤ b ∧ b ≤ V) (hV : 0 ≤ V) (hV1 : V ≤ 136500) : ∀ (r : List Int) (t : Nat) (n s : Int), t + r.length ≤ 4 → n ≤ c + V * t → ((0 < n ∧ s = n) ∨ (n = 0 ∧ s ≤ -1000000 + V * t)) →
    r.foldl (stI B) n ≤ c + V * (t + r.length : Nat) ∧ ((0 < r.foldl (stI B) n ∧ r.foldl (stS B) s = r.foldl (stI B) n) ∨ (r.foldl (stI B) n = 0 ∧ r.foldl (stS B) s ≤ -1000000 + V * 4)) := by
  intro r
  induction r with
  | nil =>
    intro t n s ht hn hr
    refine ⟨by simpa using hn, ?_⟩
    rcases hr with hr | ⟨h1, h2⟩
    · exact .inl hr
    · refine .inr ⟨h1, ?_⟩
      have : V * t ≤ V * 4 := Int.mul_le_mul_of_nonneg_left (by simp at ht; omega) hV
      simp only [List.foldl_nil]; omega
  | cons x r ih =>
    intro t n s ht hn hr
    obtain ⟨g0, g1⟩ := gB_in h hV x
    simp only [List.length_cons] at ht
    have e : V * ((t + 1 : Nat) : Int) = V * t + V := by rw [Int.natCast_add, Int.mul_add]; simp
    have key := ih (t + 1) (stI B n x) (stS B s x) (by omega) (by rw [e]; unfold stI; split; · omega
                                                                  · split <;> omega) (by
      rw [e]
      have e4 : V * (t : Int) ≤ 136500 * 4 := by
        have h1 : V * (t : Int) ≤ 136500 * (t : Int) := Int.mul_le_mul_of_nonneg_right hV1 (by omega)
        omega
      have e5 : 0 ≤ V * (t : Int) := Int.mul_nonneg hV (by omega)
      unfold stI stS
      rcases hr with ⟨h1, rfl⟩ | ⟨rfl, h2⟩
      · by_cases hx : x < 0
        · rw [if_pos (.inl hx), if_neg (by omega), if_neg (by omega)]; exact .inl ⟨h1, rfl⟩
        · rw [if_neg (by omega)]
          by_cases hg : gB B x = 0
          · rw [if_pos hg, if_pos ⟨by omega, hg⟩]; right; omega
          · rw [if_neg hg, if_neg (by omega), if_pos (by omega)]; left; omega
      · rw [if_pos (.inr rfl)]
        by_cases hx : 0 ≤ x
        · by_cases hg : gB B x = 0
          · rw [if_pos ⟨hx, hg⟩]; right; omega
          · rw [if_neg (by omega), if_pos hx]; right; omega
        · rw [if_neg (by omega), if_neg hx]; right; omega)
    rw [List.foldl_cons, List.foldl_cons, List.length_cons, show t + (r.length + 1) = t + 1 + r.length by omega]
    exact key
def VV : Nat → Int
  | 0 => 0
  | m + 1 => 100 + 4 * VV m
theorem VV_nonneg : ∀ m, 0 ≤ VV m
  | 0 => Int.le_refl 0
  | m + 1 => by have := VV_nonneg m; unfold VV; omega
theorem VV_le : ∀ m, VV m ≤ VV (m + 1) := fun m => by have := VV_nonneg m; show VV m ≤ 100 + 4 * VV m; omega
theorem VV_mono {a b : Nat} (h : a ≤ b) : VV a ≤ VV b := by
  induction h with
  | refl => exact Int.le_refl _
  | step _ ih => exact Int.le_trans ih (VV_le _)
theorem VV_six {m : Nat} (h : m ≤ 6) : VV m ≤ 136500 := Int.le_trans (VV_mono h) (by decide)
def nz (B : List Int) : Nat := B.countP (fun b => decide (b ≠ 0))
def tot : List Int → Int
  | [] => 0
  | x :: xs => x + tot xs
theorem tot_set : ∀ (B : List Int) (k : Nat) (s : Int) (h : k < B.length), tot (B.set k s) = tot B - B[k] + s
  | [], k, s, h => by simp at h
  | x :: xs, 0, s, h => by simp [tot]; omega
  | x :: xs, k + 1, s, h => by
    have := tot_set xs k s (by simpa using h)
    simp only [List.set_cons_succ, tot, List.getElem_cons_succ, this]; omega
theorem tot_in (V : Int) : ∀ (B : List Int), (∀ b ∈ B, 0 ≤ b ∧ b ≤ V) → 0 ≤ tot B ∧ tot B ≤ V * B.length
  | [], _ => by simp [tot]
  | x :: xs, h => by
    have h1 := h x (.head _)
    have h2 := tot_in V xs fun b hb => h b (.tail _ hb)
    rw [List.length_cons, Int.natCast_add, Int.mul_add]
    simp only [tot]
    omega
theorem nz_le (B : List Int) : nz B ≤ B.length := List.countP_le_length
theorem nz_set (B : List Int) (k : Nat) (s : Int) (h : k < B.length) (hs : s ≠ 0) : nz (B.set k s) = nz B + if B[k] = 0 then 1 else 0 := by
  unfold nz
  rw [List.countP_set h]
  by_cases hk : B[k] = 0
  · simp [hk, hs]
  · have hp : 0 < List.countP (fun b => decide (b ≠ 0)) B := List.countP_pos_iff.2 ⟨_, List.getElem_mem h, by simpa using hk⟩
    have e1 : decide (B[k] ≠ 0) = true := by simpa using hk
    have e2 : decide (s ≠ 0) = true := by simpa using hs
    rw [e1, e2, if_neg hk]
    simp only [if_true]
    omega
/-- What a table keeps to. -/
structure InvB (nons : Nat) (B : List Int) : Prop where
  len : B.length = 6
  low : ∀ b ∈ B, 0 ≤ b
  up : ∀ b ∈ B, b ≤ VV (nz B)
  out : ∀ k, nons ≤ k → B.getD k 0 = 0
theorem InvB.all {nons : Nat} {B : List Int} (h : InvB nons B) : ∀ b ∈ B, 0 ≤ b ∧ b ≤ VV (nz B) := fun b hb => ⟨h.low b hb, h.up b hb⟩
theorem InvB.nz6 {nons : Nat} {B : List Int} (h : InvB nons B) : nz B ≤ 6 := by have := nz_le B; rw [h.len] at this; exact this
def muB (B : List Int) : Nat := (6 - nz B) * 10000000 + (tot B).toNat
/-- The table is bettered. -/
theorem InvB.set {nons : Nat} {B : List Int} (h : InvB nons B) {k : Nat} (hk : k < nons) (hn : nons ≤ 6) {s : Int} (hs0 : 0 < s) (hs : s ≤ 100 + 4 * VV (nz B)) (hb : B.getD k 0 = 0 ∨ s < B.getD k 0) : InvB nons (B.set k s) ∧ muB (B.set k s) < muB B := by
  have hkl : k < B.length := by rw [h.len]; omega
  have hg : B.getD k 0 = B[k] := by simp [hkl]
  rw [hg] at hb
  have hk0 := h.low _ (List.getElem_mem hkl)
  have hk1 := h.up _ (List.getElem_mem hkl)
  have hnz := nz_set B k s hkl (by omega)
  have ht := tot_set B k s hkl
  have hnn := VV_nonneg (nz B)
  have h6 := h.nz6
  have htl := tot_in (VV (nz B)) B h.all
  have hinv : InvB nons (B.set k s) := by
    refine ⟨by simpa using h.len, fun b hbm => ?_, fun b hbm => ?_, fun j hj => ?_⟩
    · rcases List.mem_or_eq_of_mem_set hbm with g | g
      · exact h.low b g
      · rw [g]; omega
    · rcases List.mem_or_eq_of_mem_set hbm with g | g
      · exact Int.le_trans (h.up b g) (VV_mono (by rw [hnz]; omega))
      · rw [hnz, g]
        split
        · exact hs
        · rename_i g
          have : s < B[k] := hb.resolve_left g
          simp only [Nat.add_zero]; omega
    · have := h.out j hj
      rw [List.getD_eq_getElem?_getD, List.getElem?_set_ne (by omega), ← List.getD_eq_getElem?_getD]
      exact this
  refine ⟨hinv, ?_⟩
  have h62 := hinv.nz6
  have hnew := (tot_in _ _ hinv.all).1
  rw [ht] at hnew
  unfold muB
  rw [hnz, ht]
  rw [hnz] at h62
  have hv6 := VV_six h6
  have hs2 : s ≤ 1000000 := by omega
  split
  · rename_i g
    rw [if_pos g] at h62
    rw [g]
    have : (6 - nz B) = (6 - (nz B + 1)) + 1 := by omega
    rw [this, Nat.add_mul]
    omega
  · rename_i g
    have : s < B[k] := hb.resolve_left g
    simp only [Nat.add_zero]
    omega
/-- One rule. -/
def stepB (p : List Int × Bool) (rc : RuleT × Int) : List Int × Bool :=
  if 0 < sumB p.1 rc.2 rc.1.2 ∧ (gB p.1 rc.1.1 = 0 ∨ sumB p.1 rc.2 rc.1.2 < gB p.1 rc.1.1) then (p.1.set rc.1.1.toNat (sumB p.1 rc.2 rc.1.2), true) else p
def roundB (rs : List (RuleT × Int)) (B : List Int) : List Int × Bool := rs.foldl stepB (B, false)
def iterB (rs : List (RuleT × Int)) : Nat → List Int → List Int
  | 0, B => B
  | n + 1, B => if (roundB rs B).2 then iterB rs n (roundB rs B).1 else (roundB rs B).1
def zeroB : List Int := [0, 0, 0, 0, 0, 0]
def fuelB : Nat := muB zeroB + 1
def bestB (rs : List (RuleT × Int)) : List Int := iterB rs fuelB zeroB
theorem fuel_ok (rs : List (RuleT × Int)) : muB zeroB < fuelB ∧ iterB rs fuelB zeroB = bestB rs := ⟨Nat.lt_succ_self _, rfl⟩
theorem round_next {rs : List (RuleT × Int)} {B : List Int} {fuel : Nat} (hf : muB B < fuel) : iterB rs fuel B = if (roundB rs B).2 then iterB rs (fuel - 1) (roundB rs B).1 else (roundB rs B).1 := by
  obtain ⟨n, rfl⟩ : ∃ n, fuel = n + 1 := ⟨fuel - 1, by omega⟩
  rfl
theorem InvB.zero (nons : Nat) : InvB nons zeroB := ⟨rfl, fun b hb => by simp [zeroB] at hb; omega, fun b hb => by simp [zeroB] at hb; have := VV_nonneg (nz zeroB); omega, fun k _ => by
  unfold zeroB
  match k with
  | 0 | 1 | 2 | 3 | 4 | 5 => rfl
  | k + 6 => rfl⟩
/-- What is known of a rule with its cost. -/
def okRC (nons : Nat) (rc : RuleT × Int) : Prop := 0 ≤ rc.1.1 ∧ rc.1.1 < nons ∧ rc.1.2.length ≤ 4 ∧ (∀ x ∈ rc.1.2, x < nons) ∧ 1 ≤ rc.2 ∧ rc.2 ≤ 100
theorem sum_facts {nons : Nat} {B : List Int} (h : InvB nons B) {rc : RuleT × Int} (hr : okRC nons rc) : sumB B rc.2 rc.1.2 ≤ 100 + 4 * VV (nz B) ∧ ((0 < sumB B rc.2 rc.1.2 ∧ sumS B rc.2 rc.1.2 = sumB B rc.2 rc.1.2) ∨ (sumB B rc.2 rc.1.2 = 0 ∧ sumS B rc.2 rc.1.2 ≤ 0)) := by
  obtain ⟨_, _, h3, _, h5, h6⟩ := hr
  have hv6 := VV_six h.nz6
  have hnn := VV_nonneg (nz B)
  have := sums B (VV (nz B)) rc.2 h.all hnn hv6 rc.1.2 0 rc.2 rc.2 (by omega) (by simp) (.inl ⟨by omega, rfl⟩)
  have e : VV (nz B) * ((0 + rc.1.2.length : Nat) : Int) ≤ VV (nz B) * 4 := Int.mul_le_mul_of_nonneg_left (by omega) hnn
  refine ⟨by unfold sumB; omega, ?_⟩
  rcases this.2 with g | ⟨g1, g2⟩
  · exact .inl g
  · refine .inr ⟨g1, ?_⟩
    unfold sumS
    omega
theorem InvB.stepB {nons : Nat} (hn : nons ≤ 6) {p : List Int × Bool} (h : InvB nons p.1) {rc : RuleT × Int} (hr : okRC nons rc) : InvB nons (En.stepB p rc).1 ∧ muB (En.stepB p rc).1 ≤ muB p.1 ∧ ((En.stepB p rc).2 = true → p.2 = true ∨ muB (En.stepB p rc).1 < muB p.1) := by
  unfold En.stepB
  split
  · rename_i hc
    have := h.set (k := rc.1.1.toNat) (by have := hr.1; have := hr.2.1; omega) hn hc.1 (sum_facts h hr).1 hc.2
    exact ⟨this.1, Nat.le_of_lt this.2, fun _ => .inr this.2⟩
  · exact ⟨h, Nat.le_refl _, fun h => .inl h⟩
attribute [irreducible] fuelB bestB iterB roundB
end Go.Proofs.Ytaiefncpgkoniaa.En
