/- Own words and walks of this claim, part 4: what the program's functions compute, for all the arguments that are named; no further conditions. -/
import Derived.Shelf.Sort.Plain
import Derived.Shelf.Slices.In.SortNone
import Derived.Test.YtenienncgjanpaaProg
import Derived.Test.YtenienncgjanpaaM3
import Derived.Test.YtenienncgjanpaaM2
import Derived.Shelf.Slices.CompactI
import Derived.Shelf.SlSortCmp.NoneTotal
import Derived.Test.YtenienncgjanpaaM1
import Derived.DeepKeys
section
namespace Go.Proofs.Ytenienncgjanpaa.En
open Go.RowKit Go.Shelf
set_option linter.unusedVariables false
end Go.Proofs.Ytenienncgjanpaa.En
end
section
namespace Go.Proofs.Ytenienncgjanpaa.En
open Go.RowKit Go.Shelf Go.Sort
set_option linter.unusedSimpArgs false
set_option linter.unusedVariables false
def sorted (xs : List Int) : List Int := xs.mergeSort fun x y => decide (x ≤ y)
@[simp] theorem sorted_len (xs : List Int) : (sorted xs).length = xs.length := by simp [sorted]
end Go.Proofs.Ytenienncgjanpaa.En
end
section
namespace Go.Proofs.Ytenienncgjanpaa.En
open Go.RowKit Go.Shelf
set_option linter.unusedVariables false
end Go.Proofs.Ytenienncgjanpaa.En
end
section
namespace Go.Proofs.Ytenienncgjanpaa.En
open Go.RowKit Go.Shelf Go.Sort
set_option linter.unusedSimpArgs false
set_option linter.unusedVariables false
def compacted (xs : List Int) : List Int := Go.Lib.compact xs
set_option maxHeartbeats 1000000
end Go.Proofs.Ytenienncgjanpaa.En
end
section
namespace Go.Proofs.Ytenienncgjanpaa.En
open Go.RowKit
set_option linter.unusedSimpArgs false
set_option linter.unusedVariables false
def putL : List Int → Int → List Int
  | [], n => [n]
  | x :: xs, n => if x < n then x :: putL xs n else if x = n then x :: xs else n :: x :: xs
theorem putL_mem (n z : Int) : ∀ l : List Int, z ∈ putL l n ↔ z = n ∨ z ∈ l
  | [] => by simp [putL]
  | x :: xs => by
    have ih := putL_mem n z xs
    unfold putL
    split
    · simp only [List.mem_cons, ih]
      constructor
      · rintro (h | h | h) <;> simp [h]
      · rintro (h | h | h) <;> simp [h]
    · split
      · rename_i h; subst h
        simp only [List.mem_cons]
        constructor
        · intro h; exact .inr h
        · rintro (h | h)
          · exact .inl h
          · exact h
      · simp only [List.mem_cons]
theorem putL_incr (n : Int) : ∀ l : List Int, l.Pairwise (· < ·) → (putL l n).Pairwise (· < ·)
  | [], _ => by simp [putL]
  | x :: xs, h => by
    have ih := putL_incr n xs (List.pairwise_cons.1 h).2
    have hx := (List.pairwise_cons.1 h).1
    unfold putL
    split
    · rename_i hl
      refine List.pairwise_cons.2 ⟨fun z hz => ?_, ih⟩
      rcases (putL_mem n z xs).1 hz with e | e
      · omega
      · exact hx z e
    · split
      · exact h
      · rename_i h1 h2
        refine List.pairwise_cons.2 ⟨fun z hz => ?_, h⟩
        rcases List.mem_cons.1 hz with e | e
        · omega
        · have := hx z e; omega
theorem incr_ext : ∀ {a b : List Int}, a.Pairwise (· < ·) → b.Pairwise (· < ·) → (∀ z, z ∈ a ↔ z ∈ b) → a = b
  | [], [], _, _, _ => rfl
  | [], y :: b, _, _, h => by have := (h y).2 (by simp); cases this
  | x :: a, [], _, _, h => by have := (h x).1 (by simp); cases this
  | x :: a, y :: b, ha, hb, h => by
    have ha1 := (List.pairwise_cons.1 ha).1
    have hb1 := (List.pairwise_cons.1 hb).1
    have hxy : x = y := by
      rcases List.mem_cons.1 ((h x).1 (by simp)) with e | e
      · exact e
      · have h1 := hb1 x e
        rcases List.mem_cons.1 ((h y).2 (by simp)) with e2 | e2
        · exact e2.symm
        · have h2 := ha1 y e2; omega
    subst hxy
    rw [incr_ext (List.pairwise_cons.1 ha).2 (List.pairwise_cons.1 hb).2 fun z => ?_]
    constructor
    · intro hz
      rcases List.mem_cons.1 ((h z).1 (List.mem_cons_of_mem _ hz)) with e | e
      · have := ha1 z hz; omega
      · exact e
    · intro hz
      rcases List.mem_cons.1 ((h z).2 (List.mem_cons_of_mem _ hz)) with e | e
      · have := hb1 z hz; omega
      · exact e
end Go.Proofs.Ytenienncgjanpaa.En
end
section
namespace Go.Proofs.Ytenienncgjanpaa.En
open Go.RowKit
set_option linter.unusedSimpArgs false
set_option linter.unusedVariables false
set_option maxHeartbeats 8000000
theorem putL_split (n : Int) : ∀ (l : List Int) (k : Nat), k ≤ l.length → (∀ j, j < k → ∀ x, l[j]? = some x → x < n) → putL l n = l.take k ++ putL (l.drop k) n
  | l, 0, _, _ => by simp
  | [], k + 1, h, _ => by simp at h
  | x :: xs, k + 1, h, hp => by
    have hx : x < n := hp 0 (by omega) x (by simp)
    have ih := putL_split n xs k (by simpa using h) (fun j hj y hy => hp (j + 1) (by omega) y (by simpa using hy))
    rw [List.take_succ_cons, List.drop_succ_cons, putL, if_pos hx, ih]; rfl
theorem ints_all (l : List Int) (P : List AV → Prop) : (∀ x, x ∈ ints l → P x) ↔ ∀ n, n ∈ l → P [.v (.int .i64 n)] := by simp [ints]
theorem l1Put (l : List Int) (n : Int) (hl : l.length ≤ 4000000) : Pure Try.prog 81 [.im 1 (ints l), .v (.int .i64 n)] (.im 1 (ints (putL l n))) := by
  refine Pure.mk (rs := [.tmp 4]) (nt := 48) Try.func81 (by kernel_rfl) rfl rfl rfl (by simp) ?_
  simp only [sl]
  refine wkc0 _ ?_
  refine Holds.loop (ι := Nat) (fun k => ⟨[(0, .im 1 (ints l)), (1, .v (.int .i64 n)), (5, .v (.int .i64 k))], [], 0⟩) (fun k => k ≤ l.length ∧ ∀ j, j < k → ∀ x, l[j]? = some x → x < n) (fun k => l.length - k) 0 ⟨Nat.zero_le _, fun j hj => absurd hj (Nat.not_lt_zero j)⟩ ?_ ?_
  · exact Cov.ofn (id) rfl (by simp [go_sem, List.take_of_length_le, ren, ren1, ren2, okr, okr1, okr2, ChkT, ChkN, BlkN, nf]) (by simp [go_sem, List.take_of_length_le, ren, ren1, ren2, okr, okr1, okr2, ChkT, ChkN, BlkN, nf])
  rintro k ⟨hk, hall⟩
  have stepk : wr64 ((k : Int) + 1) = ((k + 1 : Nat) : Int) := wr64_id (by omega) (by omega)
  have hsp := putL_split n l k hk hall
  have htk : (ints l).take k = ints (l.take k) := by simp [ints, List.map_take]
  have hdk : (ints l).drop k = ints (l.drop k) := by simp [ints, List.map_drop]
  have hi00 : (List.length l - k) = (l.drop k).length := by simp
  by_cases hlt : k < l.length
  · have hxi : l[k]? = some l[k] := List.getElem?_eq_getElem hlt
    have hdr : l.drop k = l[k] :: l.drop (k + 1) := List.drop_eq_getElem_cons hlt
    by_cases hx : l[k] < n
    · refine wkc (And.intro @hlt (@hx)) _ ?_
      refine ⟨k + 1, ⟨by omega, fun j hj y hy => ?_⟩, by omega, ?_⟩
      · by_cases e : j = k
        · subst e; rw [hxi] at hy; cases hy; exact hx
        · exact hall j (by omega) y hy
      rw [stepk]
      exact Cov.ofn (id) rfl (by simp [go_sem, List.take_of_length_le, ren, ren1, ren2, okr, okr1, okr2, ChkT, ChkN, BlkN, nf]) (by simp [go_sem, List.take_of_length_le, ren, ren1, ren2, okr, okr1, okr2, ChkT, ChkN, BlkN, nf])
    · by_cases he : l[k] = n
      · have hv : putL l n = l := by
          rw [hsp, hdr, putL, if_neg hx, if_pos he, ← hdr, List.take_append_drop]
        have he' : (l[k] == n) = true := by simp [he]
        rw [hv]
        refine wkc (And.intro @hlt (And.intro @hx (@he'))) _ ?_
        refine Out.mk (xs := ?_) ?_ ?_ (by first | exact .inr rfl | exact .inl rfl)
        rotate_left
        · simp [go_sem, List.take_of_length_le] <;> with_reducible rfl
        exact .im _ _
      · have hv : ints (putL l n) = ints (l.take k) ++ [.v (.int .i64 n)] :: ints (l.drop k) := by
          rw [hsp, hdr, putL, if_neg hx, if_neg he]; simp [ints]
        have he' : (l[k] == n) = false := by simp [he]
        have hm : min k l.length = k := Nat.min_eq_left hk
        have hb1 : k * 8 ≤ 140737488355328 := by omega
        have hb2 : (k + 1) * 8 ≤ 140737488355328 := by omega
        have hb3 : (k + 1 + (l.length - k)) * 8 ≤ 140737488355328 := by omega
        rw [hv]
        refine wkc (And.intro @hlt (And.intro @hx (And.intro @he' (And.intro @htk (And.intro @hdk (And.intro @hk (And.intro @hm (And.intro @hb1 (And.intro @hb2 (And.intro @hb3 (@ints_all))))))))))) _ ?_
        refine Out.mk (xs := ?_) ?_ ?_ (by first | exact .inr rfl | exact .inl rfl)
        rotate_left
        · simp [go_sem, List.take_of_length_le] <;> with_reducible rfl
        exact Fz.all rfl rfl (by simp; omega) rfl (by rw [← hv]; exact ints_cl _)
  · have hke : k = l.length := by omega
    subst hke
    have hv : ints (putL l n) = ints l ++ [[.v (.int .i64 n)]] := by
      rw [hsp, List.take_length, List.drop_length]; simp [ints, putL]
    have hb1 : l.length * 8 ≤ 140737488355328 := by omega
    have hb2 : (l.length + 1) * 8 ≤ 140737488355328 := by omega
    have hnl : ¬ l.length < l.length := by omega
    rw [List.take_length] at htk
    rw [List.drop_length] at hdk
    rw [hv]
    refine wkc (And.intro @hnl (And.intro @htk (And.intro @hdk (And.intro @hb1 (And.intro @hb2 (@ints_all)))))) _ ?_
    refine Out.mk (xs := ?_) ?_ ?_ (by first | exact .inr rfl | exact .inl rfl)
    rotate_left
    · simp [go_sem, List.take_of_length_le] <;> with_reducible rfl
    exact Fz.all rfl rfl (by simp) rfl (by rw [← hv]; exact ints_cl _)
end Go.Proofs.Ytenienncgjanpaa.En
end
section
namespace Go.Proofs.Ytenienncgjanpaa.En
open Go.RowKit
set_option linter.unusedSimpArgs false
set_option linter.unusedVariables false
def intc (xs : List Int) : List AV := xs.map fun n => .v (.int .i64 n)
@[simp] theorem intc_len (xs : List Int) : (intc xs).length = xs.length := by simp [intc]
@[simp] theorem intc_get (xs : List Int) (i : Nat) : (intc xs)[i]? = (xs[i]?).map fun n => .v (.int .i64 n) := by simp [intc]
@[simp] theorem intc_gE (xs : List Int) (i : Nat) (h : i < (intc xs).length) : (intc xs)[i] = .v (.int .i64 (xs[i]'(by simpa using h))) := by simp [intc]
@[simp] theorem intc_set (xs : List Int) (i : Nat) (n : Int) : (intc xs).set i (.v (.int .i64 n)) = intc (xs.set i n) := by simp [intc, List.map_set]
@[simp] theorem nfc_intc (xs : List Int) : nfc (intc xs) := fun x hx => by
  simp only [intc, List.mem_map] at hx
  obtain ⟨n, _, rfl⟩ := hx
  rfl
def gB (B : List Int) (x : Int) : Int := B.getD x.toNat 0
def stI (B : List Int) (n x : Int) : Int := if x < 0 ∨ n = 0 then n else if gB B x = 0 then 0 else n + gB B x
def stS (B : List Int) (n x : Int) : Int := if 0 ≤ x ∧ gB B x = 0 then -1000000 else if 0 ≤ x then n + gB B x else n
def sumB (B : List Int) (c : Int) (right : List Int) : Int := right.foldl (stI B) c
def sumS (B : List Int) (c : Int) (right : List Int) : Int := right.foldl (stS B) c
theorem gB_in {B : List Int} {V : Int} (h : ∀ b ∈ B, 0 ≤ b ∧ b ≤ V) (hV : 0 ≤ V) (x : Int) : 0 ≤ gB B x ∧ gB B x ≤ V := by
  unfold gB
  by_cases hx : x.toNat < B.length
  · rw [List.getD_eq_getElem?_getD, List.getElem?_eq_getElem hx]
    exact h _ (List.getElem_mem hx)
  · rw [List.getD_eq_getElem?_getD, List.getElem?_eq_none (by omega)]
    exact ⟨Int.le_refl 0, hV⟩
theorem sums (B : List Int) (V c : Int) (h : ∀ b ∈ B, 0 ≤ b ∧ b ≤ V) (hV : 0 ≤ V) (hV1 : V ≤ 136500) : ∀ (r : List Int) (t : Nat) (n s : Int), t + r.length ≤ 4 → n ≤ c + V * t → ((0 < n ∧ s = n) ∨ (n = 0 ∧ s ≤ -1000000 + V * t)) →
    r.foldl (stI B) n ≤ c + V * (t + r.length : Nat) ∧ ((0 < r.foldl (stI B) n ∧ r.foldl (stS B) s = r.foldl (stI B) n) ∨ (r.foldl (stI B) n = 0 ∧ r.foldl (stS B) s ≤ -1000000 + V * 4)) := by
  intro r
  induction r with
  | nil =>
    intro t n s ht hn hr
    refine ⟨by simpa using hn, ?_⟩
    rcases hr with hr | ⟨h1, h2⟩
    · exact .inl hr
    · refine .inr ⟨h1, ?_⟩
      have : V * t ≤ V * 4 := Int.mul_le_mul_of_nonneg_left (by simp at ht; omega) hV
      simp only [List.foldl_nil]; omega
  | cons x r ih =>
    intro t n s ht hn hr
    obtain ⟨g0, g1⟩ := gB_in h hV x
    simp only [List.length_cons] at ht
    have e : V * ((t + 1 : Nat) : Int) = V * t + V := by rw [Int.natCast_add, Int.mul_add]; simp
    have key := ih (t + 1) (stI B n x) (stS B s x) (by omega) (by rw [e]; unfold stI; split; · omega
                                                                  · split <;> omega) (by
      rw [e]
      have e4 : V * (t : Int) ≤ 136500 * 4 := by
        have h1 : V * (t : Int) ≤ 136500 * (t : Int) := Int.mul_le_mul_of_nonneg_right hV1 (by omega)
        omega
      have e5 : 0 ≤ V * (t : Int) := Int.mul_nonneg hV (by omega)
      unfold stI stS
      rcases hr with ⟨h1, rfl⟩ | ⟨rfl, h2⟩
      · by_cases hx : x < 0
        · rw [if_pos (.inl hx), if_neg (by omega), if_neg (by omega)]; exact .inl ⟨h1, rfl⟩
        · rw [if_neg (by omega)]
          by_cases hg : gB B x = 0
          · rw [if_pos hg, if_pos ⟨by omega, hg⟩]; right; omega
          · rw [if_neg hg, if_neg (by omega), if_pos (by omega)]; left; omega
      · rw [if_pos (.inr rfl)]
        by_cases hx : 0 ≤ x
        · by_cases hg : gB B x = 0
          · rw [if_pos ⟨hx, hg⟩]; right; omega
          · rw [if_neg (by omega), if_pos hx]; right; omega
        · rw [if_neg (by omega), if_neg hx]; right; omega)
    rw [List.foldl_cons, List.foldl_cons, List.length_cons, show t + (r.length + 1) = t + 1 + r.length by omega]
    exact key
def VV : Nat → Int
  | 0 => 0
  | m + 1 => 100 + 4 * VV m
theorem VV_nonneg : ∀ m, 0 ≤ VV m
  | 0 => Int.le_refl 0
  | m + 1 => by have := VV_nonneg m; unfold VV; omega
theorem VV_le : ∀ m, VV m ≤ VV (m + 1) := fun m => by have := VV_nonneg m; show VV m ≤ 100 + 4 * VV m; omega
theorem VV_mono {a b : Nat} (h : a ≤ b) : VV a ≤ VV b := by
  induction h with
  | refl => exact Int.le_refl _
  | step _ ih => exact Int.le_trans ih (VV_le _)
theorem VV_six {m : Nat} (h : m ≤ 6) : VV m ≤ 136500 := Int.le_trans (VV_mono h) (by decide)
def nz (B : List Int) : Nat := B.countP (fun b => decide (b ≠ 0))
def tot : List Int → Int
  | [] => 0
  | x :: xs => x + tot xs
theorem tot_set : ∀ (B : List Int) (k : Nat) (s : Int) (h : k < B.length), tot (B.set k s) = tot B - B[k] + s
  | [], k, s, h => by simp at h
  | x :: xs, 0, s, h => by simp [tot]; omega
  | x :: xs, k + 1, s, h => by
    have := tot_set xs k s (by simpa using h)
    simp only [List.set_cons_succ, tot, List.getElem_cons_succ, this]; omega
theorem tot_in (V : Int) : ∀ (B : List Int), (∀ b ∈ B, 0 ≤ b ∧ b ≤ V) → 0 ≤ tot B ∧ tot B ≤ V * B.length
  | [], _ => by simp [tot]
  | x :: xs, h => by
    have h1 := h x (.head _)
    have h2 := tot_in V xs fun b hb => h b (.tail _ hb)
    rw [List.length_cons, Int.natCast_add, Int.mul_add]
    simp only [tot]
    omega
theorem nz_le (B : List Int) : nz B ≤ B.length := List.countP_le_length
theorem nz_set (B : List Int) (k : Nat) (s : Int) (h : k < B.length) (hs : s ≠ 0) : nz (B.set k s) = nz B + if B[k] = 0 then 1 else 0 := by
  unfold nz
  rw [List.countP_set h]
  by_cases hk : B[k] = 0
  · simp [hk, hs]
  · have hp : 0 < List.countP (fun b => decide (b ≠ 0)) B := List.countP_pos_iff.2 ⟨_, List.getElem_mem h, by simpa using hk⟩
    have e1 : decide (B[k] ≠ 0) = true := by simpa using hk
    have e2 : decide (s ≠ 0) = true := by simpa using hs
    rw [e1, e2, if_neg hk]
    simp only [if_true]
    omega
structure InvB (nons : Nat) (B : List Int) : Prop where
  len : B.length = 6
  low : ∀ b ∈ B, 0 ≤ b
  up : ∀ b ∈ B, b ≤ VV (nz B)
  out : ∀ k, nons ≤ k → B.getD k 0 = 0
theorem InvB.all {nons : Nat} {B : List Int} (h : InvB nons B) : ∀ b ∈ B, 0 ≤ b ∧ b ≤ VV (nz B) := fun b hb => ⟨h.low b hb, h.up b hb⟩
theorem InvB.nz6 {nons : Nat} {B : List Int} (h : InvB nons B) : nz B ≤ 6 := by have := nz_le B; rw [h.len] at this; exact this
def muB (B : List Int) : Nat := (6 - nz B) * 10000000 + (tot B).toNat
theorem InvB.set {nons : Nat} {B : List Int} (h : InvB nons B) {k : Nat} (hk : k < nons) (hn : nons ≤ 6) {s : Int} (hs0 : 0 < s) (hs : s ≤ 100 + 4 * VV (nz B)) (hb : B.getD k 0 = 0 ∨ s < B.getD k 0) : InvB nons (B.set k s) ∧ muB (B.set k s) < muB B := by
  have hkl : k < B.length := by rw [h.len]; omega
  have hg : B.getD k 0 = B[k] := by simp [hkl]
  rw [hg] at hb
  have hk0 := h.low _ (List.getElem_mem hkl)
  have hk1 := h.up _ (List.getElem_mem hkl)
  have hnz := nz_set B k s hkl (by omega)
  have ht := tot_set B k s hkl
  have hnn := VV_nonneg (nz B)
  have h6 := h.nz6
  have htl := tot_in (VV (nz B)) B h.all
  have hinv : InvB nons (B.set k s) := by
    refine ⟨by simpa using h.len, fun b hbm => ?_, fun b hbm => ?_, fun j hj => ?_⟩
    · rcases List.mem_or_eq_of_mem_set hbm with g | g
      · exact h.low b g
      · rw [g]; omega
    · rcases List.mem_or_eq_of_mem_set hbm with g | g
      · exact Int.le_trans (h.up b g) (VV_mono (by rw [hnz]; omega))
      · rw [hnz, g]
        split
        · exact hs
        · rename_i g
          have : s < B[k] := hb.resolve_left g
          simp only [Nat.add_zero]; omega
    · have := h.out j hj
      rw [List.getD_eq_getElem?_getD, List.getElem?_set_ne (by omega), ← List.getD_eq_getElem?_getD]
      exact this
  refine ⟨hinv, ?_⟩
  have h62 := hinv.nz6
  have hnew := (tot_in _ _ hinv.all).1
  rw [ht] at hnew
  unfold muB
  rw [hnz, ht]
  rw [hnz] at h62
  have hv6 := VV_six h6
  have hs2 : s ≤ 1000000 := by omega
  split
  · rename_i g
    rw [if_pos g] at h62
    rw [g]
    have : (6 - nz B) = (6 - (nz B + 1)) + 1 := by omega
    rw [this, Nat.add_mul]
    omega
  · rename_i g
    have : s < B[k] := hb.resolve_left g
    simp only [Nat.add_zero]
    omega
def stepB (p : List Int × Bool) (rc : RuleT × Int) : List Int × Bool :=
  if 0 < sumB p.1 rc.2 rc.1.2 ∧ (gB p.1 rc.1.1 = 0 ∨ sumB p.1 rc.2 rc.1.2 < gB p.1 rc.1.1) then (p.1.set rc.1.1.toNat (sumB p.1 rc.2 rc.1.2), true) else p
def roundB (rs : List (RuleT × Int)) (B : List Int) : List Int × Bool := rs.foldl stepB (B, false)
def iterB (rs : List (RuleT × Int)) : Nat → List Int → List Int
  | 0, B => B
  | n + 1, B => if (roundB rs B).2 then iterB rs n (roundB rs B).1 else (roundB rs B).1
def zeroB : List Int := [0, 0, 0, 0, 0, 0]
def fuelB : Nat := muB zeroB + 1
def bestB (rs : List (RuleT × Int)) : List Int := iterB rs fuelB zeroB
theorem InvB.zero (nons : Nat) : InvB nons zeroB := ⟨rfl, fun b hb => by simp [zeroB] at hb; omega, fun b hb => by simp [zeroB] at hb; have := VV_nonneg (nz zeroB); omega, fun k _ => by
  unfold zeroB
  match k with
  | 0 | 1 | 2 | 3 | 4 | 5 => rfl
  | k + 6 => rfl⟩
def okRC (nons : Nat) (rc : RuleT × Int) : Prop := 0 ≤ rc.1.1 ∧ rc.1.1 < nons ∧ rc.1.2.length ≤ 4 ∧ (∀ x ∈ rc.1.2, x < nons) ∧ 1 ≤ rc.2 ∧ rc.2 ≤ 100
theorem sum_facts {nons : Nat} {B : List Int} (h : InvB nons B) {rc : RuleT × Int} (hr : okRC nons rc) : sumB B rc.2 rc.1.2 ≤ 100 + 4 * VV (nz B) ∧ ((0 < sumB B rc.2 rc.1.2 ∧ sumS B rc.2 rc.1.2 = sumB B rc.2 rc.1.2) ∨ (sumB B rc.2 rc.1.2 = 0 ∧ sumS B rc.2 rc.1.2 ≤ 0)) := by
  obtain ⟨_, _, h3, _, h5, h6⟩ := hr
  have hv6 := VV_six h.nz6
  have hnn := VV_nonneg (nz B)
  have := sums B (VV (nz B)) rc.2 h.all hnn hv6 rc.1.2 0 rc.2 rc.2 (by omega) (by simp) (.inl ⟨by omega, rfl⟩)
  have e : VV (nz B) * ((0 + rc.1.2.length : Nat) : Int) ≤ VV (nz B) * 4 := Int.mul_le_mul_of_nonneg_left (by omega) hnn
  refine ⟨by unfold sumB; omega, ?_⟩
  rcases this.2 with g | ⟨g1, g2⟩
  · exact .inl g
  · refine .inr ⟨g1, ?_⟩
    unfold sumS
    omega
theorem InvB.stepB {nons : Nat} (hn : nons ≤ 6) {p : List Int × Bool} (h : InvB nons p.1) {rc : RuleT × Int} (hr : okRC nons rc) : InvB nons (En.stepB p rc).1 ∧ muB (En.stepB p rc).1 ≤ muB p.1 ∧ ((En.stepB p rc).2 = true → p.2 = true ∨ muB (En.stepB p rc).1 < muB p.1) := by
  unfold En.stepB
  split
  · rename_i hc
    have := h.set (k := rc.1.1.toNat) (by have := hr.1; have := hr.2.1; omega) hn hc.1 (sum_facts h hr).1 hc.2
    exact ⟨this.1, Nat.le_of_lt this.2, fun _ => .inr this.2⟩
  · exact ⟨h, Nat.le_refl _, fun h => .inl h⟩
attribute [irreducible] fuelB bestB iterB roundB
end Go.Proofs.Ytenienncgjanpaa.En
end
section
namespace Go.Proofs.Ytenienncgjanpaa.En
open Go.RowKit
set_option linter.unusedSimpArgs false
set_option linter.unusedVariables false
set_option maxHeartbeats 8000000
theorem allB_at {p : Nat → Bool} {n i : Nat} (h : allB p n = true) (hi : i < n) : p i = true := by
  cases g : p i with
  | true => rfl
  | false => rw [allB_no hi g] at h; cases h
structure OkG (g : GrammarT) : Prop where
  n0 : 1 ≤ g.1
  n1 : g.1 ≤ 6
  t0 : 1 ≤ g.2.1
  t1 : g.2.1 ≤ 4
  len : g.2.2.length ≤ 16
  l0 : ∀ r ∈ g.2.2, 0 ≤ r.1
  l1 : ∀ r ∈ g.2.2, r.1 < g.1
  r4 : ∀ r ∈ g.2.2, r.2.length ≤ 4
  s0 : ∀ r ∈ g.2.2, ∀ x ∈ r.2, -g.2.1 ≤ x
  s1 : ∀ r ∈ g.2.2, ∀ x ∈ r.2, x < g.1
theorem goodG_ok {g : GrammarT} (h : goodG g = true) : OkG g := by
  unfold goodG at h
  simp only [Bool.and_eq_true, decide_eq_true_eq] at h
  obtain ⟨⟨⟨h1, h2⟩, h3⟩, h4⟩ := h
  simp [inR] at h1 h2
  have key : ∀ r ∈ g.2.2, 0 ≤ r.1 ∧ r.1 ≤ g.1 - 1 ∧ r.2.length ≤ 4 ∧ ∀ x ∈ r.2, -g.2.1 ≤ x ∧ x ≤ g.1 - 1 := fun r hr => by
    obtain ⟨i, hi⟩ := List.mem_iff_getElem?.1 hr
    have hlt : i < g.2.2.length := (List.getElem?_eq_some_iff.1 hi).1
    have ha := allB_at h4 hlt
    have hd : g.2.2.getD i (0, []) = r := by rw [List.getD_eq_getElem?_getD, hi]; rfl
    unfold goodAtG at ha
    rw [hd] at ha
    simp only [Bool.and_eq_true, decide_eq_true_eq, List.all_eq_true] at ha
    obtain ⟨⟨⟨a1, a2⟩, a3⟩, _⟩ := ha
    simp [inR] at a1
    refine ⟨a1.1, a1.2, a2, fun x hx => ?_⟩
    have := a3 x hx
    simpa [symOk, inR] using this
  exact ⟨h1.1, h1.2, h2.1, h2.2, h3, fun r hr => (key r hr).1, fun r hr => by have := (key r hr).2.1; omega, fun r hr => (key r hr).2.2.1, fun r hr x hx => ((key r hr).2.2.2 x hx).1, fun r hr x hx => by have := ((key r hr).2.2.2 x hx).2; omega⟩
theorem l1All (xs : List Int) (lo top : Int) (hx : xs.length < 4611686018427387904) : Pure Try.prog 65 [.im 1 (ints xs), .v (.int .i64 lo), .v (.int .i64 top)] (.v (.bool (xs.all fun n => inR n lo top))) := by
  refine Pure.mk (rs := [.tmp 6]) (nt := 21) Try.func65 (by kernel_rfl) rfl rfl rfl (by simp) ?_
  simp only [sl]
  refine wk0 _ ?_
  refine Holds.loop (ι := Nat) (fun i => ⟨[(1, .v (.int .i64 lo)), (2, .v (.int .i64 top)), (9, .im 1 (ints xs)), (10, .v (.int .i64 xs.length)), (11, .v (.int .i64 i))], [], 0⟩) (fun i => i ≤ xs.length ∧ (xs.take i).all (fun n => inR n lo top) = true) (fun i => xs.length - i) 0 ⟨Nat.zero_le _, rfl⟩ ?_ ?_
  · exact Cov.ofn (id) rfl (by simp [go_sem, List.take_of_length_le, ren, ren1, ren2, okr, okr1, okr2, ChkT, ChkN, BlkN, nf]) (by simp [go_sem, List.take_of_length_le, ren, ren1, ren2, okr, okr1, okr2, ChkT, ChkN, BlkN, nf])
  rintro i ⟨hi, hall⟩
  refine wk0 _ ?_
  refine Holds.cond rfl (fun hl => ?_) (fun hl => ?_)
  · have hlt : i < xs.length := by simpa using hl
    have hxi : xs[i]? = some xs[i] := List.getElem?_eq_getElem hlt
    refine wk (@hxi) _ ?_
    refine GS.cc (l1In xs[i] lo top) rfl rfl rfl rfl (by simp [go_sem, List.take_of_length_le] <;> with_reducible rfl) rfl (by simp [go_sem, List.take_of_length_le]) ?_
    generalize hg : inR xs[i] lo top = b
    refine wk0 _ ?_
    refine Holds.cond rfl (fun h => ?_) (fun h => ?_)
    · have h : b = false := by simpa using h
      subst h
      rw [all_at hxi hg]
      refine wk0 _ ?_
      refine Out.mk (xs := ?_) ?_ ?_ (by first | exact .inr rfl | exact .inl rfl)
      rotate_left
      · simp [go_sem, List.take_of_length_le] <;> with_reducible rfl
      exact .v _
    · have h : b = true := by simpa using h
      subst h
      refine wk0 _ ?_
      refine ⟨i + 1, ⟨by omega, ?_⟩, by omega, ?_⟩
      · rw [List.take_add_one, hxi, List.all_append, hall]; simp [hg]
      rw [wr64_id (by omega) (by omega)]
      exact Cov.ofn (id) rfl (by simp [go_sem, List.take_of_length_le, ren, ren1, ren2, okr, okr1, okr2, ChkT, ChkN, BlkN, nf]) (by simp [go_sem, List.take_of_length_le, ren, ren1, ren2, okr, okr1, okr2, ChkT, ChkN, BlkN, nf])
  · have hle : i = xs.length := by
      have : ¬ i < xs.length := by simpa using hl
      omega
    subst hle
    rw [List.take_length] at hall
    rw [hall]
    refine wk0 _ ?_
    refine Out.mk (xs := ?_) ?_ ?_ (by first | exact .inr rfl | exact .inl rfl)
    rotate_left
    · simp [go_sem, List.take_of_length_le] <;> with_reducible rfl
    exact .v _
end Go.Proofs.Ytenienncgjanpaa.En
end
section
namespace Go.Proofs.Ytenienncgjanpaa.En
open Go.RowKit
set_option linter.unusedSimpArgs false
set_option linter.unusedVariables false
set_option maxHeartbeats 4000000
theorem hasN_putL (L : List Int) (a : Int) : (fun x => hasN (putL L a) x) = insI (fun x => hasN L x) a := by
  funext x
  rw [insI, hasN_dec, hasN_dec, Bool.eq_iff_iff]
  simp only [decide_eq_true_eq, Bool.or_eq_true, putL_mem]
  exact or_comm
structure LstN (L : List Int) : Prop where
  inc : L.Pairwise (· < ·)
  rng : ∀ x ∈ L, 0 ≤ x ∧ x ≤ 5
theorem LstN.eq {L : List Int} (h : LstN L) : L = lstN fun x => hasN L x := by
  refine incr_ext h.inc (List.Pairwise.filter _ univN_incr) fun z => ?_
  rw [lstN_mem fun x hx => h.rng x (by rw [hasN_dec] at hx; exact of_decide_eq_true hx), hasN_dec, decide_eq_true_eq]
theorem LstN.len {L : List Int} (h : LstN L) : L.length ≤ 6 := by
  rw [h.eq, lstN]
  exact Nat.le_trans (List.length_filter_le _ _) (by decide)
theorem LstN.put {L : List Int} (h : LstN L) {a : Int} (ha : 0 ≤ a ∧ a ≤ 5) : LstN (putL L a) := ⟨putL_incr a L h.inc, fun x hx => by
  rcases (putL_mem a x L).1 hx with e | e
  · subst e; exact ha
  · exact h.rng x e⟩
theorem card_le (S : Int → Bool) : (univN.filter S).length ≤ 6 := Nat.le_trans (List.length_filter_le _ _) (by decide)
theorem okM_snoc (tok : Bool) (S : Int → Bool) {right : List Int} {a : Nat} {x : Int} (h : right[a]? = some x) : okM tok S (right.take (a + 1)) = (okM tok S (right.take a) && ((decide (x < 0) && tok) || (decide (0 ≤ x) && S x))) := by
  rw [List.take_add_one, h, okM, List.all_append]
  simp [okM]
theorem l3Close (g : GrammarT) (hG : OkG g) (tok : Bool) : Pure Try.prog 66 [.ag (grammarC g), .v (.bool tok)] (.im 1 (ints (lstN (madeS g tok)))) := by
  have hlen := hG.len
  have hln : (g.2.2.map (impM tok)).length = g.2.2.length := by simp
  refine Pure.mk (rs := [.tmp 4]) (nt := 57) Try.func66 (by kernel_rfl) rfl rfl rfl (by simp) ?_
  simp only [sl, grammarC]
  repeat' first | (refine Holds.condT ?_ ?_; (· (simp [go_sem, List.take_of_length_le] <;> with_reducible rfl))) | (refine Holds.condF ?_ ?_; (· (simp [go_sem, List.take_of_length_le] <;> with_reducible rfl))) | refine Holds.seq ?_ | refine Holds.skip ?_ | refine Holds.exit ?_ | refine Holds.ret ?_ | refine thenA_normal ?_ | refine thenA_exit ?_ | refine thenA_ret ?_ | refine inB_normal ?_ | refine inB_ret ?_ | refine inB_here ?_ | (refine inB_past ?_ ?_; (· exact rfl)) | refine Holds.reg ?_ | refine Holds.block ?_ | refine GS.nil ?_ | (refine GS.stepD 6 (s' := ?_) rfl ?_ ?_ ?_; rotate_left; (· exact rfl); (· (simp [go_sem, List.take_of_length_le] <;> with_reducible rfl))) | (refine GS.skip ?_ ?_ ?_; (· exact rfl); (· exact rfl)) | fail
  refine GS.frz [] [(5, .im 1 (ints []))] (.cons rfl (Fz.nl _) .nil) ?_
  refine wkc (@frz.eq_1) _ ?_
  refine Holds.loop (ι := List Int × Bool) (fun i => ⟨[(1, .v (.bool tok)), (2, .pb 0 3 0 0), (5, .im 1 (ints i.1)), (6, .v (.bool i.2))], [(0, ⟨31, 3, [grammarC g]⟩)], 1⟩)
    (fun i => LstN i.1 ∧ LowI (g.2.2.map (impM tok)) (fun x => hasN i.1 x) ∧ (i.2 = false → (fun x => hasN i.1 x) = madeS g tok)) (fun i => 2 * (6 - (univN.filter (fun x => hasN i.1 x)).length) + if i.2 then 1 else 0) ([], true) ⟨⟨List.Pairwise.nil, fun x hx => by cases hx⟩, fun T hT x hx => by simp [hasN] at hx, fun e => by cases e⟩ ?_ ?_
  · exact Cov.ofn (id) rfl (by simp [go_sem, List.take_of_length_le, ren, ren1, ren2, okr, okr1, okr2, ChkT, ChkN, BlkN, nf, frz, grammarC]) (by simp [go_sem, List.take_of_length_le, ren, ren1, ren2, okr, okr1, okr2, ChkT, ChkN, BlkN, nf, frz, grammarC])
  rintro ⟨L0, more0⟩ ⟨hL0, hlow0, hfin⟩
  dsimp only at hL0 hlow0 hfin ⊢
  refine wkc0 _ ?_
  refine Holds.cond rfl (fun h => ?_) (fun h => ?_)
  · subst h
    have hc0 := card_le fun x => hasN L0 x
    refine wkc (@grammarC.eq_1) _ ?_
    refine Holds.loop (ι := Nat × List Int × Bool) (fun i => ⟨[(1, .v (.bool tok)), (2, .pb 0 3 0 0), (5, .im 1 (ints i.2.1)), (6, .v (.bool i.2.2)), (14, .im 2 (rules g.2.2)), (15, .v (.int .i64 g.2.2.length)), (16, .v (.int .i64 i.1))], [(0, ⟨31, 3, [grammarC g]⟩)], 1⟩)
      (fun i => i.1 ≤ g.2.2.length ∧ LstN i.2.1 ∧ ClI (g.2.2.map (impM tok)) univN (fun x => hasN L0 x) (fun x => hasN i.2.1 x) i.2.2 ((g.2.2.map (impM tok)).take i.1)) (fun i => g.2.2.length - i.1) (0, L0, false) ⟨Nat.zero_le _, hL0, ClI.start _ hlow0⟩ ?_ ?_
    · exact Cov.ofn (id) rfl (by simp [go_sem, List.take_of_length_le, ren, ren1, ren2, okr, okr1, okr2, ChkT, ChkN, BlkN, nf, grammarC]) (by simp [go_sem, List.take_of_length_le, ren, ren1, ren2, okr, okr1, okr2, ChkT, ChkN, BlkN, nf, grammarC])
    rintro ⟨k, L, more⟩ ⟨hk, hL, hC⟩
    dsimp only at hk hL hC ⊢
    have stepk : wr64 ((k : Int) + 1) = ((k + 1 : Nat) : Int) := wr64_id (by omega) (by omega)
    have hLl := hL.len
    refine wkc0 _ ?_
    refine Holds.cond rfl (fun h => ?_) (fun h => ?_)
    · have hlt : k < g.2.2.length := by simp at h; omega
      have hrk : g.2.2[k]? = some g.2.2[k] := List.getElem?_eq_getElem hlt
      have hmem := List.getElem_mem hlt
      generalize g.2.2[k] = r at hrk hmem
      have hr0 := hG.l0 r hmem
      have hr1 := hG.l1 r hmem
      have hn1 := hG.n1
      have hr4 := hG.r4 r hmem
      have hpk : (g.2.2.map (impM tok))[k]? = some (impM tok r) := by simp [hrk]
      have hpm : impM tok r ∈ g.2.2.map (impM tok) := List.mem_map.2 ⟨r, hmem, rfl⟩
      have htk : (g.2.2.map (impM tok)).take (k + 1) = (g.2.2.map (impM tok)).take k ++ [impM tok r] := by rw [List.take_add_one, hpk]; rfl
      have ch := l1Has L r.1 (by omega)
      have cp := l1Put L r.1 (by omega)
      refine wkc (And.intro (@get_E _ _ _ _ hrk) (And.intro @hrk (And.intro @hlt (@ruleC.eq_1)))) _ ?_
      refine GS.cc (ch) rfl rfl rfl rfl (by simp [go_sem, List.take_of_length_le] <;> with_reducible rfl) rfl (by simp [go_sem, List.take_of_length_le]) ?_
      refine wkc (@ruleC.eq_1) _ ?_
      refine Holds.loop (ι := Nat) (fun a => ⟨[(1, .v (.bool tok)), (2, .pb 0 3 0 0), (5, .im 1 (ints L)), (6, .v (.bool more)), (8, .pb 1 2 0 0), (9, .v (.bool (!hasN L r.1 && okM tok (fun x => hasN L x) (r.2.take a)))), (14, .im 2 (rules g.2.2)), (15, .v (.int .i64 g.2.2.length)), (16, .v (.int .i64 k)), (26, .im 1 (ints r.2)), (27, .v (.int .i64 r.2.length)), (28, .v (.int .i64 a))], [(1, ⟨87, 2, [ruleC r]⟩), (0, ⟨31, 3, [grammarC g]⟩)], 2⟩)
        (fun a => a ≤ r.2.length) (fun a => r.2.length - a) 0 (Nat.zero_le _) ?_ ?_
      · exact Cov.ofn (id) rfl (by simp [go_sem, List.take_of_length_le, ren, ren1, ren2, okr, okr1, okr2, ChkT, ChkN, BlkN, nf, grammarC, ruleC, okM]) (by simp [go_sem, List.take_of_length_le, ren, ren1, ren2, okr, okr1, okr2, ChkT, ChkN, BlkN, nf, grammarC, ruleC, okM])
      intro a ha
      have stepa : wr64 ((a : Int) + 1) = ((a + 1 : Nat) : Int) := wr64_id (by omega) (by omega)
      refine wkc0 _ ?_
      refine Holds.cond rfl (fun h => ?_) (fun h => ?_)
      · have hla : a < r.2.length := by simp at h; omega
        have hxa : r.2[a]? = some r.2[a] := List.getElem?_eq_getElem hla
        generalize r.2[a] = x at hxa
        have hs := okM_snoc tok (fun x => hasN L x) hxa
        have chx := l1Has L x (by omega)
        generalize okM tok (fun x => hasN L x) (r.2.take a) = b1 at hs ⊢
        generalize hnh : (!hasN L r.1) = b0
        cases hb : (b0 && b1) with
        | false =>
          have hnx : (b0 && okM tok (fun x => hasN L x) (r.2.take (a + 1))) = false := by rw [hs, ← Bool.and_assoc, hb, Bool.false_and]
          refine wkc (And.intro (@get_E _ _ _ _ hxa) (And.intro @hxa (And.intro @hla (@hb)))) _ ?_
          refine ⟨a + 1, by omega, by omega, ?_⟩
          rw [stepa, hnx]
          exact Cov.ofn (id) rfl (by simp [go_sem, List.take_of_length_le, ren, ren1, ren2, okr, okr1, okr2, ChkT, ChkN, BlkN, nf, grammarC, ruleC]) (by simp [go_sem, List.take_of_length_le, ren, ren1, ren2, okr, okr1, okr2, ChkT, ChkN, BlkN, nf, grammarC, ruleC])
        | true =>
          by_cases hx0 : x < 0
          · cases tok with
            | true =>
              have hnx : (b0 && okM true (fun x => hasN L x) (r.2.take (a + 1))) = true := by rw [hs, ← Bool.and_assoc, hb]; simp [hx0]
              refine wkc (And.intro (@get_E _ _ _ _ hxa) (And.intro @hxa (And.intro @hla (And.intro @hb (@hx0))))) _ ?_
              refine ⟨a + 1, by omega, by omega, ?_⟩
              rw [stepa, hnx]
              exact Cov.ofn (id) rfl (by simp [go_sem, List.take_of_length_le, ren, ren1, ren2, okr, okr1, okr2, ChkT, ChkN, BlkN, nf, grammarC, ruleC]) (by simp [go_sem, List.take_of_length_le, ren, ren1, ren2, okr, okr1, okr2, ChkT, ChkN, BlkN, nf, grammarC, ruleC])
            | false =>
              have hx1 : ¬ (0 ≤ x) := by omega
              have hnx : (b0 && okM false (fun x => hasN L x) (r.2.take (a + 1))) = false := by rw [hs, ← Bool.and_assoc, hb]; simp [hx0, hx1]
              refine wkc (And.intro (@get_E _ _ _ _ hxa) (And.intro @hxa (And.intro @hla (And.intro @hb (And.intro @hx0 (@hx1)))))) _ ?_
              refine ⟨a + 1, by omega, by omega, ?_⟩
              rw [stepa, hnx]
              exact Cov.ofn (id) rfl (by simp [go_sem, List.take_of_length_le, ren, ren1, ren2, okr, okr1, okr2, ChkT, ChkN, BlkN, nf, grammarC, ruleC]) (by simp [go_sem, List.take_of_length_le, ren, ren1, ren2, okr, okr1, okr2, ChkT, ChkN, BlkN, nf, grammarC, ruleC])
          · have hx1 : 0 ≤ x := by omega
            have hnx : (b0 && okM tok (fun x => hasN L x) (r.2.take (a + 1))) = hasN L x := by rw [hs, ← Bool.and_assoc, hb]; simp [hx0, hx1]
            refine wkc (And.intro (@get_E _ _ _ _ hxa) (And.intro @hxa (And.intro @hla (And.intro @hb (And.intro @hx0 (@hx1)))))) _ ?_
            refine GS.cc (chx) rfl rfl rfl rfl (by simp [go_sem, List.take_of_length_le] <;> with_reducible rfl) rfl (by simp [go_sem, List.take_of_length_le]) ?_
            refine wkc0 _ ?_
            refine ⟨a + 1, by omega, by omega, ?_⟩
            rw [stepa, hnx]
            exact Cov.ofn (id) rfl (by simp [go_sem, List.take_of_length_le, ren, ren1, ren2, okr, okr1, okr2, ChkT, ChkN, BlkN, nf, grammarC, ruleC]) (by simp [go_sem, List.take_of_length_le, ren, ren1, ren2, okr, okr1, okr2, ChkT, ChkN, BlkN, nf, grammarC, ruleC])
      · have hae : a = r.2.length := by simp at h; omega
        subst hae
        rw [List.take_length]
        refine wkc0 _ ?_
        refine Holds.cond rfl (fun h => ?_) (fun h => ?_)
        · simp only [Bool.and_eq_true, Bool.not_eq_true'] at h
          refine wkc (@ruleC.eq_1) _ ?_
          refine GS.cc (cp) rfl rfl rfl rfl (by simp [go_sem, List.take_of_length_le] <;> with_reducible rfl) rfl (by simp [go_sem, List.take_of_length_le]) ?_
          refine wkc0 _ ?_
          refine ⟨(k + 1, putL L r.1, true), ⟨by dsimp only; omega, hL.put ⟨hr0, by omega⟩, ?_⟩, by dsimp only; omega, ?_⟩
          · dsimp only
            rw [hasN_putL]
            exact hC.add hpm (impM_mono tok r) h.2 h.1 (mem_univN.2 ⟨hr0, by show r.1 ≤ 5; omega⟩) _
          rw [stepk]
          exact Cov.ofn (id) rfl (by simp [go_sem, List.take_of_length_le, ren, ren1, ren2, okr, okr1, okr2, ChkT, ChkN, BlkN, nf, grammarC]) (by simp [go_sem, List.take_of_length_le, ren, ren1, ren2, okr, okr1, okr2, ChkT, ChkN, BlkN, nf, grammarC])
        · have h' : okM tok (fun x => hasN L x) r.2 = true → hasN L r.1 = true := fun g => by
            rw [g, Bool.and_true] at h
            simpa using h
          refine wkc0 _ ?_
          refine ⟨(k + 1, L, more), ⟨by dsimp only; omega, hL, ?_⟩, by dsimp only; omega, ?_⟩
          · dsimp only
            rw [htk]
            exact hC.skip (p := impM tok r) h'
          rw [stepk]
          exact Cov.ofn (id) rfl (by simp [go_sem, List.take_of_length_le, ren, ren1, ren2, okr, okr1, okr2, ChkT, ChkN, BlkN, nf, grammarC]) (by simp [go_sem, List.take_of_length_le, ren, ren1, ren2, okr, okr1, okr2, ChkT, ChkN, BlkN, nf, grammarC])
    · have hke : k = g.2.2.length := by simp at h; omega
      subst hke
      rw [List.take_of_length_le (by omega)] at hC
      refine wkc0 _ ?_
      refine ⟨(L, more), ⟨hL, hC.low, fun e => ?_⟩, ?_, ?_⟩
      · dsimp only at e ⊢
        subst e
        exact hC.done
      · dsimp only
        have hc := card_le fun x => hasN L x
        cases more with
        | true => have := hC.yes rfl; simp only [if_true]; omega
        | false => rw [(hC.no rfl).1]; simp
      exact Cov.ofn (id) rfl (by simp [go_sem, List.take_of_length_le, ren, ren1, ren2, okr, okr1, okr2, ChkT, ChkN, BlkN, nf, grammarC]) (by simp [go_sem, List.take_of_length_le, ren, ren1, ren2, okr, okr1, okr2, ChkT, ChkN, BlkN, nf, grammarC])
  · have h : more0 = false := by simpa using h
    have := hfin h
    rw [← this, ← hL0.eq]
    refine wkc0 _ ?_
    refine Out.mk (xs := ?_) ?_ ?_ (by first | exact .inr rfl | exact .inl rfl)
    rotate_left
    · simp [go_sem, List.take_of_length_le] <;> with_reducible rfl
    exact .im _ _
end Go.Proofs.Ytenienncgjanpaa.En
end
section
namespace Go.Proofs.Ytenienncgjanpaa.En
open Go.RowKit
set_option linter.unusedSimpArgs false
set_option linter.unusedVariables false
set_option maxHeartbeats 4000000
def cellsN (S : Int → Bool) : List AV := [.v (.bool (S 0)), .v (.bool (S 1)), .v (.bool (S 2)), .v (.bool (S 3)), .v (.bool (S 4)), .v (.bool (S 5))]
theorem cellsN_map (S : Int → Bool) : cellsN S = (arrN S).map fun b => .v (.bool b) := rfl
@[simp] theorem cellsN_len (S : Int → Bool) : (cellsN S).length = 6 := rfl
theorem cellsN_at (S : Int → Bool) {n : Nat} (h : n < 6) : (cellsN S)[n]? = some (.v (.bool (S (n : Int)))) := by
  rw [cellsN_map, List.getElem?_map, arrN_at S h]; rfl
theorem cellsN_set (S : Int → Bool) {n : Nat} (h : n < 6) : (cellsN S).set n (.v (.bool true)) = cellsN (insI S (n : Int)) := by
  rw [cellsN_map, ← List.map_set (f := fun b => AV.v (.bool b)) (a := true), arrN_set S h, cellsN_map]
theorem cellsN_none : cellsN (fun _ => false) = [.v (.bool false), .v (.bool false), .v (.bool false), .v (.bool false), .v (.bool false), .v (.bool false)] := rfl
@[simp] theorem nfc_cellsN (S : Int → Bool) : nfc (cellsN S) := fun x hx => by
  simp only [cellsN_map, List.mem_map] at hx
  obtain ⟨b, _, rfl⟩ := hx
  rfl
@[simp] theorem cellsN_flat (S : Int → Bool) : ∀ x ∈ cellsN S, flat x = true := fun x hx => by
  simp only [cellsN_map, List.mem_map] at hx
  obtain ⟨b, _, rfl⟩ := hx
  rfl
@[simp] theorem cellsN_all (S : Int → Bool) : (cellsN S).all flat = true := List.all_eq_true.2 (cellsN_flat S)
@[simp] theorem cellsN_take (S : Int → Bool) : (cellsN S).take 6 = cellsN S := rfl
@[simp] theorem cellsN_drop (S : Int → Bool) : (cellsN S).drop 6 = [] := rfl
theorem closedG (g : GrammarT) (hG : OkG g) (tok : Bool) (f : FuncId) (hf : ∀ r ∈ g.2.2, ∀ S : Int → Bool, Pure Try.prog f [.ag (ruleC r), .ag (cellsN S)] (.v (.bool (okM tok S r.2)))) : Pure Try.prog 94 [.ag (grammarC g), .fn f []] (.ag (cellsN (madeS g tok))) := by
  have hlen := hG.len
  refine Pure.mk (rs := [.cell 4 75]) (nt := 34) Try.func94 (by kernel_rfl) rfl rfl rfl (by simp) ?_
  simp only [sl, grammarC]
  refine wkc (@grammarC.eq_1) _ ?_
  refine Holds.loop (ι := (Int → Bool) × Bool) (fun i => ⟨[(1, .fn f []), (2, .pb 0 3 0 0), (4, .pb 1 6 0 0), (5, .pb 2 6 0 0), (6, .v (.bool i.2))], [(2, ⟨75, 6, [cellsN i.1]⟩), (1, ⟨75, 6, [cellsN (fun _ => false)]⟩), (0, ⟨31, 3, [grammarC g]⟩)], 3⟩)
    (fun i => LowI (g.2.2.map (impM tok)) i.1 ∧ (i.2 = false → i.1 = madeS g tok)) (fun i => 2 * (6 - (univN.filter i.1).length) + if i.2 then 1 else 0) (fun _ => false, true) ⟨fun T hT x hx => absurd hx (by simp), fun e => (by cases e)⟩ ?_ ?_
  · exact Cov.ofn (id) rfl (by simp [go_sem, List.take_of_length_le, ren, ren1, ren2, okr, okr1, okr2, ChkT, ChkN, BlkN, nf, grammarC, cellsN_none]) (by simp [go_sem, List.take_of_length_le, ren, ren1, ren2, okr, okr1, okr2, ChkT, ChkN, BlkN, nf, grammarC, cellsN_none])
  rintro ⟨S0, more0⟩ ⟨hlow0, hfin⟩
  dsimp only at hlow0 hfin ⊢
  refine wkc0 _ ?_
  refine Holds.cond rfl (fun h => ?_) (fun h => ?_)
  · subst h
    have hc0 := card_le S0
    refine wkc (@grammarC.eq_1) _ ?_
    refine Holds.loop (ι := Nat × (Int → Bool) × Bool) (fun i => ⟨[(1, .fn f []), (2, .pb 0 3 0 0), (4, .pb 1 6 0 0), (5, .pb 2 6 0 0), (6, .v (.bool i.2.2)), (12, .im 2 (rules g.2.2)), (13, .v (.int .i64 g.2.2.length)), (14, .v (.int .i64 i.1))], [(2, ⟨75, 6, [cellsN i.2.1]⟩), (1, ⟨75, 6, [cellsN (fun _ => false)]⟩), (0, ⟨31, 3, [grammarC g]⟩)], 3⟩)
      (fun i => i.1 ≤ g.2.2.length ∧ ClI (g.2.2.map (impM tok)) univN S0 i.2.1 i.2.2 ((g.2.2.map (impM tok)).take i.1)) (fun i => g.2.2.length - i.1) (0, S0, false) ⟨Nat.zero_le _, ClI.start _ hlow0⟩ ?_ ?_
    · exact Cov.ofn (id) rfl (by simp [go_sem, List.take_of_length_le, ren, ren1, ren2, okr, okr1, okr2, ChkT, ChkN, BlkN, nf, grammarC]) (by simp [go_sem, List.take_of_length_le, ren, ren1, ren2, okr, okr1, okr2, ChkT, ChkN, BlkN, nf, grammarC])
    rintro ⟨k, S, more⟩ ⟨hk, hC⟩
    dsimp only at hk hC ⊢
    have stepk : wr64 ((k : Int) + 1) = ((k + 1 : Nat) : Int) := wr64_id (by omega) (by omega)
    refine wkc0 _ ?_
    refine Holds.cond rfl (fun h => ?_) (fun h => ?_)
    · have hlt : k < g.2.2.length := by simp at h; omega
      have hrk : g.2.2[k]? = some g.2.2[k] := List.getElem?_eq_getElem hlt
      have hmem := List.getElem_mem hlt
      generalize g.2.2[k] = r at hrk hmem
      have hr0 := hG.l0 r hmem
      have hr1 := hG.l1 r hmem
      have hn1 := hG.n1
      have hpk : (g.2.2.map (impM tok))[k]? = some (impM tok r) := by simp [hrk]
      have hpm : impM tok r ∈ g.2.2.map (impM tok) := List.mem_map.2 ⟨r, hmem, rfl⟩
      have htk : (g.2.2.map (impM tok)).take (k + 1) = (g.2.2.map (impM tok)).take k ++ [impM tok r] := by rw [List.take_add_one, hpk]; rfl
      have cf := hf r hmem S
      have hadd := fun h1 h2 => hC.add hpm (impM_mono tok r) h1 h2 (mem_univN.2 ⟨hr0, by show r.1 ≤ 5; omega⟩) ((g.2.2.map (impM tok)).take (k + 1))
      have hskip := hC.skip (p := impM tok r)
      obtain ⟨left, right⟩ := r
      obtain ⟨n, rfl⟩ : ∃ n : Nat, left = (n : Int) := ⟨left.toNat, by dsimp only at hr0; omega⟩
      have hn6 : n < 6 := by dsimp only at hr1; omega
      have hn5 : n ≤ 5 := by omega
      have hcn := cellsN_at S hn6
      have hcs := cellsN_set S hn6
      simp only [impM] at hadd hskip htk
      generalize okM tok S right = ok at cf hadd hskip
      refine wkc (And.intro (@get_E _ _ _ _ hrk) (And.intro @hrk (And.intro @hlt (And.intro @ruleC.eq_1 (And.intro @hn6 (And.intro (@get_E _ _ _ _ hcn) (@hcn))))))) _ ?_
      cases hS : S (n : Int) with
      | true =>
        refine wkc0 _ ?_
        refine ⟨(k + 1, S, more), ⟨by dsimp only; omega, ?_⟩, by dsimp only; omega, ?_⟩
        · dsimp only
          rw [htk]
          exact hskip fun _ => hS
        rw [stepk]
        exact Cov.ofn (id) rfl (by simp [go_sem, List.take_of_length_le, ren, ren1, ren2, okr, okr1, okr2, ChkT, ChkN, BlkN, nf, grammarC]) (by simp [go_sem, List.take_of_length_le, ren, ren1, ren2, okr, okr1, okr2, ChkT, ChkN, BlkN, nf, grammarC])
      | false =>
        refine wkc (@ruleC.eq_1) _ ?_
        refine GS.cc (cf) rfl rfl rfl rfl (by simp [go_sem, List.take_of_length_le, ruleC, cellsN] <;> with_reducible rfl) rfl (by simp [go_sem, List.take_of_length_le, ruleC, cellsN]) ?_
        cases ok with
        | true =>
          refine wkc (And.intro @ruleC.eq_1 (And.intro @hn6 (And.intro @hn5 (And.intro (@get_E _ _ _ _ hcn) (And.intro @hcn (@hcs)))))) _ ?_
          refine ⟨(k + 1, insI S (n : Int), true), ⟨by dsimp only; omega, hadd rfl hS⟩, by dsimp only; omega, ?_⟩
          rw [stepk]
          exact Cov.ofn (id) rfl (by simp [go_sem, List.take_of_length_le, ren, ren1, ren2, okr, okr1, okr2, ChkT, ChkN, BlkN, nf, grammarC]) (by simp [go_sem, List.take_of_length_le, ren, ren1, ren2, okr, okr1, okr2, ChkT, ChkN, BlkN, nf, grammarC])
        | false =>
          refine wkc0 _ ?_
          refine ⟨(k + 1, S, more), ⟨by dsimp only; omega, ?_⟩, by dsimp only; omega, ?_⟩
          · dsimp only
            rw [htk]
            exact hskip fun e => by cases e
          rw [stepk]
          exact Cov.ofn (id) rfl (by simp [go_sem, List.take_of_length_le, ren, ren1, ren2, okr, okr1, okr2, ChkT, ChkN, BlkN, nf, grammarC]) (by simp [go_sem, List.take_of_length_le, ren, ren1, ren2, okr, okr1, okr2, ChkT, ChkN, BlkN, nf, grammarC])
    · have hke : k = g.2.2.length := by simp at h; omega
      subst hke
      rw [List.take_of_length_le (by simp)] at hC
      refine wkc0 _ ?_
      refine ⟨(S, more), ⟨hC.low, fun e => ?_⟩, ?_, ?_⟩
      · dsimp only at e ⊢
        subst e
        exact hC.done
      · dsimp only
        have hc := card_le S
        cases more with
        | true => have := hC.yes rfl; simp only [if_true]; omega
        | false => rw [(hC.no rfl).1]; simp
      exact Cov.ofn (id) rfl (by simp [go_sem, List.take_of_length_le, ren, ren1, ren2, okr, okr1, okr2, ChkT, ChkN, BlkN, nf, grammarC]) (by simp [go_sem, List.take_of_length_le, ren, ren1, ren2, okr, okr1, okr2, ChkT, ChkN, BlkN, nf, grammarC])
  · have h : more0 = false := by simpa using h
    have := hfin h
    subst this
    refine wkc (@cellsN.eq_1) _ ?_
    refine Out.mk (xs := ?_) ?_ ?_ (by first | exact .inr rfl | exact .inl rfl)
    rotate_left
    · simp [go_sem, List.take_of_length_le, cellsN] <;> with_reducible rfl
    exact Fz.cl rfl
/-! the two closures -/
theorem lost1 (S : Int → Bool) (x : Int) (hx : x ≤ 5) : Pure Try.prog 96 [.v (.int .i64 x), .pi (cellsN S)] (.v (.bool (decide (0 ≤ x) && !S x))) := by
  refine Pure.mk (rs := [.tmp 3]) (nt := 12) Try.func96 (by kernel_rfl) rfl rfl rfl (by simp) ?_
  simp only [sl]
  by_cases h : 0 ≤ x
  · obtain ⟨n, rfl⟩ : ∃ n : Nat, x = (n : Int) := ⟨x.toNat, by omega⟩
    have hn6 : n < 6 := by omega
    have hcn := cellsN_at S hn6
    rw [decide_eq_true h, Bool.true_and]
    refine wkc (And.intro @h (And.intro @hn6 (And.intro (@get_E _ _ _ _ hcn) (@hcn)))) _ ?_
    refine Out.mk (xs := ?_) ?_ ?_ (by first | exact .inr rfl | exact .inl rfl)
    rotate_left
    · simp [go_sem, List.take_of_length_le] <;> with_reducible rfl
    exact .v _
  · rw [decide_eq_false h, Bool.false_and]
    refine wkc (@h) _ ?_
    refine Out.mk (xs := ?_) ?_ ?_ (by first | exact .inr rfl | exact .inl rfl)
    rotate_left
    · simp [go_sem, List.take_of_length_le] <;> with_reducible rfl
    exact .v _
theorem okM_true (S : Int → Bool) (right : List Int) : okM true S right = !right.any fun x => decide (0 ≤ x) && !S x := by
  rw [okM, List.not_any_eq_all_not]
  congr 1
  funext x
  by_cases h : 0 ≤ x
  · have : ¬ x < 0 := by omega
    simp [h, this]
  · have : x < 0 := by omega
    simp [h, this]
theorem makes1 (g : GrammarT) (hG : OkG g) (r : RuleT) (hr : r ∈ g.2.2) (S : Int → Bool) : Pure Try.prog 95 [.ag (ruleC r), .ag (cellsN S)] (.v (.bool (okM true S r.2))) := by
  have h4 := hG.r4 r hr
  have h5 := hG.s1 r hr
  have h6 := hG.n1
  have cf := containsFuncInt 96 [.pi (cellsN S)] (fun x => decide (0 ≤ x) && !S x) r.2 (by omega) rfl (fun x hx => lost1 S x (by have := h5 x hx; omega))
  rw [okM_true]
  generalize (r.2.any fun x => decide (0 ≤ x) && !S x) = b at cf ⊢
  refine Pure.mk (rs := [.tmp 4]) (nt := 10) Try.func95 (by kernel_rfl) rfl rfl rfl (by simp) ?_
  simp only [sl, ruleC, cellsN]
  refine wkc (And.intro @ruleC.eq_1 (@cellsN.eq_1)) _ ?_
  refine GS.cd (cf) rfl rfl rfl rfl (by simp [go_sem, List.take_of_length_le, ruleC, cellsN] <;> with_reducible rfl) rfl (by exact .cons (.im _ _) (.cons (Fz.fnL (.cons (Fz.box rfl rfl rfl rfl) .nil)) .nil)) rfl ?_
  refine wkc0 _ ?_
  refine Out.mk (xs := ?_) ?_ ?_ (by first | exact .inr rfl | exact .inl rfl)
  rotate_left
  · simp [go_sem, List.take_of_length_le] <;> with_reducible rfl
  exact .v _
theorem productiveG (g : GrammarT) (hG : OkG g) : Pure Try.prog 77 [.ag (grammarC g)] (.ag (cellsN (madeS g true))) := by
  have cc := closedG g hG true 95 (fun r hr S => makes1 g hG r hr S)
  refine Pure.mk (rs := [.cell 2 75]) (nt := 5) Try.func77 (by kernel_rfl) rfl rfl rfl (by simp) ?_
  simp only [sl, grammarC]
  refine wkc (@grammarC.eq_1) _ ?_
  refine GS.cc (cc) rfl rfl rfl rfl (by simp [go_sem, List.take_of_length_le, grammarC, cellsN] <;> with_reducible rfl) rfl (by simp [go_sem, List.take_of_length_le, grammarC, cellsN]) ?_
  refine wkc (@cellsN.eq_1) _ ?_
  refine Out.mk (xs := ?_) ?_ ?_ (by first | exact .inr rfl | exact .inl rfl)
  rotate_left
  · simp [go_sem, List.take_of_length_le, cellsN] <;> with_reducible rfl
  exact Fz.cl rfl
end Go.Proofs.Ytenienncgjanpaa.En
end
section
namespace Go.Proofs.Ytenienncgjanpaa.En
open Go.RowKit
set_option linter.unusedSimpArgs false
set_option linter.unusedVariables false
set_option linter.unusedSectionVars false
section
variable {ε : Type} [DecidableEq ε]
theorem ClI.ext {L M : List (Imp ε)} {U : List ε} {S0 S : ε → Bool} {more : Bool} (h : ClI L U S0 S more M) (M' : List (Imp ε)) (h1 : more = false → S = S0 → ∀ p ∈ M', p.1 S = true → S p.2 = true) : ClI L U S0 S more (M ++ M') := by
  refine ⟨h.low, h.le, h.yes, fun e => ⟨(h.no e).1, fun q hq hq1 => ?_⟩⟩
  obtain ⟨e1, e2⟩ := h.no e
  rcases List.mem_append.1 hq with g | g
  · exact e2 q g hq1
  · rw [← e1] at hq1 ⊢
    exact h1 e e1 q g hq1
theorem LowI.sub {L : List (Imp ε)} {S T : ε → Bool} (h : LowI L S) (hT : CloL L T) {x : ε} (hx : S x = true) : T x = true := h T hT x hx
end
/-! ### tokens -/
def univT : List Int := (List.range 4).map fun k : Nat => (k : Int)
theorem mem_univT {x : Int} : x ∈ univT ↔ 0 ≤ x ∧ x ≤ 3 := by
  simp only [univT, List.mem_map, List.mem_range]
  constructor
  · rintro ⟨k, h, rfl⟩; omega
  · rintro ⟨h1, h2⟩; exact ⟨x.toNat, by omega, by omega⟩
theorem univT_incr : univT.Pairwise (· < ·) := by decide
def lstT (S : Int → Bool) : List Int := univT.filter S
theorem lstT_mem (S : Int → Bool) (x : Int) : x ∈ lstT S ↔ (0 ≤ x ∧ x ≤ 3) ∧ S x = true := by
  rw [lstT, List.mem_filter, mem_univT]
theorem lstT_len (S : Int → Bool) : (lstT S).length ≤ 4 := Nat.le_trans (List.length_filter_le _ _) (by decide)
theorem lstT_incr (S : Int → Bool) : (lstT S).Pairwise (· < ·) := List.Pairwise.filter _ univT_incr
theorem lstT_put (S : Int → Bool) {t : Int} (ht : 0 ≤ t ∧ t ≤ 3) : putL (lstT S) t = lstT (insI S t) := by
  refine incr_ext (putL_incr t _ (lstT_incr S)) (lstT_incr _) fun z => ?_
  rw [putL_mem, lstT_mem, lstT_mem]
  simp only [insI, Bool.or_eq_true, decide_eq_true_eq]
  constructor
  · rintro (e | ⟨h1, h2⟩)
    · subst e; exact ⟨ht, .inr rfl⟩
    · exact ⟨h1, .inl h2⟩
  · rintro ⟨h1, h2 | h2⟩
    · exact .inr ⟨h1, h2⟩
    · exact .inl h2
theorem lstT_has (S : Int → Bool) {t : Int} (ht : 0 ≤ t ∧ t ≤ 3) : hasN (lstT S) t = S t := by
  rw [hasN_dec, Bool.eq_iff_iff, decide_eq_true_eq, lstT_mem]
  exact ⟨fun h => h.2, fun h => ⟨ht, h⟩⟩
theorem lstT_none : lstT (fun _ => false) = [] := rfl
def cellsT (S : Int → Bool) : List AV := [.v (.bool (S 0)), .v (.bool (S 1)), .v (.bool (S 2)), .v (.bool (S 3))]
@[simp] theorem cellsT_len (S : Int → Bool) : (cellsT S).length = 4 := rfl
theorem cellsT_at (S : Int → Bool) {n : Nat} (h : n < 4) : (cellsT S)[n]? = some (.v (.bool (S (n : Int)))) := by
  match n, h with
  | 0, _ => rfl
  | 1, _ => rfl
  | 2, _ => rfl
  | 3, _ => rfl
theorem cellsT_set (S : Int → Bool) {n : Nat} (h : n < 4) (b : Bool) : (cellsT S).set n (.v (.bool b)) = cellsT (fun x => if x = (n : Int) then b else S x) := by
  match n, h with
  | 0, _ => rfl
  | 1, _ => rfl
  | 2, _ => rfl
  | 3, _ => rfl
@[simp] theorem cellsT_all (S : Int → Bool) : (cellsT S).all flat = true := rfl
@[simp] theorem cellsT_take (S : Int → Bool) : (cellsT S).take 4 = cellsT S := rfl
@[simp] theorem cellsT_drop (S : Int → Bool) : (cellsT S).drop 4 = [] := rfl
@[simp] theorem nfc_cellsT (S : Int → Bool) : nfc (cellsT S) := fun x hx => by
  simp only [cellsT, List.mem_cons, List.not_mem_nil, or_false] at hx
  rcases hx with rfl | rfl | rfl | rfl <;> rfl
@[simp] theorem cellsT_flat (S : Int → Bool) : ∀ x ∈ cellsT S, flat x = true := fun x hx => by
  simp only [cellsT, List.mem_cons, List.not_mem_nil, or_false] at hx
  rcases hx with rfl | rfl | rfl | rfl <;> rfl
theorem cellsT_ext {S T : Int → Bool} (h : ∀ x, 0 ≤ x → x ≤ 3 → S x = T x) : cellsT S = cellsT T := by
  simp only [cellsT, h 0 (by decide) (by decide), h 1 (by decide) (by decide), h 2 (by decide) (by decide), h 3 (by decide) (by decide)]
theorem lstT_ext {S T : Int → Bool} (h : ∀ x, 0 ≤ x → x ≤ 3 → S x = T x) : lstT S = lstT T := by
  unfold lstT
  refine List.filter_congr fun x hx => ?_
  have := mem_univT.1 hx
  exact h x this.1 this.2
/-! ### the tokens with which words of symbols begin -/
def begT (nu : Int → Bool) (F : Int × Int → Bool) : List Int → Int → Bool
  | [], _ => false
  | x :: xs, t => if x < 0 then decide (t = -1 - x) else F (x, t) || (nu x && begT nu F xs t)
def headT (F : Int × Int → Bool) (x t : Int) : Bool := if x < 0 then decide (t = -1 - x) else F (x, t)
theorem begT_append (nu : Int → Bool) (F : Int × Int → Bool) (t : Int) (m : List Int) : ∀ l : List Int, okM false nu l = true → begT nu F (l ++ m) t = (begT nu F l t || begT nu F m t)
  | [], _ => by simp [begT]
  | x :: xs, h => by
    simp only [okM, List.all_cons, Bool.and_eq_true, Bool.or_eq_true, decide_eq_true_eq, Bool.false_eq_true, and_false, false_or] at h
    have h1 : ¬ x < 0 := by omega
    have ih := begT_append nu F t m xs (by simpa [okM] using h.2)
    simp [begT, h1, ih, h.1.2, Bool.or_assoc]
theorem begT_cons (nu : Int → Bool) (F : Int × Int → Bool) (x : Int) (xs : List Int) (t : Int) : begT nu F (x :: xs) t = (headT F x t || (decide (0 ≤ x) && nu x && begT nu F xs t)) := by
  unfold headT
  by_cases h : x < 0
  · have h2 : ¬ 0 ≤ x := by omega
    simp [begT, h, h2]
  · have h2 : 0 ≤ x := by omega
    simp [begT, h, h2]
theorem begT_mono {nu : Int → Bool} {F F' : Int × Int → Bool} (h : ∀ p, F p = true → F' p = true) (t : Int) : ∀ l : List Int, begT nu F l t = true → begT nu F' l t = true
  | [], g => g
  | x :: xs, g => by
    rw [begT_cons] at g ⊢
    simp only [Bool.or_eq_true, Bool.and_eq_true, headT] at g ⊢
    rcases g with g | ⟨g1, g2⟩
    · left
      split at g <;> rename_i hx
      · rw [if_pos hx]; exact g
      · rw [if_neg hx]; exact h _ g
    · exact .inr ⟨g1, begT_mono h t xs g2⟩
theorem begT_next {nu : Int → Bool} {F : Int × Int → Bool} {right : List Int} {a : Nat} {x : Int} (h : right[a]? = some x) (ha : okM false nu (right.take a) = true) (t : Int) : begT nu F (right.take (a + 1)) t = (begT nu F (right.take a) t || headT F x t) := by
  rw [List.take_add_one, h]
  show begT nu F (right.take a ++ [x]) t = _
  rw [begT_append nu F t [x] _ ha, begT_cons]
  simp [begT]
theorem begT_stop {nu : Int → Bool} {F : Int × Int → Bool} {right : List Int} {a : Nat} {x : Int} (h : right[a]? = some x) (ha : okM false nu (right.take a) = true) (hx : (decide (0 ≤ x) && nu x) = false) (t : Int) : begT nu F right t = (begT nu F (right.take a) t || headT F x t) := by
  have e : right = right.take a ++ (x :: right.drop (a + 1)) := by
    obtain ⟨h1, h2⟩ := List.getElem?_eq_some_iff.1 h
    rw [← h2, ← List.drop_eq_getElem_cons h1, List.take_append_drop]
  conv => lhs; rw [e]
  rw [begT_append nu F t _ _ ha, begT_cons, hx, Bool.false_and, Bool.or_false]
theorem okM_stop {nu : Int → Bool} {right : List Int} {a : Nat} {x : Int} (h : right[a]? = some x) (hx : (decide (0 ≤ x) && nu x) = false) : okM false nu right = false := by
  cases e : okM false nu right with
  | false => rfl
  | true =>
    simp only [okM, List.all_eq_true] at e
    have := e x (List.mem_of_getElem? h)
    simp [hx] at this
theorem okM_mono' {S T : Int → Bool} (h : ∀ x, S x = true → T x = true) {right : List Int} (hs : okM false S right = true) : okM true T right = true := by
  simp only [okM, List.all_eq_true, Bool.or_eq_true, Bool.and_eq_true, decide_eq_true_eq, Bool.false_eq_true, and_false, false_or] at hs ⊢
  intro x hx
  exact .inr ⟨(hs x hx).1, h x (hs x hx).2⟩
theorem null_made (g : GrammarT) (x : Int) (h : madeS g false x = true) : madeS g true x = true := by
  refine lfpI_low _ _ (fun p hp h1 => ?_) x h
  obtain ⟨r, hr, rfl⟩ := List.mem_map.1 hp
  have hc := lfpI_clo (L := g.2.2.map (impM true)) (fun q hq => by obtain ⟨r, _, rfl⟩ := List.mem_map.1 hq; exact impM_mono true r)
  exact hc (impM true r) (List.mem_map.2 ⟨r, hr, rfl⟩) (okM_mono' (S := lfpI (g.2.2.map (impM true))) (fun _ h => h) h1)
/-! ### the tokens with which words of nonterminals begin -/
noncomputable def impB (g : GrammarT) (r : RuleT) (t : Int) : Imp (Int × Int) := (fun S => okM true (madeS g true) r.2 && begT (madeS g false) S r.2 t, (r.1, t))
noncomputable def impsB (g : GrammarT) (l : List RuleT) : List (Imp (Int × Int)) := l.flatMap fun r => univT.map (impB g r)
theorem impB_mono (g : GrammarT) (r : RuleT) (t : Int) : MonI (impB g r t) := fun S T h hs => by
  simp only [impB, Bool.and_eq_true] at hs ⊢
  exact ⟨hs.1, begT_mono h t _ hs.2⟩
theorem impB_mem {g : GrammarT} {r : RuleT} {l : List RuleT} (hr : r ∈ l) {t : Int} (ht : 0 ≤ t ∧ t ≤ 3) : impB g r t ∈ impsB g l :=
  List.mem_flatMap.2 ⟨r, hr, List.mem_map.2 ⟨t, mem_univT.2 ht, rfl⟩⟩
theorem impsB_inv {g : GrammarT} {l : List RuleT} {p : Imp (Int × Int)} (hp : p ∈ impsB g l) : ∃ r ∈ l, ∃ t, (0 ≤ t ∧ t ≤ 3) ∧ p = impB g r t := by
  obtain ⟨r, hr, h⟩ := List.mem_flatMap.1 hp
  obtain ⟨t, ht, rfl⟩ := List.mem_map.1 h
  exact ⟨r, hr, t, mem_univT.1 ht, rfl⟩
noncomputable def firstS (g : GrammarT) : Int × Int → Bool := lfpI (impsB g g.2.2)
theorem impsB_snoc (g : GrammarT) {l : List RuleT} {k : Nat} {r : RuleT} (h : l[k]? = some r) : impsB g (l.take (k + 1)) = impsB g (l.take k) ++ univT.map (impB g r) := by
  rw [impsB, impsB, List.take_add_one, h, List.flatMap_append]
  simp
noncomputable def begS (g : GrammarT) (right : List Int) (t : Int) : Bool := okM true (madeS g true) right && begT (madeS g false) (firstS g) right t
noncomputable def nullS (g : GrammarT) (right : List Int) : Bool := okM false (madeS g false) right
theorem nullS_made {g : GrammarT} {right : List Int} (h : nullS g right = true) : okM true (madeS g true) right = true := okM_mono' (null_made g) h
/-! ### what stands behind nonterminals: tokens; -1 for nothing -/
def univL : List Int := [-1, 0, 1, 2, 3]
theorem mem_univL {t : Int} : t ∈ univL ↔ -1 ≤ t ∧ t ≤ 3 := by
  simp only [univL, List.mem_cons, List.not_mem_nil, or_false]; omega
noncomputable def impW (g : GrammarT) (left x : Int) (rest : List Int) (t : Int) : Imp (Int × Int) := (fun S => begS g rest t || (nullS g rest && S (left, t)), (x, t))
noncomputable def impsWr (g : GrammarT) (r : RuleT) (a : Nat) : List (Imp (Int × Int)) := match r.2[a]? with
  | some x => if x < 0 then [] else univL.map (impW g r.1 x (r.2.drop (a + 1)))
  | none => []
noncomputable def impWz : Imp (Int × Int) := (fun _ => true, (0, -1))
noncomputable def impsWf (g : GrammarT) (r : RuleT) : List (Imp (Int × Int)) := (List.range r.2.length).flatMap (impsWr g r)
noncomputable def impsW (g : GrammarT) : List (Imp (Int × Int)) := impWz :: g.2.2.flatMap (impsWf g)
noncomputable def followS (g : GrammarT) : Int × Int → Bool := lfpI (impsW g)
theorem impW_mono (g : GrammarT) (left x : Int) (rest : List Int) (t : Int) : MonI (impW g left x rest t) := fun S T h hs => by
  simp only [impW, Bool.or_eq_true, Bool.and_eq_true] at hs ⊢
  exact hs.imp id fun h2 => ⟨h2.1, h _ h2.2⟩
theorem impW_mem {g : GrammarT} {r : RuleT} (hr : r ∈ g.2.2) {a : Nat} {x : Int} (ha : r.2[a]? = some x) (hx : ¬ x < 0) {t : Int} (ht : -1 ≤ t ∧ t ≤ 3) : impW g r.1 x (r.2.drop (a + 1)) t ∈ impsW g := by
  refine List.mem_cons_of_mem _ (List.mem_flatMap.2 ⟨r, hr, List.mem_flatMap.2 ⟨a, List.mem_range.2 (List.getElem?_eq_some_iff.1 ha).1, ?_⟩⟩)
  simp only [impsWr, ha, if_neg hx]
  exact List.mem_map.2 ⟨t, mem_univL.2 ht, rfl⟩
noncomputable def seenW (g : GrammarT) (k : Nat) (r : RuleT) (a : Nat) : List (Imp (Int × Int)) := (impWz :: (g.2.2.take k).flatMap (impsWf g)) ++ (List.range a).flatMap (impsWr g r)
theorem seenW_zero (g : GrammarT) (k : Nat) (r : RuleT) : seenW g k r 0 = impWz :: (g.2.2.take k).flatMap (impsWf g) := by simp [seenW]
theorem seenW_snoc (g : GrammarT) (k : Nat) (r : RuleT) (a : Nat) : seenW g k r (a + 1) = seenW g k r a ++ impsWr g r a := by
  rw [seenW, seenW, List.range_succ, List.flatMap_append, List.append_assoc]
  simp
theorem seenW_all (g : GrammarT) {k : Nat} {r : RuleT} (h : g.2.2[k]? = some r) : seenW g k r r.2.length = impWz :: (g.2.2.take (k + 1)).flatMap (impsWf g) := by
  rw [seenW, List.take_add_one, h, List.flatMap_append]
  simp [impsWf]
theorem low_W (g : GrammarT) : LowI (impsW g) (fun p => decide (p = (0, -1))) := fun T hT x hx => by
  have : x = (0, -1) := of_decide_eq_true hx
  subst this
  exact hT impWz List.mem_cons_self rfl
/-! ### universes of pairs -/
def univP : List (Int × Int) := univN.flatMap fun x => univT.map fun t => (x, t)
theorem mem_univP {p : Int × Int} : p ∈ univP ↔ (0 ≤ p.1 ∧ p.1 ≤ 5) ∧ (0 ≤ p.2 ∧ p.2 ≤ 3) := by
  simp only [univP, List.mem_flatMap, List.mem_map, mem_univN, mem_univT]
  constructor
  · rintro ⟨x, hx, t, ht, rfl⟩; exact ⟨hx, ht⟩
  · rintro ⟨h1, h2⟩; exact ⟨p.1, h1, p.2, h2, rfl⟩
def univQ : List (Int × Int) := univN.flatMap fun x => univL.map fun t => (x, t)
theorem mem_univQ {p : Int × Int} : p ∈ univQ ↔ (0 ≤ p.1 ∧ p.1 ≤ 5) ∧ (-1 ≤ p.2 ∧ p.2 ≤ 3) := by
  simp only [univQ, List.mem_flatMap, List.mem_map, mem_univN, mem_univL]
  constructor
  · rintro ⟨x, hx, t, ht, rfl⟩; exact ⟨hx, ht⟩
  · rintro ⟨h1, h2⟩; exact ⟨p.1, h1, p.2, h2, rfl⟩
theorem card_leP (S : Int × Int → Bool) : (univP.filter S).length ≤ 24 := Nat.le_trans (List.length_filter_le _ _) (by decide)
theorem card_leQ (S : Int × Int → Bool) : (univQ.filter S).length ≤ 30 := Nat.le_trans (List.length_filter_le _ _) (by decide)
theorem lowB_univ {g : GrammarT} (hG : OkG g) {S : Int × Int → Bool} (h : LowI (impsB g g.2.2) S) {p : Int × Int} (hp : S p = true) : (0 ≤ p.1 ∧ p.1 ≤ 5) ∧ (0 ≤ p.2 ∧ p.2 ≤ 3) := by
  have := h (fun p => decide (p ∈ univP)) (fun q hq _ => by
    obtain ⟨r, hr, t, ht, rfl⟩ := impsB_inv hq
    have h0 := hG.l0 r hr
    have h1 := hG.l1 r hr
    have h2 := hG.n1
    exact decide_eq_true (mem_univP.2 ⟨⟨h0, by show r.1 ≤ 5; omega⟩, ht⟩)) p hp
  exact mem_univP.1 (of_decide_eq_true this)
theorem firstS_univ {g : GrammarT} (hG : OkG g) {p : Int × Int} (hp : firstS g p = true) : (0 ≤ p.1 ∧ p.1 ≤ 5) ∧ (0 ≤ p.2 ∧ p.2 ≤ 3) := lowB_univ hG (lfpI_low _) hp
theorem begT_univ {nu : Int → Bool} {F : Int × Int → Bool} {u : Int} (hF : ∀ p, F p = true → 0 ≤ p.2 ∧ p.2 ≤ 3) : ∀ (l : List Int), (∀ x ∈ l, -4 ≤ x) → ∀ t, begT nu F l t = true → 0 ≤ t ∧ t ≤ 3
  | [], _, t, h => by cases h
  | x :: xs, hl, t, h => by
    rw [begT_cons] at h
    simp only [Bool.or_eq_true, Bool.and_eq_true, headT] at h
    rcases h with h | ⟨_, h⟩
    · split at h <;> rename_i hx
      · have := of_decide_eq_true h
        have := hl x (.head _)
        omega
      · exact hF _ h
    · exact begT_univ (u := u) hF xs (fun y hy => hl y (.tail _ hy)) t h
theorem begS_univ {g : GrammarT} (hG : OkG g) {l : List Int} (hl : ∀ x ∈ l, -4 ≤ x) {t : Int} (h : begS g l t = true) : 0 ≤ t ∧ t ≤ 3 := by
  simp only [begS, Bool.and_eq_true] at h
  exact begT_univ (u := 0) (fun p hp => (firstS_univ hG hp).2) l hl t h.2
end Go.Proofs.Ytenienncgjanpaa.En
end
section
namespace Go.Proofs.Ytenienncgjanpaa.En
open Go.RowKit
set_option linter.unusedSimpArgs false
set_option linter.unusedVariables false
set_option maxHeartbeats 4000000
theorem hasN_lstA (S : Int → Bool) {x : Int} (h0 : 0 ≤ x) (h5 : x ≤ 5) : hasN (lstN S) x = S x := by
  rw [hasN_dec, Bool.eq_iff_iff, decide_eq_true_eq, lstN, List.mem_filter, mem_univN]
  exact ⟨fun h => h.2, fun h => ⟨⟨h0, h5⟩, h⟩⟩
theorem lstN_len (S : Int → Bool) : (lstN S).length ≤ 6 := Nat.le_trans (List.length_filter_le _ _) (by decide)
def rowsT (n : Nat) (S : Int × Int → Bool) : List (List Int) := (List.range n).map fun x : Nat => lstT fun t => S (x, t)
@[simp] theorem rowsT_len (n : Nat) (S : Int × Int → Bool) : (rowsT n S).length = n := by simp [rowsT]
theorem rowsT_at (S : Int × Int → Bool) {n x : Nat} (h : x < n) : (rowsT n S)[x]? = some (lstT fun t => S (x, t)) := by
  simp [rowsT, List.getElem?_range h]
theorem rowsT_none (n : Nat) : rowsT n (fun _ => false) = List.replicate n [] := by
  refine List.ext_getElem? fun i => ?_
  by_cases h : i < n
  · rw [rowsT_at _ h, List.getElem?_replicate, if_pos h]; rfl
  · rw [List.getElem?_eq_none (by simp; omega), List.getElem?_eq_none (by simp; omega)]
theorem rowsT_put (S : Int × Int → Bool) {n x : Nat} (h : x < n) {t : Int} (ht : 0 ≤ t ∧ t ≤ 3) : (rowsT n S).set x (putL (lstT fun t => S (x, t)) t) = rowsT n (insI S (x, t)) := by
  refine List.ext_getElem? fun i => ?_
  by_cases hi : i < n
  · rw [rowsT_at _ hi, List.getElem?_set]
    by_cases e : x = i
    · subst e
      rw [if_pos rfl, if_pos (by simpa using h), lstT_put _ ht]
      congr 1
      exact lstT_ext fun u _ _ => by simp [insI]
    · rw [if_neg e, rowsT_at _ hi]
      congr 1
      refine lstT_ext fun u _ _ => ?_
      have : ¬ ((i : Int) = (x : Int)) := by omega
      simp [insI, this]
  · rw [List.getElem?_eq_none (by simp; omega), List.getElem?_eq_none (by simp; omega)]
theorem lstT_step (b : Int → Bool) {L : List Int} {j : Nat} {t : Int} (h : L[j]? = some t) (ht : 0 ≤ t ∧ t ≤ 3) : putL (lstT fun u => b u || hasN (L.take j) u) t = lstT fun u => b u || hasN (L.take (j + 1)) u := by
  rw [lstT_put _ ht]
  refine lstT_ext fun u _ _ => ?_
  rw [insI, Bool.eq_iff_iff]
  simp only [hasN_dec, Bool.or_eq_true, decide_eq_true_eq, List.take_add_one, h, List.mem_append, Option.toList_some, List.mem_singleton]
  exact or_assoc
theorem l14First (g : GrammarT) (hG : OkG g) (S : Int × Int → Bool) (n : Nat) (hn : (n : Int) = g.1) (right : List Int) (hl : right.length ≤ 4) (h1 : ∀ x ∈ right, x < g.1) (h0 : ∀ x ∈ right, -4 ≤ x) :
    Fn Try.prog 68 1 [.ag (grammarC g), .own 0 1 0 n, .im 1 (ints right)] [(0, ⟨25, 1, intss (rowsT n S)⟩)] (.im 1 (ints (lstT fun t => begT (madeS g false) S right t))) 1 [(0, ⟨25, 1, intss (rowsT n S)⟩)] := by
  have cn := l3Close g hG false
  have hn1 := hG.n1
  refine Fn.mk (rs := [.tmp 6]) (nt := 47) Try.func68 (by kernel_rfl) rfl rfl rfl (by simp) ?_
  simp only [sl, grammarC]
  refine wkc (@grammarC.eq_1) _ ?_
  refine GS.cc (cn) rfl rfl rfl rfl (by simp [go_sem, List.take_of_length_le, grammarC] <;> with_reducible rfl) rfl (by simp [go_sem, List.take_of_length_le, grammarC]) ?_
  generalize hN : madeS g false = N
  have hNl := lstN_len N
  refine wkc0 _ ?_
  refine Holds.frz [] [(8, .im 1 (ints []))] (.cons rfl (Fz.nl _) .nil) ?_
  refine Holds.loop (ι := Nat) (fun a => ⟨[(1, .own 0 1 0 n), (3, .pb 1 3 0 0), (7, .im 1 (ints (lstN N))), (8, .im 1 (ints (lstT fun t => begT N S (right.take a) t))), (15, .im 1 (ints right)), (16, .v (.int .i64 right.length)), (17, .v (.int .i64 a))], [(1, ⟨31, 3, [grammarC g]⟩), (0, ⟨25, 1, intss (rowsT n S)⟩)], 2⟩)
    (fun a => a ≤ right.length ∧ okM false N (right.take a) = true) (fun a => right.length - a) 0 ⟨Nat.zero_le _, rfl⟩ ?_ ?_
  · have h00 : lstT (fun t => begT N S (right.take 0) t) = [] := lstT_none
    rw [h00]
    exact Cov.ofn (id) rfl (by simp [go_sem, List.take_of_length_le, ren, ren1, ren2, okr, okr1, okr2, ChkT, ChkN, BlkN, nf, grammarC, frz]) (by simp [go_sem, List.take_of_length_le, ren, ren1, ren2, okr, okr1, okr2, ChkT, ChkN, BlkN, nf, grammarC, frz])
  rintro a ⟨ha, hok⟩
  have stepa : wr64 ((a : Int) + 1) = ((a + 1 : Nat) : Int) := wr64_id (by omega) (by omega)
  refine wkc0 _ ?_
  refine Holds.cond rfl (fun h => ?_) (fun h => ?_)
  · have hla : a < right.length := by simp at h; omega
    have hxa : right[a]? = some right[a] := List.getElem?_eq_getElem hla
    have hxm := List.getElem_mem hla
    generalize right[a] = x at hxa hxm
    have hx5 := h1 x hxm
    have hx4 := h0 x hxm
    have hnext := fun t => begT_next (F := S) hxa hok t
    have hstop := fun h t => begT_stop (F := S) hxa hok h t
    generalize hb : begT N S (right.take a) = b at hnext hstop ⊢
    have hbl := lstT_len b
    by_cases hx0 : x < 0
    · have hx1 : ¬ 0 ≤ x := by omega
      have e2 : (lstT fun t => begT N S right t) = putL (lstT b) (-1 - x) := by
        rw [lstT_put b (by omega)]
        refine lstT_ext fun t _ _ => ?_
        rw [hstop (by simp [hx1]) t, headT, if_pos hx0, insI]
      rw [e2]
      have cpu := l1Put (lstT b) (-1 - x) (by omega)
      have hwx : wr64 (-1 - x) = -1 - x := wr64_id (by omega) (by omega)
      refine wkc (And.intro (@get_E _ _ _ _ hxa) (And.intro @hxa (And.intro @hla (And.intro @hx0 (@hwx))))) _ ?_
      refine GS.cc (cpu) rfl rfl rfl rfl (by simp [go_sem, List.take_of_length_le] <;> with_reducible rfl) rfl (by simp [go_sem, List.take_of_length_le]) ?_
      refine wkc0 _ ?_
      refine OutF.mkn (xs := ?_) (nm [0]) ?_ ?_ ?_ ?_ ?_ (by first | exact .inr rfl | exact .inl rfl)
      rotate_left
      · simp [go_sem, List.take_of_length_le] <;> with_reducible rfl
      · simp [go_sem, List.take_of_length_le, ren, ren1, ren2, okr, okr1, okr2, ChkN, BlkN, List.range_succ, nf]
      · simp [go_sem, List.take_of_length_le, ren, ren1, ren2, okr, okr1, okr2, ChkN, BlkN, List.range_succ, nf]
      · simp [go_sem, List.take_of_length_le, ren, ren1, ren2, okr, okr1, okr2, ChkN, BlkN, List.range_succ, nf]
      · rfl
    · obtain ⟨m, rfl⟩ : ∃ m : Nat, x = (m : Int) := ⟨x.toNat, by omega⟩
      have hmn : m < n := by omega
      have hrow := rowsT_at S hmn
      have hno : okM false N (right.take (a + 1)) = N (m : Int) := by
        rw [okM_snoc false N hxa, hok]; simp
      have hrl := lstT_len fun t => S ((m : Int), t)
      have hrm := lstT_mem fun t => S ((m : Int), t)
      have hall : (lstT fun u => b u || hasN ((lstT fun t => S ((m : Int), t)).take (lstT fun t => S ((m : Int), t)).length) u) = lstT fun t => begT N S (right.take (a + 1)) t := by
        refine lstT_ext fun u hu0 hu1 => ?_
        rw [List.take_length, lstT_has _ ⟨hu0, hu1⟩, hnext u, headT, if_neg hx0]
      generalize (lstT fun t => S ((m : Int), t)) = L at hrow hrl hrm hall
      refine wkc (And.intro (@get_E _ _ _ _ hxa) (And.intro @hxa (And.intro @hla (And.intro @hx0 (And.intro @hmn (And.intro @hrow (And.intro (@get_E _ _ _ _ hrow) (@intsC.eq_1)))))))) _ ?_
      refine Holds.loop (ι := Nat) (fun j => ⟨[(1, .own 0 1 0 n), (3, .pb 1 3 0 0), (7, .im 1 (ints (lstN N))), (8, .im 1 (ints (lstT fun u => b u || hasN (L.take j) u))), (10, .v (.int .i64 m)), (15, .im 1 (ints right)), (16, .v (.int .i64 right.length)), (17, .v (.int .i64 a)), (30, .im 1 (ints L)), (31, .v (.int .i64 L.length)), (32, .v (.int .i64 j))], [(1, ⟨31, 3, [grammarC g]⟩), (0, ⟨25, 1, intss (rowsT n S)⟩)], 2⟩)
        (fun j => j ≤ L.length) (fun j => L.length - j) 0 (Nat.zero_le _) ?_ ?_
      · rw [show (fun u => b u || hasN (L.take 0) u) = b from by funext u; simp [hasN]]
        exact Cov.ofn (id) rfl (by simp [go_sem, List.take_of_length_le, ren, ren1, ren2, okr, okr1, okr2, ChkT, ChkN, BlkN, nf, grammarC]) (by simp [go_sem, List.take_of_length_le, ren, ren1, ren2, okr, okr1, okr2, ChkT, ChkN, BlkN, nf, grammarC])
      intro j hj
      have stepj : wr64 ((j : Int) + 1) = ((j + 1 : Nat) : Int) := wr64_id (by omega) (by omega)
      refine wkc0 _ ?_
      refine Holds.cond rfl (fun h => ?_) (fun h => ?_)
      · have hlj : j < L.length := by simp at h; omega
        have htj : L[j]? = some L[j] := List.getElem?_eq_getElem hlj
        have htm := ((hrm _).1 (List.getElem_mem hlj)).1
        generalize L[j] = t at htj htm
        have hst := lstT_step b htj htm
        have cpu := l1Put (lstT fun u => b u || hasN (L.take j) u) t (by have := lstT_len fun u => b u || hasN (L.take j) u; omega)
        rw [hst] at cpu
        refine wkc (And.intro (@get_E _ _ _ _ htj) (And.intro @htj (@hlj))) _ ?_
        refine GS.cc (cpu) rfl rfl rfl rfl (by simp [go_sem, List.take_of_length_le] <;> with_reducible rfl) rfl (by simp [go_sem, List.take_of_length_le]) ?_
        refine wkc0 _ ?_
        refine ⟨j + 1, by omega, by omega, ?_⟩
        rw [stepj]
        exact Cov.ofn (id) rfl (by simp [go_sem, List.take_of_length_le, ren, ren1, ren2, okr, okr1, okr2, ChkT, ChkN, BlkN, nf, grammarC]) (by simp [go_sem, List.take_of_length_le, ren, ren1, ren2, okr, okr1, okr2, ChkT, ChkN, BlkN, nf, grammarC])
      · have hje : j = L.length := by simp at h; omega
        subst hje
        rw [hall]
        have ch := l1Has (lstN N) m (by omega)
        rw [hasN_lstA N (by omega) (by omega)] at ch
        refine wkc0 _ ?_
        refine GS.cc (ch) rfl rfl rfl rfl (by simp [go_sem, List.take_of_length_le] <;> with_reducible rfl) rfl (by simp [go_sem, List.take_of_length_le]) ?_
        refine wkc0 _ ?_
        refine Holds.cond rfl (fun h => ?_) (fun h => ?_)
        · have hNm : N (m : Int) = false := by simpa using h
          have e2 : (fun t => begT N S right t) = fun t => begT N S (right.take (a + 1)) t := by
            funext t
            rw [hstop (by simp [hNm]) t, hnext t]
          rw [e2]
          refine wkc0 _ ?_
          refine OutF.mkn (xs := ?_) (nm [0]) ?_ ?_ ?_ ?_ ?_ (by first | exact .inr rfl | exact .inl rfl)
          rotate_left
          · simp [go_sem, List.take_of_length_le] <;> with_reducible rfl
          · simp [go_sem, List.take_of_length_le, ren, ren1, ren2, okr, okr1, okr2, ChkN, BlkN, List.range_succ, nf]
          · simp [go_sem, List.take_of_length_le, ren, ren1, ren2, okr, okr1, okr2, ChkN, BlkN, List.range_succ, nf]
          · simp [go_sem, List.take_of_length_le, ren, ren1, ren2, okr, okr1, okr2, ChkN, BlkN, List.range_succ, nf]
          · rfl
        · have hNm : N (m : Int) = true := by simpa using h
          rw [hNm] at hno
          refine wkc0 _ ?_
          refine ⟨a + 1, ⟨by omega, hno⟩, by omega, ?_⟩
          rw [stepa]
          exact Cov.ofn (id) rfl (by simp [go_sem, List.take_of_length_le, ren, ren1, ren2, okr, okr1, okr2, ChkT, ChkN, BlkN, nf, grammarC]) (by simp [go_sem, List.take_of_length_le, ren, ren1, ren2, okr, okr1, okr2, ChkT, ChkN, BlkN, nf, grammarC])
  · have hae : a = right.length := by simp at h; omega
    subst hae
    rw [List.take_length]
    refine wkc0 _ ?_
    refine OutF.mkn (xs := ?_) (nm [0]) ?_ ?_ ?_ ?_ ?_ (by first | exact .inr rfl | exact .inl rfl)
    rotate_left
    · simp [go_sem, List.take_of_length_le] <;> with_reducible rfl
    · simp [go_sem, List.take_of_length_le, ren, ren1, ren2, okr, okr1, okr2, ChkN, BlkN, List.range_succ, nf]
    · simp [go_sem, List.take_of_length_le, ren, ren1, ren2, okr, okr1, okr2, ChkN, BlkN, List.range_succ, nf]
    · simp [go_sem, List.take_of_length_le, ren, ren1, ren2, okr, okr1, okr2, ChkN, BlkN, List.range_succ, nf]
    · rfl
theorem l14Null (g : GrammarT) (hG : OkG g) (right : List Int) (hl : right.length ≤ 4) (h1 : ∀ x ∈ right, x < g.1) : Pure Try.prog 39 [.ag (grammarC g), .im 1 (ints right)] (.v (.bool (nullS g right))) := by
  have cn := l3Close g hG false
  have hn1 := hG.n1
  unfold nullS
  refine Pure.mk (rs := [.tmp 4]) (nt := 25) Try.func39 (by kernel_rfl) rfl rfl rfl (by simp) ?_
  simp only [sl, grammarC]
  refine wkc (@grammarC.eq_1) _ ?_
  refine GS.cc (cn) rfl rfl rfl rfl (by simp [go_sem, List.take_of_length_le, grammarC] <;> with_reducible rfl) rfl (by simp [go_sem, List.take_of_length_le, grammarC]) ?_
  generalize hN : madeS g false = N
  have hNl := lstN_len N
  refine wkc0 _ ?_
  refine Holds.loop (ι := Nat) (fun a => ⟨[(5, .im 1 (ints (lstN N))), (10, .im 1 (ints right)), (11, .v (.int .i64 right.length)), (12, .v (.int .i64 a))], [(0, ⟨31, 3, [grammarC g]⟩)], 1⟩)
    (fun a => a ≤ right.length ∧ okM false N (right.take a) = true) (fun a => right.length - a) 0 ⟨Nat.zero_le _, rfl⟩ ?_ ?_
  · exact Cov.ofn (id) rfl (by simp [go_sem, List.take_of_length_le, ren, ren1, ren2, okr, okr1, okr2, ChkT, ChkN, BlkN, nf, grammarC]) (by simp [go_sem, List.take_of_length_le, ren, ren1, ren2, okr, okr1, okr2, ChkT, ChkN, BlkN, nf, grammarC])
  rintro a ⟨ha, hok⟩
  have stepa : wr64 ((a : Int) + 1) = ((a + 1 : Nat) : Int) := wr64_id (by omega) (by omega)
  refine wkc0 _ ?_
  refine Holds.cond rfl (fun h => ?_) (fun h => ?_)
  · have hla : a < right.length := by simp at h; omega
    have hxa : right[a]? = some right[a] := List.getElem?_eq_getElem hla
    have hxm := List.getElem_mem hla
    generalize right[a] = x at hxa hxm
    have hx5 := h1 x hxm
    have hstop := fun h => okM_stop (nu := N) hxa h
    by_cases hx0 : x < 0
    · have hx1 : ¬ 0 ≤ x := by omega
      rw [hstop (by simp [hx1])]
      refine wkc (And.intro (@get_E _ _ _ _ hxa) (And.intro @hxa (And.intro @hla (@hx0)))) _ ?_
      refine Out.mk (xs := ?_) ?_ ?_ (by first | exact .inr rfl | exact .inl rfl)
      rotate_left
      · simp [go_sem, List.take_of_length_le] <;> with_reducible rfl
      exact .v _
    · have hno : okM false N (right.take (a + 1)) = N x := by
        have hx1 : 0 ≤ x := by omega
        rw [okM_snoc false N hxa, hok]; simp [hx1]
      have ch := l1Has (lstN N) x (by omega)
      rw [hasN_lstA N (by omega) (by omega)] at ch
      refine wkc (And.intro (@get_E _ _ _ _ hxa) (And.intro @hxa (And.intro @hla (@hx0)))) _ ?_
      refine GS.cc (ch) rfl rfl rfl rfl (by simp [go_sem, List.take_of_length_le] <;> with_reducible rfl) rfl (by simp [go_sem, List.take_of_length_le]) ?_
      refine wkc0 _ ?_
      refine Holds.cond rfl (fun h => ?_) (fun h => ?_)
      · have hNm : N x = false := by simpa using h
        rw [hstop (by simp [hNm])]
        refine wkc0 _ ?_
        refine Out.mk (xs := ?_) ?_ ?_ (by first | exact .inr rfl | exact .inl rfl)
        rotate_left
        · simp [go_sem, List.take_of_length_le] <;> with_reducible rfl
        exact .v _
      · have hNm : N x = true := by simpa using h
        rw [hNm] at hno
        refine wkc0 _ ?_
        refine ⟨a + 1, ⟨by omega, hno⟩, by omega, ?_⟩
        rw [stepa]
        exact Cov.ofn (id) rfl (by simp [go_sem, List.take_of_length_le, ren, ren1, ren2, okr, okr1, okr2, ChkT, ChkN, BlkN, nf, grammarC]) (by simp [go_sem, List.take_of_length_le, ren, ren1, ren2, okr, okr1, okr2, ChkT, ChkN, BlkN, nf, grammarC])
  · have hae : a = right.length := by simp at h; omega
    subst hae
    rw [List.take_length] at hok
    rw [hok]
    refine wkc0 _ ?_
    refine Out.mk (xs := ?_) ?_ ?_ (by first | exact .inr rfl | exact .inl rfl)
    rotate_left
    · simp [go_sem, List.take_of_length_le] <;> with_reducible rfl
    exact .v _
end Go.Proofs.Ytenienncgjanpaa.En
end
section
namespace Go.Proofs.Ytenienncgjanpaa.En
open Go.RowKit
set_option linter.unusedSimpArgs false
set_option linter.unusedVariables false
section
attribute [local semireducible] G Gq Holds GS thenA
variable {P : Program} {nt : NT} {s : AS} {K : AS → Prop} {ops : Array Oper} {o : Oper} {l : List Oper} {i : Nat}
theorem astore_all {t : TypeId} {p x : Operand} {n sz : Nat} {xs row : List AV} {b : Blk} {k : TI} (hp : ev s p = some (.pb n sz 0 0)) (hx : ev s x = some (.ag xs)) (hi : ti P t = some k) (hb : lb s.bl n = some b) (hsz : b.sz = sz) (hrow : b.xs = [row])
    (hl : xs.length = k.sz) (hk : k.sz = sz) (hr : row.length = sz) (h2 : 2 ≤ xs.length) (hok : xs.all cl1 = true) : astore P s t p x = some { s with bl := st s.bl n { b with xs := [xs] } } := by
  unfold astore
  have ho : xs.all (ok1 s) = true := List.all_eq_true.2 fun y hy => by
    have := List.all_eq_true.1 hok y hy
    cases y <;> simp_all [cl1, ok1]
  have hspl : spl row 0 xs = xs := by
    match xs, h2 with
    | a :: b :: r, _ =>
      simp only [spl, List.take_zero, List.nil_append, Nat.zero_add]
      rw [List.drop_of_length_le (by omega), List.append_nil]
  simp only [hp, hx, hi, hb, cel]
  have hc : b.sz = sz ∧ xs.length = k.sz ∧ xs.all (ok1 s) = true ∧ 0 + k.sz ≤ sz := ⟨hsz, hl, ho, by omega⟩
  simp only [hc, and_self, if_true, hrow]
  simp [hspl]
theorem GS.stA {t : TypeId} {p x : Operand} {n sz : Nat} {xs row : List AV} {b : Blk} {k : TI} {s' : AS} (hop : o.op = .store t p x) (hd : o.dst = none) (hg : gd ops s o = some true) (hp : ev s p = some (.pb n sz 0 0)) (hx : ev s x = some (.ag xs)) (hi : ti P t = some k) (hb : lb s.bl n = some b) (hsz : b.sz = sz) (hrow : b.xs = [row])
    (hl : xs.length = k.sz) (hk : k.sz = sz) (hr : row.length = sz) (h2 : 2 ≤ xs.length) (hok : xs.all cl1 = true) (hs : ({ s with bl := st s.bl n { b with xs := [xs] } } : AS) = s') (h : GS P nt ops K l (i + 1) s') : GS P nt ops K (o :: l) i s := by
  subst hs
  refine GS.step hg ?_ h
  unfold astep
  have e : okd nt.n o.dst = true := by rw [hd]; rfl
  rw [if_pos e]
  simp only [hop, astore_all hp hx hi hb hsz hrow hl hk hr h2 hok, hd, Option.map_some]
  rfl
theorem Holds.join {ι : Type} {c d : Code} {Q Q2 : Exit → AS → Prop} (I : ι → AS) (V : ι → Prop) (h1 : Holds P nt c (thenA (fun s1 => ∃ i, V i ∧ Cov nt.k (I i) s1) Q) s) (h2 : ∀ i, V i → Holds P nt d Q2 (I i)) : Holds P nt c (thenA (Holds P nt d Q2) Q) s := by
  refine h1.mono fun e s1 h => ?_
  cases e with
  | normal =>
    have h : ∃ i, V i ∧ Cov nt.k (I i) s1 := h
    obtain ⟨i, hi, hc⟩ := h
    exact Holds.cov hc (h2 i hi)
  | _ => exact h
end
end Go.Proofs.Ytenienncgjanpaa.En
end
section
namespace Go.Proofs.Ytenienncgjanpaa.En
open Go.RowKit
set_option linter.unusedSimpArgs false
set_option linter.unusedVariables false
set_option maxHeartbeats 4000000
theorem intss_set (l : List (List Int)) (k : Nat) (r : List Int) : (intss l).set k [.im 1 (ints r)] = intss (l.set k r) := by simp [intss, intsC]
theorem intss_cl (l : List (List Int)) : ∀ row ∈ intss l, ∀ x ∈ row, cl1 x = true := fun row hr x hx => by
  simp only [intss, List.mem_map] at hr
  obtain ⟨r, _, rfl⟩ := hr
  simp only [intsC, List.mem_singleton] at hx
  subst hx; rfl
theorem l14Firsts (g : GrammarT) (hG : OkG g) (n : Nat) (hn : (n : Int) = g.1) : Fn Try.prog 69 0 [.ag (grammarC g)] [] (.own 0 1 0 n) 1 [(0, ⟨25, 1, intss (rowsT n (firstS g))⟩)] := by
  have cm := l3Close g hG true
  have hlen := hG.len
  have hn1 := hG.n1
  have hn0 := hG.n0
  have hml := lstN_len (madeS g true)
  refine Fn.mk (rs := [.tmp 2]) (nt := 79) Try.func69 (by kernel_rfl) rfl rfl rfl (by simp) ?_
  simp only [sl, grammarC]
  refine wkdc (@grammarC.eq_1) _ ?_
  first | refine GS.cc (cm) rfl rfl rfl rfl (by simp [go_sem, List.take_of_length_le, grammarC] <;> with_reducible rfl) rfl (by simp [go_sem, List.take_of_length_le, grammarC]) ?_ | refine Gd.cc (cm) rfl rfl rfl rfl (by simp [go_sem, List.take_of_length_le, grammarC] <;> with_reducible rfl) rfl (by simp [go_sem, List.take_of_length_le, grammarC]) ?_
  have hgn : g.1 = (n : Int) := hn.symm
  refine wkdc (And.intro @grammarC.eq_1 (And.intro @hgn (And.intro ((show (0:Int) ≤ (n : Int) by omega)) (And.intro ((show (24:Int) * n ≤ 281474976710656 by omega)) ((show (n : Int) ≤ 281474976710656 by omega)))))) _ ?_
  refine Holds.nilI 1 n 1 rfl rfl ?_
  have hO0 : List.replicate n ([.im 1 []] : List AV) = intss (rowsT n (fun _ => false)) := by rw [rowsT_none]; simp [intss, intsC, ints]
  refine Holds.loop (ι := (Int × Int → Bool) × Bool) (fun i => ⟨[(1, .pb 0 3 0 0), (3, .im 1 (ints (lstN (madeS g true)))), (4, .own 1 1 0 n), (5, .v (.bool i.2))], [(1, ⟨25, 1, intss (rowsT n i.1)⟩), (0, ⟨31, 3, [grammarC g]⟩)], 2⟩)
    (fun i => LowI (impsB g g.2.2) i.1 ∧ (i.2 = false → i.1 = firstS g)) (fun i => 2 * (24 - (univP.filter i.1).length) + if i.2 then 1 else 0) (fun _ => false, true) ⟨fun T hT x hx => absurd hx (by simp), fun e => (by cases e)⟩ ?_ ?_
  · rw [← hO0]
    have hnf0 : nfr (List.replicate n ([.im 1 []] : List AV)) := .rep (by simp [nf])
    exact Cov.ofn (id) rfl (by simp [go_sem, List.take_of_length_le, ren, ren1, ren2, okr, okr1, okr2, ChkT, ChkN, BlkN, nf, grammarC, hgn, st, hnf0]) (by simp [go_sem, List.take_of_length_le, ren, ren1, ren2, okr, okr1, okr2, ChkT, ChkN, BlkN, nf, grammarC, hgn, st, hnf0])
  rintro ⟨S0, more0⟩ ⟨hlow0, hfin⟩
  dsimp only at hlow0 hfin ⊢
  refine wkdc0 _ ?_
  refine Holds.cond rfl (fun h => ?_) (fun h => ?_)
  · subst h
    have hc0 := card_leP S0
    refine wkdc (@grammarC.eq_1) _ ?_
    refine Holds.loop (ι := Nat × (Int × Int → Bool) × Bool) (fun i => ⟨[(1, .pb 0 3 0 0), (3, .im 1 (ints (lstN (madeS g true)))), (4, .own 1 1 0 n), (5, .v (.bool i.2.2)), (20, .im 2 (rules g.2.2)), (21, .v (.int .i64 g.2.2.length)), (22, .v (.int .i64 i.1))], [(1, ⟨25, 1, intss (rowsT n i.2.1)⟩), (0, ⟨31, 3, [grammarC g]⟩)], 2⟩)
      (fun i => i.1 ≤ g.2.2.length ∧ ClI (impsB g g.2.2) univP S0 i.2.1 i.2.2 (impsB g (g.2.2.take i.1))) (fun i => g.2.2.length - i.1) (0, S0, false) ⟨Nat.zero_le _, ClI.start _ hlow0⟩ ?_ ?_
    · exact Cov.ofn (id) rfl (by simp [go_sem, List.take_of_length_le, ren, ren1, ren2, okr, okr1, okr2, ChkT, ChkN, BlkN, nf, grammarC]) (by simp [go_sem, List.take_of_length_le, ren, ren1, ren2, okr, okr1, okr2, ChkT, ChkN, BlkN, nf, grammarC])
    rintro ⟨k, S, more⟩ ⟨hk, hC⟩
    dsimp only at hk hC ⊢
    have stepk : wr64 ((k : Int) + 1) = ((k + 1 : Nat) : Int) := wr64_id (by omega) (by omega)
    refine wkdc0 _ ?_
    refine Holds.cond rfl (fun h => ?_) (fun h => ?_)
    · have hlt : k < g.2.2.length := by simp at h; omega
      have hrk : g.2.2[k]? = some g.2.2[k] := List.getElem?_eq_getElem hlt
      have hmem := List.getElem_mem hlt
      generalize g.2.2[k] = r at hrk hmem
      have hr0 := hG.l0 r hmem
      have hr1 := hG.l1 r hmem
      have hr4 := hG.r4 r hmem
      have hs0 := hG.s0 r hmem
      have hs1 := hG.s1 r hmem
      have ht1 := hG.t1
      obtain ⟨m, hm⟩ : ∃ m : Nat, r.1 = (m : Int) := ⟨r.1.toNat, by omega⟩
      have hmn : m < n := by omega
      refine wkdc (And.intro (@get_E _ _ _ _ hrk) (And.intro @hrk (And.intro @hlt (@ruleC.eq_1)))) _ ?_
      refine Holds.loop (ι := Nat) (fun a => ⟨[(1, .pb 0 3 0 0), (3, .im 1 (ints (lstN (madeS g true)))), (4, .own 1 1 0 n), (5, .v (.bool more)), (7, .pb 2 2 0 0), (8, .v (.bool (okM true (madeS g true) (r.2.take a)))), (20, .im 2 (rules g.2.2)), (21, .v (.int .i64 g.2.2.length)), (22, .v (.int .i64 k)), (27, .im 1 (ints r.2)), (28, .v (.int .i64 r.2.length)), (29, .v (.int .i64 a))], [(2, ⟨87, 2, [ruleC r]⟩), (1, ⟨25, 1, intss (rowsT n S)⟩), (0, ⟨31, 3, [grammarC g]⟩)], 3⟩)
        (fun a => a ≤ r.2.length) (fun a => r.2.length - a) 0 (Nat.zero_le _) ?_ ?_
      · exact Cov.ofn (id) rfl (by simp [go_sem, List.take_of_length_le, ren, ren1, ren2, okr, okr1, okr2, ChkT, ChkN, BlkN, nf, grammarC, ruleC, okM]) (by simp [go_sem, List.take_of_length_le, ren, ren1, ren2, okr, okr1, okr2, ChkT, ChkN, BlkN, nf, grammarC, ruleC, okM])
      intro a ha
      have stepa : wr64 ((a : Int) + 1) = ((a + 1 : Nat) : Int) := wr64_id (by omega) (by omega)
      refine wkdc0 _ ?_
      refine Holds.cond rfl (fun h => ?_) (fun h => ?_)
      · have hla : a < r.2.length := by simp at h; omega
        have hxa : r.2[a]? = some r.2[a] := List.getElem?_eq_getElem hla
        have hxm := List.getElem_mem hla
        generalize r.2[a] = x at hxa hxm
        have hx5 := hs1 x hxm
        have hsn := okM_snoc true (madeS g true) hxa
        cases hb : okM true (madeS g true) (r.2.take a) with
        | false =>
          rw [hb, Bool.false_and] at hsn
          refine wkdc (And.intro (@get_E _ _ _ _ hxa) (And.intro @hxa (@hla))) _ ?_
          refine ⟨a + 1, by omega, by omega, ?_⟩
          dsimp only
          rw [stepa, hsn]
          exact Cov.ofn (id) rfl (by simp [go_sem, List.take_of_length_le, ren, ren1, ren2, okr, okr1, okr2, ChkT, ChkN, BlkN, nf, grammarC, ruleC]) (by simp [go_sem, List.take_of_length_le, ren, ren1, ren2, okr, okr1, okr2, ChkT, ChkN, BlkN, nf, grammarC, ruleC])
        | true =>
          rw [hb, Bool.true_and] at hsn
          by_cases hx0 : x < 0
          · have hsn' : okM true (madeS g true) (r.2.take (a + 1)) = true := by rw [hsn]; simp [hx0]
            refine wkdc (And.intro (@get_E _ _ _ _ hxa) (And.intro @hxa (And.intro @hla (@hx0)))) _ ?_
            refine ⟨a + 1, by omega, by omega, ?_⟩
            dsimp only
            rw [stepa, hsn']
            exact Cov.ofn (id) rfl (by simp [go_sem, List.take_of_length_le, ren, ren1, ren2, okr, okr1, okr2, ChkT, ChkN, BlkN, nf, grammarC, ruleC]) (by simp [go_sem, List.take_of_length_le, ren, ren1, ren2, okr, okr1, okr2, ChkT, ChkN, BlkN, nf, grammarC, ruleC])
          · have hx1 : 0 ≤ x := by omega
            have ch := l1Has (lstN (madeS g true)) x (by omega)
            rw [hasN_lstA _ (by omega) (by omega)] at ch
            have hsn' : okM true (madeS g true) (r.2.take (a + 1)) = madeS g true x := by rw [hsn]; simp [hx0, hx1]
            refine wkdc (And.intro (@get_E _ _ _ _ hxa) (And.intro @hxa (And.intro @hla (@hx0)))) _ ?_
            first | refine GS.cc (ch) rfl rfl rfl rfl (by simp [go_sem, List.take_of_length_le] <;> with_reducible rfl) rfl (by simp [go_sem, List.take_of_length_le]) ?_ | refine Gd.cc (ch) rfl rfl rfl rfl (by simp [go_sem, List.take_of_length_le] <;> with_reducible rfl) rfl (by simp [go_sem, List.take_of_length_le]) ?_
            refine wkdc0 _ ?_
            refine ⟨a + 1, by omega, by omega, ?_⟩
            dsimp only
            rw [stepa, hsn']
            exact Cov.ofn (id) rfl (by simp [go_sem, List.take_of_length_le, ren, ren1, ren2, okr, okr1, okr2, ChkT, ChkN, BlkN, nf, grammarC, ruleC]) (by simp [go_sem, List.take_of_length_le, ren, ren1, ren2, okr, okr1, okr2, ChkT, ChkN, BlkN, nf, grammarC, ruleC])
      · have hae : a = r.2.length := by simp at h; omega
        subst hae
        rw [List.take_length]
        obtain ⟨ok, hok⟩ : ∃ ok, ok = okM true (madeS g true) r.2 := ⟨_, rfl⟩
        rw [← hok]
        have cf := l14First g hG S n hn r.2 hr4 hs1 (fun x hx => by have := hs0 x hx; omega)
        have hLl := lstT_len fun t => begT (madeS g false) S r.2 t
        have hLm := lstT_mem fun t => begT (madeS g false) S r.2 t
        generalize (lstT fun t => begT (madeS g false) S r.2 t) = L at cf hLl hLm
        refine wkdc (And.intro @ruleC.eq_1 (@grammarC.eq_1)) _ ?_
        refine GS.fnn [1] (cf) rfl rfl rfl rfl (by simp [go_sem, List.take_of_length_le, ren, ren1, ren2, okr, okr1, okr2, ChkN, BlkN, List.range_succ, nf, grammarC] <;> with_reducible rfl) (by simp [go_sem, List.take_of_length_le, ren, ren1, ren2, okr, okr1, okr2, ChkN, BlkN, List.range_succ, nf, grammarC]) (by simp [go_sem, List.take_of_length_le, ren, ren1, ren2, okr, okr1, okr2, ChkN, BlkN, List.range_succ, nf, grammarC]) (by simp [List.range_succ, lb]) (ChkN.toB (by simp [go_sem, List.take_of_length_le, ren, ren1, ren2, okr, okr1, okr2, ChkN, BlkN, List.range_succ, nf, grammarC])) (by decide) (by simp) rfl (.nfr (by simp) .nil) (by simp [go_sem, List.take_of_length_le, ren, ren1, ren2, okr, okr1, okr2, ChkN, BlkN, List.range_succ, nf, grammarC] <;> with_reducible rfl) ?_
        refine wkdc0 _ ?_
        refine Holds.loop (ι := Nat × (Int × Int → Bool) × Bool) (fun i => ⟨[(1, .pb 0 3 0 0), (3, .im 1 (ints (lstN (madeS g true)))), (4, .own 1 1 0 n), (5, .v (.bool i.2.2)), (7, .pb 2 2 0 0), (8, .v (.bool ok)), (20, .im 2 (rules g.2.2)), (21, .v (.int .i64 g.2.2.length)), (22, .v (.int .i64 k)), (48, .im 1 (ints L)), (49, .v (.int .i64 L.length)), (50, .v (.int .i64 i.1))], [(1, ⟨25, 1, intss (rowsT n i.2.1)⟩), (2, ⟨87, 2, [ruleC r]⟩), (0, ⟨31, 3, [grammarC g]⟩)], 3⟩)
          (fun i => i.1 ≤ L.length ∧ ClI (impsB g g.2.2) univP S0 i.2.1 i.2.2 (impsB g (g.2.2.take k)) ∧ (∀ p, S p = true → i.2.1 p = true) ∧ ∀ t ∈ L.take i.1, ok = true → i.2.1 (r.1, t) = true) (fun i => L.length - i.1) (0, S, more) ⟨Nat.zero_le _, hC, fun _ h => h, fun t ht => by simp at ht⟩ ?_ ?_
        · exact Cov.ofn (id) rfl (by simp [go_sem, List.take_of_length_le, ren, ren1, ren2, okr, okr1, okr2, ChkT, ChkN, BlkN, nf, grammarC, ruleC]) (by simp [go_sem, List.take_of_length_le, ren, ren1, ren2, okr, okr1, okr2, ChkT, ChkN, BlkN, nf, grammarC, ruleC])
        have hle0 := hC.le
        clear hC
        rintro ⟨j, S2, more⟩ ⟨hj, hC, hle, hset⟩
        dsimp only at hj hC hle hset ⊢
        have stepj : wr64 ((j : Int) + 1) = ((j + 1 : Nat) : Int) := wr64_id (by omega) (by omega)
        refine wkdc0 _ ?_
        refine Holds.cond rfl (fun h => ?_) (fun h => ?_)
        · have hlj : j < L.length := by simp at h; omega
          have htj : L[j]? = some L[j] := List.getElem?_eq_getElem hlj
          have htm := (hLm _).1 (List.getElem_mem hlj)
          generalize L[j] = t at htj htm
          have hsnt : ∀ S3 : Int × Int → Bool, (∀ p, S2 p = true → S3 p = true) → (ok = true → S3 (r.1, t) = true) → ∀ u ∈ L.take (j + 1), ok = true → S3 (r.1, u) = true := fun S3 h2 h3 u hu ho => by
            rw [List.take_add_one, htj] at hu
            rcases List.mem_append.1 hu with hu | hu
            · exact h2 _ (hset u hu ho)
            · rw [Option.toList_some, List.mem_singleton] at hu
              subst hu; exact h3 ho
          have hrow := rowsT_at S2 hmn
          have hput := rowsT_put S2 hmn htm.1
          have hrl := lstT_len fun u => S2 ((m : Int), u)
          have ch := l1Has (lstT fun u => S2 ((m : Int), u)) t (by omega)
          rw [lstT_has _ htm.1] at ch
          have cpu := l1Put (lstT fun u => S2 ((m : Int), u)) t (by omega)
          have hput' : (intss (rowsT n S2)).set m [.im 1 (ints (putL (lstT fun u => S2 ((m : Int), u)) t))] = intss (rowsT n (insI S2 ((m : Int), t))) := by rw [intss_set, hput]
          have hadd := fun (h1 : ok = true) (h2 : S2 ((m : Int), t) = false) => hC.add (impB_mem (g := g) hmem htm.1) (impB_mono g r t) (by
              refine impB_mono g r t S S2 hle ?_
              show (okM true (madeS g true) r.2 && begT (madeS g false) S r.2 t) = true
              rw [← hok, h1, htm.2]; rfl) (by rw [← hm] at h2; exact h2) (mem_univP.2 ⟨⟨hr0, by show r.1 ≤ 5; omega⟩, htm.1⟩) (impsB g (g.2.2.take k))
          have hc2 : (impB g r t).2 = ((m : Int), t) := by rw [← hm]; rfl
          rw [hc2] at hadd
          generalize (lstT fun u => S2 ((m : Int), u)) = R at hrow ch cpu hput'
          cases ok with
          | false =>
            refine wkdc (And.intro (@get_E _ _ _ _ htj) (And.intro @htj (@hlj))) _ ?_
            refine ⟨(j + 1, S2, more), ⟨by dsimp only; omega, hC, hle, hsnt S2 (fun _ h => h) fun e => by cases e⟩, by dsimp only; omega, ?_⟩
            rw [stepj]
            exact Cov.ofn (id) rfl (by simp [go_sem, List.take_of_length_le, ren, ren1, ren2, okr, okr1, okr2, ChkT, ChkN, BlkN, nf, grammarC, ruleC]) (by simp [go_sem, List.take_of_length_le, ren, ren1, ren2, okr, okr1, okr2, ChkT, ChkN, BlkN, nf, grammarC, ruleC])
          | true =>
            cases hS2 : S2 ((m : Int), t) with
            | true =>
              rw [hS2] at ch
              refine wkdc (And.intro (@get_E _ _ _ _ htj) (And.intro @htj (And.intro @hlj (And.intro @ruleC.eq_1 (And.intro @hm (And.intro @hmn (And.intro @hrow (And.intro (@get_E _ _ _ _ hrow) (@intsC.eq_1))))))))) _ ?_
              first | refine GS.cc (ch) rfl rfl rfl rfl (by simp [go_sem, List.take_of_length_le] <;> with_reducible rfl) rfl (by simp [go_sem, List.take_of_length_le]) ?_ | refine Gd.cc (ch) rfl rfl rfl rfl (by simp [go_sem, List.take_of_length_le] <;> with_reducible rfl) rfl (by simp [go_sem, List.take_of_length_le]) ?_
              refine wkdc0 _ ?_
              refine ⟨(j + 1, S2, more), ⟨by dsimp only; omega, hC, hle, hsnt S2 (fun _ h => h) fun _ => by rw [hm]; exact hS2⟩, by dsimp only; omega, ?_⟩
              rw [stepj]
              exact Cov.ofn (id) rfl (by simp [go_sem, List.take_of_length_le, ren, ren1, ren2, okr, okr1, okr2, ChkT, ChkN, BlkN, nf, grammarC, ruleC, hm]) (by simp [go_sem, List.take_of_length_le, ren, ren1, ren2, okr, okr1, okr2, ChkT, ChkN, BlkN, nf, grammarC, ruleC, hm])
            | false =>
              rw [hS2] at ch
              refine wkdc (And.intro (@get_E _ _ _ _ htj) (And.intro @htj (And.intro @hlj (And.intro @ruleC.eq_1 (And.intro @hm (And.intro @hmn (And.intro @hrow (And.intro (@get_E _ _ _ _ hrow) (@intsC.eq_1))))))))) _ ?_
              first | refine GS.cc (ch) rfl rfl rfl rfl (by simp [go_sem, List.take_of_length_le] <;> with_reducible rfl) rfl (by simp [go_sem, List.take_of_length_le]) ?_ | refine Gd.cc (ch) rfl rfl rfl rfl (by simp [go_sem, List.take_of_length_le] <;> with_reducible rfl) rfl (by simp [go_sem, List.take_of_length_le]) ?_
              refine wkdsc (@ruleC.eq_1) _ ?_
              refine Holds.anx [1011] [] (fun n => decide (n = 1)) mixed ?_ ?_ ?_; (· kernel_rfl); (· kernel_rfl)
              refine wkdac (And.intro @hm (And.intro @hmn (And.intro @hrow (And.intro (@get_E _ _ _ _ hrow) (@intsC.eq_1))))) _ ?_
              first | refine GS.cc (cpu) rfl rfl rfl rfl (by simp [go_sem, List.take_of_length_le] <;> with_reducible rfl) rfl (by simp [go_sem, List.take_of_length_le]) ?_ | refine Gd.cc (cpu) rfl rfl rfl rfl (by simp [go_sem, List.take_of_length_le] <;> with_reducible rfl) rfl (by simp [go_sem, List.take_of_length_le]) ?_ | refine Gx.cc (cpu) rfl rfl rfl rfl rfl (by simp [go_sem, List.take_of_length_le] <;> with_reducible rfl) rfl (by simp [go_sem, List.take_of_length_le]) ?_ | refine Gx.cch (cpu) rfl rfl rfl rfl rfl (by simp [go_sem, List.take_of_length_le] <;> with_reducible rfl) rfl (by simp [go_sem, List.take_of_length_le]) ?_
              refine wkdac (And.intro @hmn (And.intro @hrow (And.intro (@get_E _ _ _ _ hrow) (And.intro @intsC.eq_1 (@hput'))))) _ ?_
              refine ⟨(j + 1, insI S2 ((m : Int), t), true), ⟨by dsimp only; omega, hadd rfl hS2, fun p hp => insI_le _ _ _ (hle p hp), hsnt _ (fun p hp => insI_le _ _ _ hp) fun _ => by rw [hm]; exact insI_self _ _⟩, by dsimp only; omega, ?_⟩
              rw [stepj]
              exact Cov.ofn (id) rfl (by simp [go_sem, List.take_of_length_le, ren, ren1, ren2, okr, okr1, okr2, ChkT, ChkN, BlkN, nf, grammarC, ruleC, hm]) (by simp [go_sem, List.take_of_length_le, ren, ren1, ren2, okr, okr1, okr2, ChkT, ChkN, BlkN, nf, grammarC, ruleC, hm])
        · have hje : j = L.length := by simp at h; omega
          subst hje
          rw [List.take_length] at hset
          refine wkdac0 _ ?_
          refine ⟨(k + 1, S2, more), ⟨by dsimp only; omega, ?_⟩, by dsimp only; omega, ?_⟩
          · dsimp only
            rw [impsB_snoc g hrk]
            refine hC.ext _ fun e1 e2 p hp h1 => ?_
            obtain ⟨t, ht, rfl⟩ := List.mem_map.1 hp
            have ht := mem_univT.1 ht
            have hFF : S2 = S := by
              funext q
              rw [Bool.eq_iff_iff]
              exact ⟨fun h => hle0 q (by rw [← e2]; exact h), hle q⟩
            have h1 : (okM true (madeS g true) r.2 && begT (madeS g false) S2 r.2 t) = true := h1
            rw [hFF, Bool.and_eq_true] at h1
            exact hset t ((hLm t).2 ⟨ht, h1.2⟩) (by rw [hok]; exact h1.1)
          rw [stepk]
          exact Cov.ofn (id) rfl (by simp [go_sem, List.take_of_length_le, ren, ren1, ren2, okr, okr1, okr2, ChkT, ChkN, BlkN, nf, grammarC]) (by simp [go_sem, List.take_of_length_le, ren, ren1, ren2, okr, okr1, okr2, ChkT, ChkN, BlkN, nf, grammarC])
    · have hke : k = g.2.2.length := by simp at h; omega
      subst hke
      rw [List.take_length] at hC
      refine wkdac0 _ ?_
      refine ⟨(S, more), ⟨hC.low, fun e => ?_⟩, ?_, ?_⟩
      · dsimp only at e ⊢
        subst e
        exact hC.done
      · dsimp only
        have hc := card_leP S
        cases more with
        | true => have := hC.yes rfl; simp only [if_true]; omega
        | false => rw [(hC.no rfl).1]; simp
      exact Cov.ofn (id) rfl (by simp [go_sem, List.take_of_length_le, ren, ren1, ren2, okr, okr1, okr2, ChkT, ChkN, BlkN, nf, grammarC]) (by simp [go_sem, List.take_of_length_le, ren, ren1, ren2, okr, okr1, okr2, ChkT, ChkN, BlkN, nf, grammarC])
  · have h : more0 = false := by simpa using h
    have := hfin h
    subst this
    refine wkdac0 _ ?_
    refine OutF.mkn (xs := ?_) (nm [1]) ?_ ?_ ?_ ?_ ?_ (by first | exact .inr rfl | exact .inl rfl)
    rotate_left
    · simp [go_sem, List.take_of_length_le] <;> with_reducible rfl
    · simp [go_sem, List.take_of_length_le, ren, ren1, ren2, okr, okr1, okr2, ChkN, BlkN, List.range_succ, nf]
    · simp [go_sem, List.take_of_length_le, ren, ren1, ren2, okr, okr1, okr2, ChkN, BlkN, List.range_succ, nf]
    · simp [go_sem, List.take_of_length_le, ren, ren1, ren2, okr, okr1, okr2, ChkN, BlkN, List.range_succ, nf]
    · rfl
theorem l14Begins (g : GrammarT) (hG : OkG g) (right : List Int) (hl : right.length ≤ 4) (h1 : ∀ x ∈ right, x < g.1) (h0 : ∀ x ∈ right, -4 ≤ x) : Pure Try.prog 38 [.ag (grammarC g), .im 1 (ints right)] (.im 1 (ints (lstT (begS g right)))) := by
  have cm := l3Close g hG true
  have hn1 := hG.n1
  have hn0 := hG.n0
  obtain ⟨n, hn⟩ : ∃ n : Nat, (n : Int) = g.1 := ⟨g.1.toNat, by omega⟩
  have c1 := l14Firsts g hG n hn
  have c2 := l14First g hG (firstS g) n hn right hl h1 h0
  refine Pure.mk (rs := [.tmp 4]) (nt := 30) Try.func38 (by kernel_rfl) rfl rfl rfl (by simp) ?_
  simp only [sl, grammarC]
  refine wkdc (@grammarC.eq_1) _ ?_
  first | refine GS.cc (cm) rfl rfl rfl rfl (by simp [go_sem, List.take_of_length_le, grammarC] <;> with_reducible rfl) rfl (by simp [go_sem, List.take_of_length_le, grammarC]) ?_ | refine Gd.cc (cm) rfl rfl rfl rfl (by simp [go_sem, List.take_of_length_le, grammarC] <;> with_reducible rfl) rfl (by simp [go_sem, List.take_of_length_le, grammarC]) ?_
  have hml := lstN_len (madeS g true)
  obtain ⟨M, hM⟩ : ∃ M, M = madeS g true := ⟨_, rfl⟩
  rw [← hM] at hml ⊢
  refine wkdsc0 _ ?_
  refine Holds.loop (ι := Nat) (fun a => ⟨[(1, .im 1 (ints right)), (2, .pb 0 3 0 0), (5, .im 1 (ints (lstN M))), (10, .im 1 (ints right)), (11, .v (.int .i64 right.length)), (12, .v (.int .i64 a))], [(0, ⟨31, 3, [grammarC g]⟩)], 1⟩)
    (fun a => a ≤ right.length ∧ okM true M (right.take a) = true) (fun a => right.length - a) 0 ⟨Nat.zero_le _, rfl⟩ ?_ ?_
  · exact Cov.ofn (id) rfl (by simp [go_sem, List.take_of_length_le, ren, ren1, ren2, okr, okr1, okr2, ChkT, ChkN, BlkN, nf, grammarC]) (by simp [go_sem, List.take_of_length_le, ren, ren1, ren2, okr, okr1, okr2, ChkT, ChkN, BlkN, nf, grammarC])
  rintro a ⟨ha, hok⟩
  have stepa : wr64 ((a : Int) + 1) = ((a + 1 : Nat) : Int) := wr64_id (by omega) (by omega)
  refine wkdc0 _ ?_
  refine Holds.cond rfl (fun h => ?_) (fun h => ?_)
  · have hla : a < right.length := by simp at h; omega
    have hxa : right[a]? = some right[a] := List.getElem?_eq_getElem hla
    have hxm := List.getElem_mem hla
    generalize right[a] = x at hxa hxm
    have hx5 := h1 x hxm
    have hsn := okM_snoc true M hxa
    rw [hok, Bool.true_and] at hsn
    by_cases hx0 : 0 ≤ x
    · have ch := l1Has (lstN M) x (by omega)
      rw [hasN_lstA _ (by omega) (by omega)] at ch
      have hx1 : ¬ x < 0 := by omega
      refine wkdc (And.intro (@get_E _ _ _ _ hxa) (And.intro @hxa (And.intro @hla (@hx0)))) _ ?_
      first | refine GS.cc (ch) rfl rfl rfl rfl (by simp [go_sem, List.take_of_length_le] <;> with_reducible rfl) rfl (by simp [go_sem, List.take_of_length_le]) ?_ | refine Gd.cc (ch) rfl rfl rfl rfl (by simp [go_sem, List.take_of_length_le] <;> with_reducible rfl) rfl (by simp [go_sem, List.take_of_length_le]) ?_
      refine wkdc0 _ ?_
      refine Holds.cond rfl (fun h => ?_) (fun h => ?_)
      · have hMx : M x = false := by simpa using h
        have hn : okM true (madeS g true) right = false := by
          rw [← hM]
          cases e : okM true M right with
          | false => rfl
          | true =>
            simp only [okM, List.all_eq_true] at e
            have := e x hxm
            simp [hMx, hx1] at this
        have e0 : lstT (begS g right) = [] := by
          rw [← lstT_none]
          refine lstT_ext fun t _ _ => ?_
          rw [begS, hn, Bool.false_and]
        rw [e0]
        refine wkdc0 _ ?_
        refine Out.mk (xs := ?_) ?_ ?_ (by first | exact .inr rfl | exact .inl rfl)
        rotate_left
        · simp [go_sem, List.take_of_length_le] <;> with_reducible rfl
        exact Fz.nl _
      · have hMx : M x = true := by simpa using h
        have hsn' : okM true M (right.take (a + 1)) = true := by rw [hsn]; simp [hMx, hx0]
        refine wkdc0 _ ?_
        refine ⟨a + 1, ⟨by omega, hsn'⟩, by omega, ?_⟩
        rw [stepa]
        exact Cov.ofn (id) rfl (by simp [go_sem, List.take_of_length_le, ren, ren1, ren2, okr, okr1, okr2, ChkT, ChkN, BlkN, nf, grammarC]) (by simp [go_sem, List.take_of_length_le, ren, ren1, ren2, okr, okr1, okr2, ChkT, ChkN, BlkN, nf, grammarC])
    · have hx1 : x < 0 := by omega
      have hsn' : okM true M (right.take (a + 1)) = true := by rw [hsn]; simp [hx1]
      refine wkdc (And.intro (@get_E _ _ _ _ hxa) (And.intro @hxa (And.intro @hla (@hx0)))) _ ?_
      refine ⟨a + 1, ⟨by omega, hsn'⟩, by omega, ?_⟩
      rw [stepa]
      exact Cov.ofn (id) rfl (by simp [go_sem, List.take_of_length_le, ren, ren1, ren2, okr, okr1, okr2, ChkT, ChkN, BlkN, nf, grammarC]) (by simp [go_sem, List.take_of_length_le, ren, ren1, ren2, okr, okr1, okr2, ChkT, ChkN, BlkN, nf, grammarC])
  · have hae : a = right.length := by simp at h; omega
    subst hae
    rw [List.take_length, hM] at hok
    have e0 : lstT (begS g right) = lstT fun t => begT (madeS g false) (firstS g) right t := lstT_ext fun t _ _ => by rw [begS, hok, Bool.true_and]
    rw [e0]
    refine wkdsc0 _ ?_
    refine Holds.anx [2, 4] [0, 1, 3] (fun n => decide (1 ≤ n)) mixed ?_ ?_ ?_; (· kernel_rfl); (· kernel_rfl)
    refine wkdac (@grammarC.eq_1) _ ?_
    first | refine GS.fnn [] (c1) rfl rfl rfl rfl (by simp [go_sem, List.take_of_length_le, ren, ren1, ren2, okr, okr1, okr2, ChkN, BlkN, List.range_succ, nf, grammarC] <;> with_reducible rfl) (by simp [go_sem, List.take_of_length_le, ren, ren1, ren2, okr, okr1, okr2, ChkN, BlkN, List.range_succ, nf, grammarC]) (by simp [go_sem, List.take_of_length_le, ren, ren1, ren2, okr, okr1, okr2, ChkN, BlkN, List.range_succ, nf, grammarC]) (by simp [List.range_succ, lb]) (ChkN.toB (by simp [go_sem, List.take_of_length_le, ren, ren1, ren2, okr, okr1, okr2, ChkN, BlkN, List.range_succ, nf, grammarC])) (by decide) (by simp) rfl (.nfr (by simp) .nil) (by simp [go_sem, List.take_of_length_le, ren, ren1, ren2, okr, okr1, okr2, ChkN, BlkN, List.range_succ, nf, grammarC] <;> with_reducible rfl) ?_ | refine Gx.fnn [] (c1) rfl rfl rfl rfl rfl (by simp [go_sem, List.take_of_length_le, ren, ren1, ren2, okr, okr1, okr2, ChkN, BlkN, List.range_succ, nf, grammarC] <;> with_reducible rfl) (by simp [go_sem, List.take_of_length_le, ren, ren1, ren2, okr, okr1, okr2, ChkN, BlkN, List.range_succ, nf, grammarC]) (by simp [go_sem, List.take_of_length_le, ren, ren1, ren2, okr, okr1, okr2, ChkN, BlkN, List.range_succ, nf, grammarC]) (by simp [List.range_succ, lb]) (ChkN.toB (by simp [go_sem, List.take_of_length_le, ren, ren1, ren2, okr, okr1, okr2, ChkN, BlkN, List.range_succ, nf, grammarC])) (by decide) (by simp) rfl (.nfr (by simp) .nil) (by simp [go_sem, List.take_of_length_le, ren, ren1, ren2, okr, okr1, okr2, ChkN, BlkN, List.range_succ, nf, grammarC]) (by simp [go_sem, List.take_of_length_le, ren, ren1, ren2, okr, okr1, okr2, ChkN, BlkN, List.range_succ, nf, grammarC] <;> with_reducible rfl) ?_ | refine Gx.fnno [] (c1) rfl rfl rfl rfl rfl (by simp [go_sem, List.take_of_length_le, ren, ren1, ren2, okr, okr1, okr2, ChkN, BlkN, List.range_succ, nf, grammarC] <;> with_reducible rfl) (by simp [go_sem, List.take_of_length_le, ren, ren1, ren2, okr, okr1, okr2, ChkN, BlkN, List.range_succ, nf, grammarC]) (by simp [go_sem, List.take_of_length_le, ren, ren1, ren2, okr, okr1, okr2, ChkN, BlkN, List.range_succ, nf, grammarC]) (by simp [List.range_succ, lb]) (ChkN.toB (by simp [go_sem, List.take_of_length_le, ren, ren1, ren2, okr, okr1, okr2, ChkN, BlkN, List.range_succ, nf, grammarC])) (by decide) (by simp) rfl (.nfr (by simp) .nil) (by simp [go_sem, List.take_of_length_le, ren, ren1, ren2, okr, okr1, okr2, ChkN, BlkN, List.range_succ, nf, grammarC] <;> with_reducible rfl) ?_
    refine wkdac (@grammarC.eq_1) _ ?_
    first | refine GS.fnn [1] (c2) rfl rfl rfl rfl (by simp [go_sem, List.take_of_length_le, ren, ren1, ren2, okr, okr1, okr2, ChkN, BlkN, List.range_succ, nf, grammarC] <;> with_reducible rfl) (by simp [go_sem, List.take_of_length_le, ren, ren1, ren2, okr, okr1, okr2, ChkN, BlkN, List.range_succ, nf, grammarC]) (by simp [go_sem, List.take_of_length_le, ren, ren1, ren2, okr, okr1, okr2, ChkN, BlkN, List.range_succ, nf, grammarC]) (by simp [List.range_succ, lb]) (ChkN.toB (by simp [go_sem, List.take_of_length_le, ren, ren1, ren2, okr, okr1, okr2, ChkN, BlkN, List.range_succ, nf, grammarC])) (by decide) (by simp) rfl (.nfr (by simp) .nil) (by simp [go_sem, List.take_of_length_le, ren, ren1, ren2, okr, okr1, okr2, ChkN, BlkN, List.range_succ, nf, grammarC] <;> with_reducible rfl) ?_ | refine Gx.fnn [1] (c2) rfl rfl rfl rfl rfl (by simp [go_sem, List.take_of_length_le, ren, ren1, ren2, okr, okr1, okr2, ChkN, BlkN, List.range_succ, nf, grammarC] <;> with_reducible rfl) (by simp [go_sem, List.take_of_length_le, ren, ren1, ren2, okr, okr1, okr2, ChkN, BlkN, List.range_succ, nf, grammarC]) (by simp [go_sem, List.take_of_length_le, ren, ren1, ren2, okr, okr1, okr2, ChkN, BlkN, List.range_succ, nf, grammarC]) (by simp [List.range_succ, lb]) (ChkN.toB (by simp [go_sem, List.take_of_length_le, ren, ren1, ren2, okr, okr1, okr2, ChkN, BlkN, List.range_succ, nf, grammarC])) (by decide) (by simp) rfl (.nfr (by simp) .nil) (by simp [go_sem, List.take_of_length_le, ren, ren1, ren2, okr, okr1, okr2, ChkN, BlkN, List.range_succ, nf, grammarC]) (by simp [go_sem, List.take_of_length_le, ren, ren1, ren2, okr, okr1, okr2, ChkN, BlkN, List.range_succ, nf, grammarC] <;> with_reducible rfl) ?_ | refine Gx.fnno [1] (c2) rfl rfl rfl rfl rfl (by simp [go_sem, List.take_of_length_le, ren, ren1, ren2, okr, okr1, okr2, ChkN, BlkN, List.range_succ, nf, grammarC] <;> with_reducible rfl) (by simp [go_sem, List.take_of_length_le, ren, ren1, ren2, okr, okr1, okr2, ChkN, BlkN, List.range_succ, nf, grammarC]) (by simp [go_sem, List.take_of_length_le, ren, ren1, ren2, okr, okr1, okr2, ChkN, BlkN, List.range_succ, nf, grammarC]) (by simp [List.range_succ, lb]) (ChkN.toB (by simp [go_sem, List.take_of_length_le, ren, ren1, ren2, okr, okr1, okr2, ChkN, BlkN, List.range_succ, nf, grammarC])) (by decide) (by simp) rfl (.nfr (by simp) .nil) (by simp [go_sem, List.take_of_length_le, ren, ren1, ren2, okr, okr1, okr2, ChkN, BlkN, List.range_succ, nf, grammarC] <;> with_reducible rfl) ?_
    refine wkdac (@grammarC.eq_1) _ ?_

    refine Out.mk (xs := ?_) ?_ ?_ (by first | exact .inr rfl | exact .inl rfl)
    rotate_left
    · simp [go_sem, List.take_of_length_le] <;> with_reducible rfl
    exact .im _ _
end Go.Proofs.Ytenienncgjanpaa.En
end
section
namespace Go.Proofs.Ytenienncgjanpaa.En
open Go.RowKit
set_option linter.unusedSimpArgs false
set_option linter.unusedVariables false
set_option maxHeartbeats 4000000
def compF (O : List (List Int)) (p : List Int) : List (List Int) := if O.getLast? = some p then O else O ++ [p]
def compL (xs : List (List Int)) : List (List Int) := xs.foldl compF []
theorem compF_last (O : List (List Int)) (p : List Int) : (compF O p).getLast? = some p := by
  unfold compF
  split
  · assumption
  · simp
theorem compL_snoc (xs : List (List Int)) (p : List Int) : compL (xs ++ [p]) = compF (compL xs) p := by simp [compL, List.foldl_append]
theorem compL_step {xs : List (List Int)} {j : Nat} {x y : List Int} (hx : xs[j]? = some x) (hy : xs[j + 1]? = some y) : compL (xs.take (j + 2)) = if x = y then compL (xs.take (j + 1)) else compL (xs.take (j + 1)) ++ [y] := by
  have e1 : xs.take (j + 2) = xs.take (j + 1) ++ [y] := by rw [List.take_add_one, hy]; rfl
  have e2 : xs.take (j + 1) = xs.take j ++ [x] := by rw [List.take_add_one, hx]; rfl
  have e3 : (compL (xs.take (j + 1))).getLast? = some x := by rw [e2, compL_snoc, compF_last]
  rw [e1, compL_snoc, compF, e3]
  simp only [Option.some.injEq]
theorem compF_len (O : List (List Int)) (p : List Int) : (compF O p).length ≤ O.length + 1 := by
  unfold compF
  split
  · omega
  · simp
theorem compF_pos (O : List (List Int)) (p : List Int) : 1 ≤ (compF O p).length := by
  unfold compF
  split
  · rename_i h
    cases O with
    | nil => cases h
    | cons a O => simp
  · simp
theorem foldl_comp_len : ∀ (xs O : List (List Int)), (xs.foldl compF O).length ≤ O.length + xs.length
  | [], O => by simp
  | x :: xs, O => by
    have := foldl_comp_len xs (compF O x)
    have := compF_len O x
    simp only [List.foldl_cons, List.length_cons]; omega
theorem compL_len (xs : List (List Int)) : (compL xs).length ≤ xs.length := by
  have := foldl_comp_len xs []
  simpa [compL] using this
theorem compL_nil (xs : List (List Int)) : compL xs = [] ↔ xs = [] := by
  constructor
  · intro h
    rcases List.eq_nil_or_concat xs with e | ⟨ys, y, e⟩
    · exact e
    · rw [e, List.concat_eq_append, compL_snoc] at h
      have := compF_pos (compL ys) y
      rw [h] at this
      simp at this
  · rintro rfl; rfl
theorem foldl_comp_mem : ∀ (xs O : List (List Int)) (z : List Int), z ∈ xs.foldl compF O → z ∈ O ∨ z ∈ xs
  | [], O, z, h => .inl h
  | x :: xs, O, z, h => by
    rcases foldl_comp_mem xs (compF O x) z h with h | h
    · unfold compF at h
      split at h
      · exact .inl h
      · rcases List.mem_append.1 h with h | h
        · exact .inl h
        · rw [List.mem_singleton] at h; subst h; exact .inr (.head _)
    · exact .inr (.tail _ h)
theorem compL_mem {xs : List (List Int)} {z : List Int} (h : z ∈ compL xs) : z ∈ xs := by
  rcases foldl_comp_mem xs [] z h with h | h
  · cases h
  · exact h
structure CmpI (xs L : List (List Int)) (i j : Nat) : Prop where
  ln : L.length = xs.length
  ij : i < j
  jl : j ≤ xs.length
  tk : L.take i = compL (xs.take j)
  dr : L.drop (j - 1) = xs.drop (j - 1)
theorem CmpI.at_ {xs L : List (List Int)} {i j k : Nat} (h : CmpI xs L i j) (hk : j - 1 ≤ k) : L[k]? = xs[k]? := by
  have := congrArg (fun l => l[k - (j - 1)]?) h.dr
  simp only [List.getElem?_drop] at this
  rwa [show j - 1 + (k - (j - 1)) = k by omega] at this
theorem CmpI.skip {xs L : List (List Int)} {i j : Nat} (h : CmpI xs L i (j + 1)) {x : List Int} (hx : xs[j]? = some x) (hy : xs[j + 1]? = some x) : CmpI xs L i (j + 2) := by
  refine ⟨h.ln, by have := h.ij; omega, (List.getElem?_eq_some_iff.1 hy).1, by rw [compL_step hx hy, if_pos rfl, h.tk], ?_⟩
  have := congrArg (List.drop 1) h.dr
  rwa [List.drop_drop, List.drop_drop] at this
theorem CmpI.keep {xs L : List (List Int)} {i j : Nat} (h : CmpI xs L i (j + 1)) {x y : List Int} (hx : xs[j]? = some x) (hy : xs[j + 1]? = some y) (hne : ¬ x = y) : CmpI xs (L.set i y) (i + 1) (j + 2) := by
  have hj := (List.getElem?_eq_some_iff.1 hy).1
  have hi : i < L.length := by have := h.ij; have := h.ln; omega
  refine ⟨by rw [List.length_set]; exact h.ln, by have := h.ij; omega, hj, ?_, ?_⟩
  · rw [List.take_add_one, List.getElem?_set_self hi, List.take_set_of_le (Nat.le_refl i), h.tk, compL_step hx hy, if_neg hne]; rfl
  · rw [List.drop_set_of_lt (by have := h.ij; omega)]
    have := congrArg (List.drop 1) h.dr
    rwa [List.drop_drop, List.drop_drop] at this
theorem CmpI.fin {xs L : List (List Int)} {i : Nat} (h : CmpI xs L i xs.length) : L.take i = compL xs := by rw [h.tk, List.take_length]
theorem intss_takeA (l : List (List Int)) (n : Nat) : (intss l).take n = intss (l.take n) := by simp [intss, List.map_take]
theorem compactFuncII (xs : List (List Int)) (hx : xs.length < 1000000) (hs : ∀ e ∈ xs, e.length < 4611686018427387904) : Fn Try.prog 84 1 [.own 0 1 0 xs.length, .fn 85 []] [(0, ⟨25, 1, intss xs⟩)] (.own 0 1 0 (compL xs).length) 1 [(0, ⟨25, 1, intss (compL xs)⟩)] := by
  refine Fn.mk (rs := [.tmp 4]) (nt := 66) Try.func84 (by kernel_rfl) rfl rfl rfl (by simp) ?_
  simp only [sl]
  by_cases h2 : xs.length < 2
  · have hc : compL xs = xs := by
      match xs, h2 with
      | [], _ => rfl
      | [x], _ => rfl
    rw [hc]
    have h2i : (xs.length : Int) < 2 := by omega
    refine wkdc (And.intro @h2i (@h2)) _ ?_
    refine OutF.mkn (xs := ?_) (nm [0]) ?_ ?_ ?_ ?_ ?_ (by first | exact .inr rfl | exact .inl rfl)
    rotate_left
    · simp [go_sem, List.take_of_length_le] <;> with_reducible rfl
    · simp [go_sem, List.take_of_length_le, ren, ren1, ren2, okr, okr1, okr2, ChkN, BlkN, List.range_succ, nf]
    · simp [go_sem, List.take_of_length_le, ren, ren1, ren2, okr, okr1, okr2, ChkN, BlkN, List.range_succ, nf]
    · simp [go_sem, List.take_of_length_le, ren, ren1, ren2, okr, okr1, okr2, ChkN, BlkN, List.range_succ, nf]
    · rfl
  · have h2i : ¬ (xs.length : Int) < 2 := by omega
    refine wkdc (And.intro @h2i (@h2)) _ ?_
    refine Holds.loop (ι := Nat) (fun k => ⟨[(0, .own 0 1 0 xs.length), (1, .fn 85 []), (5, .v (.int .i64 ((k : Int) + 1)))], [(0, ⟨25, 1, intss xs⟩)], 1⟩)
      (fun k => k + 1 ≤ xs.length ∧ compL (xs.take (k + 1)) = xs.take (k + 1)) (fun k => xs.length - k) 0 ⟨by omega, ?_⟩ ?_ ?_
    · cases xs with
      | nil => rfl
      | cons x xs => rfl
    · exact Cov.ofn (id) rfl (by simp [go_sem, List.take_of_length_le, ren, ren1, ren2, okr, okr1, okr2, ChkT, ChkN, BlkN, nf]) (by simp [go_sem, List.take_of_length_le, ren, ren1, ren2, okr, okr1, okr2, ChkT, ChkN, BlkN, nf])
    rintro k ⟨hk, hck⟩
    have stepk : wr64 ((k : Int) + 1 + 1) = ((k + 1 : Nat) : Int) + 1 := by rw [wr64_id (by omega) (by omega)]; omega
    have stepm : wr64 ((k : Int) + 1 - 1) = (k : Int) := by rw [wr64_id (by omega) (by omega)]; omega
    by_cases hlt : k + 1 < xs.length
    · have hlti : (k : Int) + 1 < (xs.length : Int) := by omega
      have hxj : xs[k]? = some xs[k] := List.getElem?_eq_getElem (by omega)
      have hyj : xs[k + 1]? = some xs[k + 1] := List.getElem?_eq_getElem hlt
      have hsy := hs _ (List.getElem_mem hlt)
      have hstep := compL_step hxj hyj
      generalize xs[k] = x at hxj hstep
      generalize xs[k + 1] = y at hyj hstep hsy
      have ce := equalInts y x hsy
      have stepm' : wr64 (k : Int) = (k : Int) := wr64_id (by omega) (by omega)
      refine wkdc (And.intro @hlti (And.intro @hlt (And.intro @stepm (And.intro @stepm' (And.intro ((show (0:Int) ≤ (k : Int) + 1 by omega)) (And.intro @hxj (And.intro (@get_E _ _ _ _ hxj) (And.intro @hyj (And.intro (@get_E _ _ _ _ hyj) (And.intro @intsC.eq_1 ((show k < xs.length by omega)))))))))))) _ ?_
      first | refine GS.cc (ce) rfl rfl rfl rfl (by simp [go_sem, List.take_of_length_le] <;> with_reducible rfl) rfl (by simp [go_sem, List.take_of_length_le]) ?_ | refine Gd.cc (ce) rfl rfl rfl rfl (by simp [go_sem, List.take_of_length_le] <;> with_reducible rfl) rfl (by simp [go_sem, List.take_of_length_le]) ?_
      by_cases hxy : y = x
      · rw [if_pos hxy.symm] at hstep
        rw [decide_eq_true hxy]
        obtain ⟨c, hc⟩ : ∃ c, c = k + 1 := ⟨_, rfl⟩
        have hci : ((k : Int) + 1) = (c : Int) := by omega
        have hcn : c ≤ xs.length := by omega
        have hD0 : CmpI xs xs c (c + 1) := ⟨rfl, by omega, by omega, by rw [hc, hstep, hck], rfl⟩
        rw [hci]
        refine wkdc (And.intro @hcn ((show (0:Int) ≤ (c : Int) by omega))) _ ?_
        refine Holds.loop (ι := Nat × Nat × List (List Int)) (fun i => ⟨[(0, .own 0 1 0 xs.length), (1, .fn 85 []), (5, .v (.int .i64 i.2.1)), (6, .own 0 1 c (xs.length - c)), (7, .v (.int .i64 ((i.1 : Int) + 1)))], [(0, ⟨25, 1, intss i.2.2⟩)], 1⟩)
          (fun i => CmpI xs i.2.2 i.2.1 (c + i.1 + 1)) (fun i => xs.length - i.1) (0, c, xs) hD0 ?_ ?_
        · exact Cov.ofn (id) rfl (by simp [go_sem, List.take_of_length_le, ren, ren1, ren2, okr, okr1, okr2, ChkT, ChkN, BlkN, nf]) (by simp [go_sem, List.take_of_length_le, ren, ren1, ren2, okr, okr1, okr2, ChkT, ChkN, BlkN, nf])
        clear hD0 hstep ce hyj hsy hxj stepk stepm stepm' hlti
        rintro ⟨q, i, L⟩ hD
        dsimp only at hD ⊢
        have hij := hD.ij
        have hjl := hD.jl
        have hln := hD.ln
        have stepq : wr64 ((q : Int) + 1 + 1) = ((q + 1 : Nat) : Int) + 1 := by rw [wr64_id (by omega) (by omega)]; omega
        have stepq' : wr64 (q : Int) = (q : Int) := wr64_id (by omega) (by omega)
        have stepi : wr64 ((i : Int) + 1) = ((i + 1 : Nat) : Int) := wr64_id (by omega) (by omega)
        by_cases hqt : c + q + 1 < xs.length
        · have hqi : (q : Int) + 1 < ((xs.length - c : Nat) : Int) := by omega
          have hqn : q + 1 < xs.length - c := by omega
          have hqn' : q < xs.length - c := by omega
          have hxq : xs[c + q]? = some xs[c + q] := List.getElem?_eq_getElem (by omega)
          have hyq : xs[c + q + 1]? = some xs[c + q + 1] := List.getElem?_eq_getElem hqt
          have hsq := hs _ (List.getElem_mem hqt)
          generalize xs[c + q] = x at hxq
          generalize xs[c + q + 1] = y at hyq hsq
          have hLx : L[c + q]? = some x := (hD.at_ (by omega)).trans hxq
          have hLy : L[c + q + 1]? = some y := (hD.at_ (by omega)).trans hyq
          have hLy' : L[c + (q + 1)]? = some y := hLy
          have hlx : c + q < L.length := by omega
          have hly : c + (q + 1) < L.length := by omega
          have ce := equalInts y x hsq
          have hix : i < xs.length := by omega
          have hiL : i < L.length := by omega
          have hset : (intss L).set i [.im 1 (ints y)] = intss (L.set i y) := intss_set L i y
          refine wkdc (And.intro @hqi (And.intro @hqn (And.intro @hqn' (And.intro @stepq' (And.intro ((show (0:Int) ≤ (q : Int) + 1 by omega)) (And.intro @hLx (And.intro (@get_E _ _ _ _ hLx) (And.intro @hLy' (And.intro (@get_E _ _ _ _ hLy') (And.intro @hlx (And.intro @hly (@intsC.eq_1)))))))))))) _ ?_
          first | refine GS.cc (ce) rfl rfl rfl rfl (by simp [go_sem, List.take_of_length_le] <;> with_reducible rfl) rfl (by simp [go_sem, List.take_of_length_le]) ?_ | refine Gd.cc (ce) rfl rfl rfl rfl (by simp [go_sem, List.take_of_length_le] <;> with_reducible rfl) rfl (by simp [go_sem, List.take_of_length_le]) ?_
          by_cases hyx : y = x
          · subst hyx
            rw [decide_eq_true rfl]
            refine wkdc0 _ ?_
            refine ⟨(q + 1, i, L), hD.skip hxq hyq, by dsimp only; omega, ?_⟩
            dsimp only
            rw [stepq]
            exact Cov.ofn (id) rfl (by simp [go_sem, List.take_of_length_le, ren, ren1, ren2, okr, okr1, okr2, ChkT, ChkN, BlkN, nf]) (by simp [go_sem, List.take_of_length_le, ren, ren1, ren2, okr, okr1, okr2, ChkT, ChkN, BlkN, nf])
          · rw [decide_eq_false hyx]
            refine wkdc (And.intro @hqi (And.intro @hqn (And.intro ((show (0:Int) ≤ (q : Int) + 1 by omega)) (And.intro @hLy' (And.intro (@get_E _ _ _ _ hLy') (And.intro @hly (And.intro @intsC.eq_1 (And.intro @hix (And.intro @hiL (And.intro @hset (@stepi))))))))))) _ ?_
            refine ⟨(q + 1, i + 1, L.set i y), hD.keep hxq hyq (fun e => hyx e.symm), by dsimp only; omega, ?_⟩
            dsimp only
            rw [stepq]
            exact Cov.ofn (id) rfl (by simp [go_sem, List.take_of_length_le, ren, ren1, ren2, okr, okr1, okr2, ChkT, ChkN, BlkN, nf]) (by simp [go_sem, List.take_of_length_le, ren, ren1, ren2, okr, okr1, okr2, ChkT, ChkN, BlkN, nf])
        · have hqi : ¬ (q : Int) + 1 < ((xs.length - c : Nat) : Int) := by omega
          have hje : c + q + 1 = xs.length := by omega
          rw [hje] at hD
          have hfin := hD.fin
          have hi2 : i ≤ xs.length := by omega
          have hiL : i ≤ L.length := by omega
          have hfl : (compL xs).length = i := by rw [← hfin, List.length_take]; omega
          rw [hfl, ← hfin]
          refine wkdc (And.intro @hqi (And.intro @hi2 (@hiL))) _ ?_
          refine GS.clr (e := 25) (s1 := ?_) rfl rfl rfl rfl (by simp [go_sem]) zc25 ti25 rfl rfl rfl (by simp; omega) ?_ ?_
          rotate_left
          · simp [go_sem, intss_takeA] <;> with_reducible rfl
          refine wkdc (@hi2) _ ?_
          refine OutF.mkn (xs := ?_) (nm [0]) ?_ ?_ ?_ ?_ ?_ (by first | exact .inr rfl | exact .inl rfl)
          rotate_left
          · simp [go_sem, List.take_of_length_le] <;> with_reducible rfl
          · simp [go_sem, List.take_of_length_le, ren, ren1, ren2, okr, okr1, okr2, ChkN, BlkN, List.range_succ, nf]
          · simp [go_sem, List.take_of_length_le, ren, ren1, ren2, okr, okr1, okr2, ChkN, BlkN, List.range_succ, nf]
          · simp [go_sem, List.take_of_length_le, ren, ren1, ren2, okr, okr1, okr2, ChkN, BlkN, List.range_succ, nf]
          · rfl
      · rw [if_neg (fun e => hxy e.symm)] at hstep
        have hck2 : compL (xs.take (k + 1 + 1)) = xs.take (k + 1 + 1) := by
          have e2 : xs.take (k + 1 + 1) = xs.take (k + 1) ++ [y] := by rw [List.take_add_one (i := k + 1), hyj]; rfl
          have h4 : compL (xs.take (k + 1 + 1)) = compL (xs.take (k + 1)) ++ [y] := hstep
          rw [h4, hck, e2]
        rw [decide_eq_false hxy]
        refine wkdc0 _ ?_
        refine ⟨k + 1, ⟨by omega, hck2⟩, by omega, ?_⟩
        rw [stepk]
        exact Cov.ofn (id) rfl (by simp [go_sem, List.take_of_length_le, ren, ren1, ren2, okr, okr1, okr2, ChkT, ChkN, BlkN, nf]) (by simp [go_sem, List.take_of_length_le, ren, ren1, ren2, okr, okr1, okr2, ChkT, ChkN, BlkN, nf])
    · have hke : k + 1 = xs.length := by omega
      have hlti : ¬ (k : Int) + 1 < (xs.length : Int) := by omega
      rw [hke, List.take_length] at hck
      rw [hck]
      refine wkdc (@hlti) _ ?_
      refine OutF.mkn (xs := ?_) (nm [0]) ?_ ?_ ?_ ?_ ?_ (by first | exact .inr rfl | exact .inl rfl)
      rotate_left
      · simp [go_sem, List.take_of_length_le] <;> with_reducible rfl
      · simp [go_sem, List.take_of_length_le, ren, ren1, ren2, okr, okr1, okr2, ChkN, BlkN, List.range_succ, nf]
      · simp [go_sem, List.take_of_length_le, ren, ren1, ren2, okr, okr1, okr2, ChkN, BlkN, List.range_succ, nf]
      · simp [go_sem, List.take_of_length_le, ren, ren1, ren2, okr, okr1, okr2, ChkN, BlkN, List.range_succ, nf]
      · rfl
end Go.Proofs.Ytenienncgjanpaa.En
end
section
namespace Go.Proofs.Ytenienncgjanpaa.En
open Go.RowKit Go.Shelf
set_option linter.unusedVariables false
def sortFC_ren : Go.Shelf.Ren := ⟨fun | 6 => 86 | 15 => 100 | 14 => 99 | 28 => 110 | 29 => 111 | 20 => 102 | 21 => 103 | 22 => 104 | 23 => 105 | 24 => 106 | 25 => 107 | 26 => 108 | 27 => 109 | 46 => 112 | 47 => 113 | 48 => 114 | 49 => 115 | 50 => 116 | 57 => 117 | n => n, fun | 22 => 44 | 24 => 85 | 25 => 112 | 3 => 3 | 39 => 119 | 0 => 0 | 53 => 129 | 55 => 131 | 4 => 4 | 46 => 122 | 45 => 121 | 50 => 126 | 5 => 5 | 9 => 9 | 66 => 132 | 70 => 136 | 76 => 138 | 77 => 139 | n => n, fun n => n⟩
theorem sortFC : Go.Proofs.SlLaysF0.n6 Try.prog sortFC_ren where
  mixed := by kernel_rfl
  f6 := ⟨Try.f86.name, by kernel_rfl, Try.func86.trans (congrArg some (by kernel_rfl))⟩
  f14 := ⟨Try.f99.name, by kernel_rfl, Try.func99.trans (congrArg some (by kernel_rfl))⟩
  f15 := Try.func100.trans (congrArg some (by kernel_rfl))
  f20 := ⟨Try.f102.name, by kernel_rfl, Try.func102.trans (congrArg some (by kernel_rfl))⟩
  f21 := ⟨Try.f103.name, by kernel_rfl, Try.func103.trans (congrArg some (by kernel_rfl))⟩
  f22 := ⟨Try.f104.name, by kernel_rfl, Try.func104.trans (congrArg some (by kernel_rfl))⟩
  f23 := ⟨Try.f105.name, by kernel_rfl, Try.func105.trans (congrArg some (by kernel_rfl))⟩
  f24 := ⟨Try.f106.name, by kernel_rfl, Try.func106.trans (congrArg some (by kernel_rfl))⟩
  f25 := ⟨Try.f107.name, by kernel_rfl, Try.func107.trans (congrArg some (by kernel_rfl))⟩
  f26 := ⟨Try.f108.name, by kernel_rfl, Try.func108.trans (congrArg some (by kernel_rfl))⟩
  f27 := ⟨Try.f109.name, by kernel_rfl, Try.func109.trans (congrArg some (by kernel_rfl))⟩
  f28 := Try.func110.trans (congrArg some (by kernel_rfl))
  f29 := Try.func111.trans (congrArg some (by kernel_rfl))
  f46 := ⟨Try.f112.name, by kernel_rfl, Try.func112.trans (congrArg some (by kernel_rfl))⟩
  f47 := Try.func113.trans (congrArg some (by kernel_rfl))
  f48 := Try.func114.trans (congrArg some (by kernel_rfl))
  f49 := ⟨Try.f115.name, by kernel_rfl, Try.func115.trans (congrArg some (by kernel_rfl))⟩
  f50 := ⟨Try.f116.name, by kernel_rfl, Try.func116.trans (congrArg some (by kernel_rfl))⟩
  f57 := ⟨Try.f117.name, by kernel_rfl, Try.func117.trans (congrArg some (by kernel_rfl))⟩
  t0 := Try.underlying0
  a0 := Try.isAgg0
  z0 := Try.sizeOf0
  v0 := Try.zeroValue0
  t3 := Try.underlying3
  a3 := Try.isAgg3
  z3 := Try.sizeOf3
  v3 := Try.zeroValue3
  t4 := Try.underlying4
  a4 := Try.isAgg4
  z4 := Try.sizeOf4
  v4 := Try.zeroValue4
  t5 := Try.underlying5
  a5 := Try.isAgg5
  z5 := Try.sizeOf5
  v5 := Try.zeroValue5
  t9 := Try.underlying9
  a9 := Try.isAgg9
  z9 := Try.sizeOf9
  v9 := Try.zeroValue9
  t22 := Try.underlying44
  a22 := Try.isAgg44
  z22 := Try.sizeOf44
  v22 := Try.zeroValue44
  t25 := Try.underlying112
  a25 := Try.isAgg112
  z25 := Try.sizeOf112
  v25 := Try.zeroValue112
  t39 := Try.underlying119
  a39 := Try.isAgg119
  z39 := Try.sizeOf119
  v39 := Try.zeroValue119
  t45 := Try.underlying121
  a45 := Try.isAgg121
  z45 := Try.sizeOf121
  v45 := Try.zeroValue121
  t46 := Try.underlying122
  a46 := Try.isAgg122
  z46 := Try.sizeOf122
  v46 := Try.zeroValue122
  t50 := Try.underlying126
  a50 := Try.isAgg126
  z50 := Try.sizeOf126
  v50 := Try.zeroValue126
  t53 := Try.underlying129
  a53 := Try.isAgg129
  z53 := Try.sizeOf129
  v53 := Try.zeroValue129
  t55 := Try.underlying131
  a55 := Try.isAgg131
  z55 := Try.sizeOf131
  v55 := Try.zeroValue131
  t66 := Try.underlying132
  a66 := Try.isAgg132
  z66 := Try.sizeOf132
  v66 := Try.zeroValue132
  t70 := Try.underlying136
  a70 := Try.isAgg136
  z70 := Try.sizeOf136
  v70 := Try.zeroValue136
  t76 := Try.underlying138
  a76 := Try.isAgg138
  z76 := Try.sizeOf138
  v76 := Try.zeroValue138
  t77 := Try.underlying139
  a77 := Try.isAgg139
  z77 := Try.sizeOf139
  v77 := Try.zeroValue139
end Go.Proofs.Ytenienncgjanpaa.En
end
section
namespace Go.Proofs.Ytenienncgjanpaa.En
open Go.RowKit Go.Shelf Go.Sort
set_option linter.unusedSimpArgs false
set_option linter.unusedVariables false
set_option linter.unusedSectionVars false
theorem belowD_grow {w w' : World} (h : BelowD w.heap.size w w') : ∃ q os', w' = Go.Sort.grow (w.drewN q) os' := by
  refine ⟨w'.drawn - w.drawn, w'.heap.extract w.heap.size w'.heap.size, ?_⟩
  have h1 := h.os
  have h2 := h.tape
  have h3 := h.output
  have h4 := h.drawn
  have h5 := h.size
  have h6 := h.block
  obtain ⟨heap, tape, drawn, os, output⟩ := w
  obtain ⟨heap', tape', drawn', os', output'⟩ := w'
  dsimp only at h1 h2 h3 h4 h5 h6
  subst h1 h2 h3
  have e1 : drawn + (drawn' - drawn) = drawn' := by omega
  have e2 : heap' = heap ++ heap'.extract heap.size heap'.size := by
    refine Array.ext_getElem? fun k => ?_
    by_cases hk : k < heap.size
    · rw [Array.getElem?_append_left hk]; exact h6 k hk
    · rw [Array.getElem?_append_right (by omega), Array.getElem?_extract]
      by_cases hk2 : k < heap'.size
      · rw [if_pos (by omega), show heap.size + (k - heap.size) = k by omega]
      · rw [if_neg (by omega), Array.getElem?_eq_none (by omega)]
  unfold Go.Sort.grow World.drewN
  dsimp only
  rw [e1, ← e2]
section
variable {α : Type} [Inhabited α]
def rowsK (enc : α → List Value) (xs : List α) : List (List AV) := xs.map fun x => (enc x).map AV.v
@[simp] theorem rowsK_len (enc : α → List Value) (xs : List α) : (rowsK enc xs).length = xs.length := by simp [rowsK]
theorem rowsK_row {enc : α → List Value} {xs : List α} {j : Nat} {row : List AV} (h : (rowsK enc xs)[j]? = some row) : ∃ x, xs[j]? = some x ∧ row = (enc x).map AV.v := by
  simp only [rowsK, List.getElem?_map, Option.map_eq_some_iff] at h
  obtain ⟨x, h1, h2⟩ := h
  exact ⟨x, h1, h2.symm⟩
theorem flat_get {enc : α → List Value} {k : Nat} (hk : ∀ x, (enc x).length = k) {ys : List α} {j i : Nat} {y : α} (hj : ys[j]? = some y) (hi : i < k) : (flatK enc k ys.toArray)[j * k + i]! = (enc y)[i]! ∧ j * k + i < ys.length * k := by
  have hlt := (List.getElem?_eq_some_iff.1 hj).1
  have hb : j * k + i < ys.length * k := by
    have := Nat.mul_le_mul_right k (show j + 1 ≤ ys.length from hlt)
    rw [Nat.add_mul, Nat.one_mul] at this; omega
  refine ⟨?_, hb⟩
  rw [get_flatK _ _ _ _ (by simpa using hb)]
  have h1 : (j * k + i) / k = j := by
    rw [Nat.mul_comm, Nat.mul_add_div (by omega), Nat.div_eq_of_lt hi, Nat.add_zero]
  have h2 : (j * k + i) % k = i := by rw [Nat.mul_comm, Nat.mul_add_mod, Nat.mod_eq_of_lt hi]
  rw [h1, h2]
  have : ys.toArray[j]! = y := by
    rw [getElem!_pos _ j (by simpa using hlt)]
    simpa using (List.getElem?_eq_some_iff.1 hj).2
  rw [this]
theorem cell_val {w : World} {S : Nat → Prop} {Ow : Owners} {L : Names} {p : Path} {x u : Value} (h : Rep w S Ow L p (.v x) u) : u = x := by cases h; rfl
theorem blk_rowsK {w w' : World} {S : Nat → Prop} {Ow : Owners} {L : Names} {n : Nat} {t : TypeId} {enc : α → List Value} {k : Nat} (hk : ∀ x, (enc x).length = k) (h1 : ∀ x, ∀ v ∈ enc x, v.oneCell' = true) {xs ys : List α} {b o cap : Nat} (hl : ys.length = xs.length)
    (hB : BlkRep w S Ow L n ⟨t, k, rowsK enc xs⟩ (some (b, o, cap)))
    (hh : ∀ cs fr, w.heap[b]? = some (.cells cs t fr) → w'.heap[b]? = some (.cells (putCells id (o * k) (flatK enc k ys.toArray) cs) t fr)) : BlkRep w' S Ow L n ⟨t, k, rowsK enc ys⟩ (some (b, o, cap)) := by
  obtain ⟨hO, cs, us, hc, hs, hle, hrow, hcell, hrep⟩ := hB
  simp only [rowsK_len] at hs hle
  refine ⟨hO, putCells id (o * k) (flatK enc k ys.toArray) cs, fun j i => ((ys[j]?).map fun y => (enc y)[i]!).getD undef, hh _ _ hc, by simp [putCells, hs], by simp only [rowsK_len]; omega, ?_, ?_, ?_⟩
  · intro j row hj
    obtain ⟨x, _, rfl⟩ := rowsK_row hj
    simp [hk]
  · intro j row i x hj hi
    obtain ⟨y, hy, rfl⟩ := rowsK_row hj
    have hi0 : i < k := by
      have := (List.getElem?_eq_some_iff.1 hi).1
      simpa [hk] using this
    obtain ⟨e1, e2⟩ := flat_get hk hy hi0
    have e3 : (o + j) * k + i = o * k + (j * k + i) := by rw [Nat.add_mul, Nat.add_assoc]
    have hcap : ys.length * k ≤ cap * k := Nat.mul_le_mul_right k (by omega)
    have hlt2 : o * k + (j * k + i) < cs.size := by rw [hs, Nat.add_mul]; omega
    simp only [e3, putCells, Array.getElem?_mapIdx, Array.getElem?_eq_getElem hlt2, Option.map_some, Option.some.injEq, size_flatK, List.size_toArray]
    rw [if_pos ⟨by omega, by omega⟩, show o * k + (j * k + i) - o * k = j * k + i by omega, e1, hy]
    rfl
  · intro j row i x hj hi
    obtain ⟨y, hy, rfl⟩ := rowsK_row hj
    simp only [List.getElem?_map, Option.map_eq_some_iff] at hi
    obtain ⟨v, hv, rfl⟩ := hi
    have hlt := (List.getElem?_eq_some_iff.1 hv)
    have : ((ys[j]?).map fun y => (enc y)[i]!).getD undef = v := by
      rw [hy]
      simp only [Option.map_some, Option.getD_some]
      rw [getElem!_pos _ i hlt.1, hlt.2]
    dsimp only
    rw [this]
    exact .v _ (h1 y v (List.mem_of_getElem? hv))
def sortedBy (cf : α → α → Int) (xs : List α) : List α := xs.mergeSort fun x y => !(ltOf cf) y x
omit [Inhabited α] in
@[simp] theorem sortedBy_len (cf : α → α → Int) (xs : List α) : (sortedBy cf xs).length = xs.length := by simp [sortedBy]
theorem sortFuncK {P : Program} {ρ : Go.Shelf.Ren} (L0 : SlLaysF0.n6 P ρ) (hE : Ent P (ρ.f 6)) (k : Nat) (aE : ∀ w, (isAgg (ρ.t 24)).run P w = .ok true w) (zE : ∀ w, (Go.sizeOf (ρ.t 24)).run P w = .ok k w) (enc : α → List Value) (hk : ∀ x, (enc x).length = k) (h1 : ∀ x, ∀ v ∈ enc x, v.oneCell' = true)
    (cf : α → α → Int) (hO : SWO (ltOf cf)) (hT : ∀ x y, (ltOf cf) x y = false → (ltOf cf) y x = false → x = y) (g : FuncId) (hg : ∀ x y, Pure P g [.ag ((enc x).map AV.v), .ag ((enc y).map AV.v)] (.v (.int .i64 (cf x y)))) (te : TypeId) (xs : List α) (hx : xs.length < 4611686018427387904) :
    Fn P (ρ.f 6) 1 [.own 0 k 0 xs.length, .fn g []] [(0, ⟨te, k, rowsK enc xs⟩)] (.tu []) 1 [(0, ⟨te, k, rowsK enc (sortedBy cf xs)⟩)] := by
  unfold Fn
  refine ⟨hE, fun W X S Ow L us hR hl hrep => ?_⟩
  obtain ⟨u, uf, rfl⟩ : ∃ u uf, us = [u, uf] := by
    match us, hl with
    | [u, uf], _ => exact ⟨u, uf, rfl⟩
  have hu := hrep 0 _ u rfl rfl
  obtain ⟨fs, rfl, hfl, _⟩ := (hrep 1 _ uf rfl rfl).fn_inv
  have hfs : fs = [] := List.length_eq_zero_iff.1 hfl
  subst hfs
  have same : xs.length = 0 → (Calls P (ρ.f 6) [u, .func (.func g) #[] #[]].toArray W fun e w' => e = Ending.returned (Value.tuple #[]) ∧ w' = W) → Calls P (ρ.f 6) [u, .func (.func g) #[] #[]].toArray W fun e w' => ∃ v, e = .returned v ∧ ∃ S' Ow' L', RelX ⟨W, X, S, ⟨0, 1⟩, fixOf 1 L⟩ ⟨[], [(0, ⟨te, k, rowsK enc (sortedBy cf xs)⟩)], 1⟩ a0 w' S' Ow' L' ∧ Rep w' S' Ow' L' [0] (.tu []) v := by
    intro h0 hc cs
    obtain ⟨e, w', fr, ⟨rfl, rfl⟩, rest⟩ := hc cs
    have hx0 : xs = [] := List.length_eq_zero_iff.1 h0
    subst hx0
    rw [show sortedBy cf [] = [] by simp [sortedBy]]
    exact ⟨_, _, fr, ⟨_, rfl, S, Ow, L, hR, .tu [] [] rfl (fun i x u hx hu => by simp at hx)⟩, rest⟩
  have hn : ∀ (p : Option Addr) (cap : Nat), Calls P (ρ.f 6) #[.slice p 0 cap, .func (.func g) #[] #[]] W fun e w' => e = Ending.returned (Value.tuple #[]) ∧ w' = W := fun p cap => AnyF.slices_SortFunc_none L0 p cap _ W
  rcases own_inv hu with ⟨b, o, cap, hL, hle, rfl⟩ | ⟨b, o, cap, ad, hL, hoff, hlen, rfl⟩ | ⟨hL, _, hlen, A, rfl⟩ | hL
  · obtain ⟨loc, hl0, hB⟩ := hR.blk 0 _ rfl
    rw [hL] at hl0
    cases hl0
    have hB' := hB
    obtain ⟨hO', cs, us, hc, hs, hle', hrow, hcell, hrep'⟩ := hB'
    simp only [rowsK_len] at hs hle'
    have hblk : b < W.heap.size := (Array.getElem?_eq_some_iff.1 hc).1
    have hH : HoldsK enc k W b (o * k) xs.toArray := by
      intro t ht
      have ht' : t < xs.length * k := by simpa using ht
      have k0 : 0 < k := by rcases Nat.eq_zero_or_pos k with h | h
                            · subst h; simp at ht'
                            · exact h
      have hj : t / k < xs.length := Nat.div_lt_of_lt_mul (by rw [Nat.mul_comm]; exact ht')
      have hi : t % k < k := Nat.mod_lt _ k0
      have hxj : xs[t / k]? = some xs[t / k] := List.getElem?_eq_getElem hj
      have hrow2 : (rowsK enc xs)[t / k]? = some ((enc xs[t / k]).map AV.v) := by simp [rowsK, hj]
      have hil : t % k < (enc xs[t / k]).length := by rw [hk]; exact hi
      have hi2 : ((enc xs[t / k]).map AV.v)[t % k]? = some (.v (enc xs[t / k])[t % k]) := by simp [hil]
      have e1 := hcell _ _ _ _ hrow2 hi2
      have e2 := cell_val (hrep' _ _ _ _ hrow2 hi2)
      have e3 : (o + t / k) * k + t % k = o * k + t := by
        rw [Nat.add_mul, Nat.add_assoc, Nat.mul_comm (t / k) k, Nat.div_add_mod]
      dsimp only at e1
      rw [e3, e2] at e1
      have e4 : (flatK enc k xs.toArray)[t]! = (enc xs[t / k])[t % k] := by
        have := (flat_get hk hxj hi).1
        rw [Nat.mul_comm (t / k) k, Nat.div_add_mod] at this
        rw [this, getElem!_pos (enc xs[t / k]) (t % k) hil]
      refine ⟨?_, ?_⟩
      · simp only [World.cell?, hc, Option.isSome_none, Bool.false_eq_true, if_false, e1, id, e4]
      · simp [World.frozen?, hc]
    have hC : CmpLays P g #[] enc k cf b (o * k) xs.toArray.size W := by
      intro m os dk _ x y
      have hP := hg x y
      unfold Pure at hP
      have repv : ∀ (W2 : World) (x : α), Rep W2 (fun _ => False) noOwner noName [] (.ag ((enc x).map AV.v)) (.agg (enc x).toArray) := fun W2 x =>
        .ag _ _ (by simp) fun i a u ha hu => by
          simp only [List.getElem?_map, Option.map_eq_some_iff] at ha
          obtain ⟨v, hv, rfl⟩ := ha
          rw [hv] at hu; cases hu
          exact .v _ (h1 x _ (List.mem_of_getElem? hv))
      refine Calls.mono (hP.2 (sortWorldK enc k W b (o * k) m dk os) (fun _ => False) [.agg (enc x).toArray, .agg (enc y).toArray] (fun k hk => hk.elim) rfl fun i a u ha hu => ?_) fun e w' => ?_
      · match i, ha, hu with
        | 0, ha, hu => cases ha; cases hu; exact repv _ x
        | 1, ha, hu => cases ha; cases hu; exact repv _ y
        | n + 2, ha, hu => simp at ha
      · rintro ⟨v, rfl, hb, S', _, _, hv⟩
        obtain ⟨rfl, _⟩ := hv.v_inv
        exact ⟨rfl, belowD_grow hb⟩
    have hge : Ent P g := by
      have := hg default default
      unfold Pure at this
      exact this.1
    have hcall := AnyQ.slices_SortFunc_total L0 k aE zE enc hk h1 cf hO g #[] b (o * k) cap xs.toArray W (fun args w => run_call hge) hC hH hblk (by simpa using hx) hT
    intro cs'
    obtain ⟨e, w', fr, ⟨rfl, n, os, rfl⟩, rest⟩ := hcall cs'
    refine ⟨_, sortWorldK enc k W b (o * k) n (sortedBy cf xs).toArray os, fr, ⟨_, rfl, S, Ow, L, ?_, .tu [] [] rfl (fun i x u hx hu => by simp at hx)⟩, ?_⟩
    · have h1' := hR.drawn (w' := Go.Sort.ahead W n) rfl rfl rfl rfl
      have h2 := h1'.write 0 _ ⟨te, k, rowsK enc (sortedBy cf xs)⟩ b o cap hL rfl (putRowK enc k (Go.Sort.ahead W n) b (o * k) (sortedBy cf xs).toArray) rfl rfl rfl (by simp [putRowK, putRow, mapBlock]) (fun c hcb => by simp [putRowK, putRow, mapBlock, Array.getElem?_modify, Ne.symm hcb])
        (fun hB1 _ => blk_rowsK hk h1 (by simp) hB1 (fun cs2 fr2 h2 => by have h3 : W.heap[b]? = _ := h2; simp [putRowK, putRow, mapBlock, Array.getElem?_modify, h3, onCells]))
      refine h2.grown ⟨⟨rfl, rfl, rfl, by simp [sortWorldK, Go.Sort.grow, sortedBy], fun k hk => ?_⟩, Nat.le_refl _⟩
      exact Array.getElem?_append_left hk
    · simp only [Nat.add_zero, Nat.sub_zero]
      have e := rest
      simp only [List.size_toArray] at e
      exact e
  · exact same (by omega) (by have := hn (some ad) 0; simpa [hlen] using this)
  · exact same (by omega) (by have := hn A 0; simpa [hlen] using this)
  · obtain ⟨loc, hl0, hB⟩ := hR.blk 0 _ rfl
    rw [hL] at hl0
    cases hl0
end
end Go.Proofs.Ytenienncgjanpaa.En
end
section
namespace Go.Proofs.Ytenienncgjanpaa.En
open Go.RowKit
set_option linter.unusedSimpArgs false
set_option linter.unusedVariables false
set_option maxHeartbeats 4000000
theorem l1OwnF (xs : List Int) (hx : xs.length ≤ 1000000) : Fn Try.prog 57 0 [.im 1 (ints xs)] [] (.own 0 1 0 xs.length) 1 [(0, ⟨3, 1, ints xs⟩)] := by
  have hb : xs.length * 8 ≤ 140737488355328 := by omega
  refine Fn.mk (rs := [.tmp 2]) (nt := 6) Try.func57 (by kernel_rfl) rfl rfl rfl (by simp) ?_
  simp only [sl]
  refine wkc (And.intro @hb (@ints_all)) _ ?_
  refine OutF.mkn (xs := ?_) (nm [2]) ?_ ?_ ?_ ?_ ?_ (by first | exact .inr rfl | exact .inl rfl)
  rotate_left
  · simp [go_sem, List.take_of_length_le] <;> with_reducible rfl
  · simp [go_sem, List.take_of_length_le, ren, ren1, ren2, okr, okr1, okr2, ChkN, BlkN, List.range_succ, nf]
  · simp [go_sem, List.take_of_length_le, ren, ren1, ren2, okr, okr1, okr2, ChkN, BlkN, List.range_succ, nf]
  · simp [go_sem, List.take_of_length_le, ren, ren1, ren2, okr, okr1, okr2, ChkN, BlkN, List.range_succ, nf]
  · rfl
def lastR (n : Nat) (W : Int × Int → Bool) : List (List AV) := (List.range n).map fun x : Nat => [.v (.bool (W (x, -1)))]
@[simp] theorem lastR_len (n : Nat) (W : Int × Int → Bool) : (lastR n W).length = n := by simp [lastR]
theorem lastR_at (W : Int × Int → Bool) {n x : Nat} (h : x < n) : (lastR n W)[x]? = some [.v (.bool (W (x, -1)))] := by
  simp [lastR, List.getElem?_range h]
theorem lastR_none (n : Nat) : lastR n (fun _ => false) = List.replicate n [.v (.bool false)] := by
  simp [lastR, List.map_const']
theorem lastR_put (W : Int × Int → Bool) {n x : Nat} (h : x < n) : (lastR n W).set x [.v (.bool true)] = lastR n (insI W (x, -1)) := by
  refine List.ext_getElem? fun i => ?_
  by_cases hi : i < n
  · rw [lastR_at _ hi, List.getElem?_set]
    by_cases e : x = i
    · subst e
      rw [if_pos rfl, if_pos (by simpa using h)]
      simp [insI]
    · rw [if_neg e, lastR_at _ hi]
      have : ¬ ((i : Int) = (x : Int)) := by omega
      simp [insI, this]
  · rw [List.getElem?_eq_none (by simp; omega), List.getElem?_eq_none (by simp; omega)]
theorem lastR_ins (W : Int × Int → Bool) (n : Nat) (x : Int) {t : Int} (ht : 0 ≤ t) : lastR n (insI W (x, t)) = lastR n W := by
  unfold lastR
  refine List.map_congr_left fun y _ => ?_
  have : ¬ ((-1 : Int) = t) := by omega
  simp [insI, this]
theorem rowsT_ins (W : Int × Int → Bool) (n : Nat) (x : Int) : rowsT n (insI W (x, -1)) = rowsT n W := by
  unfold rowsT
  refine List.map_congr_left fun y _ => lstT_ext fun t h0 _ => ?_
  have : ¬ (t = (-1 : Int)) := by omega
  simp [insI, this]
@[simp] theorem nfr_lastR (n : Nat) (W : Int × Int → Bool) : nfr (lastR n W) := fun row hr x hx => by
  simp only [lastR, List.mem_map] at hr
  obtain ⟨y, _, rfl⟩ := hr
  simp only [List.mem_singleton] at hx
  subst hx; rfl
theorem l14Follows (g : GrammarT) (hG : OkG g) (n : Nat) (hn : (n : Int) = g.1) : Fn Try.prog 49 0 [.ag (grammarC g)] [] (.tu [.own 0 1 0 n, .own 1 1 0 n]) 2 [(0, ⟨25, 1, intss (rowsT n (followS g))⟩), (1, ⟨4, 1, lastR n (followS g)⟩)] := by
  have hlen := hG.len
  have hn1 := hG.n1
  have hn0 := hG.n0
  have hgn : g.1 = (n : Int) := hn.symm
  have h0n : 0 < n := by omega
  refine Fn.mk (rs := [.tmp 2, .tmp 3]) (nt := 109) Try.func49 (by kernel_rfl) rfl rfl rfl (by simp) ?_
  simp only [sl, grammarC]
  have hset0 : bools ((List.replicate n false).set 0 true) = lastR n (fun p => decide (p = (0, -1))) := by
    have e1 : bools ((List.replicate n false).set 0 true) = (List.replicate n ([.v (.bool false)] : List AV)).set 0 [.v (.bool true)] := by rw [bools_rep, bools_set]
    rw [e1, ← lastR_none, lastR_put (fun _ => false) h0n]
    congr 1
  refine wkdc (And.intro @grammarC.eq_1 (And.intro @hgn (And.intro @h0n (And.intro ((show (0:Int) ≤ (n : Int) by omega)) (And.intro ((show (24:Int) * n ≤ 281474976710656 by omega)) (And.intro ((show (n : Int) ≤ 281474976710656 by omega)) (@hset0))))))) _ ?_
  refine Holds.nilI 1 n 1 rfl rfl ?_
  have hO0 : List.replicate n ([.im 1 []] : List AV) = intss (rowsT n (fun p => decide (p = (0, -1)))) := by
    have : rowsT n (fun p => decide (p = (0, -1))) = rowsT n (fun _ => false) := by
      unfold rowsT
      refine List.map_congr_left fun y _ => lstT_ext fun t h0 _ => ?_
      have : ¬ (t = (-1 : Int)) := by omega
      simp [this]
    rw [this, rowsT_none]; simp [intss, intsC, ints]
  have hz : LowI (impsW g) (fun p => decide (p = (0, -1))) := low_W g
  refine Holds.loop (ι := (Int × Int → Bool) × Bool) (fun i => ⟨[(1, .pb 0 3 0 0), (4, .own 1 1 0 n), (5, .own 2 1 0 n), (6, .v (.bool i.2))], [(2, ⟨4, 1, lastR n i.1⟩), (1, ⟨25, 1, intss (rowsT n i.1)⟩), (0, ⟨31, 3, [grammarC g]⟩)], 3⟩)
    (fun i => i.1 (0, -1) = true ∧ LowI (impsW g) i.1 ∧ (i.2 = false → i.1 = followS g)) (fun i => 2 * (30 - (univQ.filter i.1).length) + if i.2 then 1 else 0) (fun p => decide (p = (0, -1)), true) ⟨rfl, hz, fun e => (by cases e)⟩ ?_ ?_
  · rw [← hO0]
    have hnf0 : nfr (List.replicate n ([.im 1 []] : List AV)) := .rep (by simp [nf])
    exact Cov.ofn (id) rfl (by simp [go_sem, List.take_of_length_le, ren, ren1, ren2, okr, okr1, okr2, ChkT, ChkN, BlkN, nf, grammarC, hgn, st, hnf0]) (by simp [go_sem, List.take_of_length_le, ren, ren1, ren2, okr, okr1, okr2, ChkT, ChkN, BlkN, nf, grammarC, hgn, st, hnf0])
  clear hset0 hz hO0
  rintro ⟨W0, more0⟩ ⟨hz0, hlow0, hfin⟩
  dsimp only at hz0 hlow0 hfin ⊢
  refine wkdc0 _ ?_
  refine Holds.cond rfl (fun h => ?_) (fun h => ?_)
  · subst h
    have hc0 := card_leQ W0
    refine wkdc (@grammarC.eq_1) _ ?_
    refine Holds.loop (ι := Nat × (Int × Int → Bool) × Bool) (fun i => ⟨[(1, .pb 0 3 0 0), (4, .own 1 1 0 n), (5, .own 2 1 0 n), (6, .v (.bool i.2.2)), (25, .im 2 (rules g.2.2)), (26, .v (.int .i64 g.2.2.length)), (27, .v (.int .i64 i.1))], [(2, ⟨4, 1, lastR n i.2.1⟩), (1, ⟨25, 1, intss (rowsT n i.2.1)⟩), (0, ⟨31, 3, [grammarC g]⟩)], 3⟩)
      (fun i => i.1 ≤ g.2.2.length ∧ ClI (impsW g) univQ W0 i.2.1 i.2.2 (impWz :: (g.2.2.take i.1).flatMap (impsWf g))) (fun i => g.2.2.length - i.1) (0, W0, false) ⟨Nat.zero_le _, (ClI.start _ hlow0).ext [impWz] (fun _ _ p hp _ => by rw [List.mem_singleton] at hp; subst hp; exact hz0)⟩ ?_ ?_
    · exact Cov.ofn (id) rfl (by simp [go_sem, List.take_of_length_le, ren, ren1, ren2, okr, okr1, okr2, ChkT, ChkN, BlkN, nf, grammarC]) (by simp [go_sem, List.take_of_length_le, ren, ren1, ren2, okr, okr1, okr2, ChkT, ChkN, BlkN, nf, grammarC])
    rintro ⟨k, W, more⟩ ⟨hk, hC⟩
    dsimp only at hk hC ⊢
    have stepk : wr64 ((k : Int) + 1) = ((k + 1 : Nat) : Int) := wr64_id (by omega) (by omega)
    refine wkdc0 _ ?_
    refine Holds.cond rfl (fun h => ?_) (fun h => ?_)
    · have hlt : k < g.2.2.length := by simp at h; omega
      have hrk : g.2.2[k]? = some g.2.2[k] := List.getElem?_eq_getElem hlt
      have hmem := List.getElem_mem hlt
      generalize g.2.2[k] = r at hrk hmem
      have hr0 := hG.l0 r hmem
      have hr1 := hG.l1 r hmem
      have hr4 := hG.r4 r hmem
      have hs0 := hG.s0 r hmem
      have hs1 := hG.s1 r hmem
      have ht1 := hG.t1
      obtain ⟨b, hb⟩ : ∃ b : Nat, r.1 = (b : Int) := ⟨r.1.toNat, by omega⟩
      have hbn : b < n := by omega
      refine wkdc (And.intro (@get_E _ _ _ _ hrk) (And.intro @hrk (And.intro @hlt (@ruleC.eq_1)))) _ ?_
      refine Holds.loop (ι := Nat × (Int × Int → Bool) × Bool) (fun i => ⟨[(1, .pb 0 3 0 0), (4, .own 1 1 0 n), (5, .own 2 1 0 n), (6, .v (.bool i.2.2)), (8, .pb 3 2 0 0), (25, .im 2 (rules g.2.2)), (26, .v (.int .i64 g.2.2.length)), (27, .v (.int .i64 k)), (32, .im 1 (ints r.2)), (33, .v (.int .i64 r.2.length)), (34, .v (.int .i64 i.1))], [(3, ⟨87, 2, [ruleC r]⟩), (2, ⟨4, 1, lastR n i.2.1⟩), (1, ⟨25, 1, intss (rowsT n i.2.1)⟩), (0, ⟨31, 3, [grammarC g]⟩)], 4⟩)
        (fun i => i.1 ≤ r.2.length ∧ ClI (impsW g) univQ W0 i.2.1 i.2.2 (seenW g k r i.1)) (fun i => r.2.length - i.1) (0, W, more) ⟨Nat.zero_le _, by rw [seenW_zero]; exact hC⟩ ?_ ?_
      · exact Cov.ofn (id) rfl (by simp [go_sem, List.take_of_length_le, ren, ren1, ren2, okr, okr1, okr2, ChkT, ChkN, BlkN, nf, grammarC, ruleC]) (by simp [go_sem, List.take_of_length_le, ren, ren1, ren2, okr, okr1, okr2, ChkT, ChkN, BlkN, nf, grammarC, ruleC])
      clear hC
      rintro ⟨a, W, more⟩ ⟨ha, hC⟩
      dsimp only at ha hC ⊢
      have stepa : wr64 ((a : Int) + 1) = ((a + 1 : Nat) : Int) := wr64_id (by omega) (by omega)
      refine wkdc0 _ ?_
      refine Holds.cond rfl (fun h => ?_) (fun h => ?_)
      · have hla : a < r.2.length := by simp at h; omega
        have hxa : r.2[a]? = some r.2[a] := List.getElem?_eq_getElem hla
        have hxm := List.getElem_mem hla
        generalize r.2[a] = x at hxa hxm
        have hx5 := hs1 x hxm
        have hx4 := hs0 x hxm
        by_cases hx0 : x < 0
        · have hsn : seenW g k r (a + 1) = seenW g k r a := by
            rw [seenW_snoc, impsWr, hxa]
            simp only [if_pos hx0, List.append_nil]
          refine wkdc (And.intro (@get_E _ _ _ _ hxa) (And.intro @hxa (And.intro @hla (@hx0)))) _ ?_
          refine ⟨(a + 1, W, more), ⟨by dsimp only; omega, by rw [hsn]; exact hC⟩, by dsimp only; omega, ?_⟩
          rw [stepa]
          exact Cov.ofn (id) rfl (by simp [go_sem, List.take_of_length_le, ren, ren1, ren2, okr, okr1, okr2, ChkT, ChkN, BlkN, nf, grammarC, ruleC]) (by simp [go_sem, List.take_of_length_le, ren, ren1, ren2, okr, okr1, okr2, ChkT, ChkN, BlkN, nf, grammarC, ruleC])
        · have hsn : seenW g k r (a + 1) = seenW g k r a ++ univL.map (impW g r.1 x (r.2.drop (a + 1))) := by
            rw [seenW_snoc, impsWr, hxa]
            simp only [if_neg hx0]
          obtain ⟨m, rfl⟩ : ∃ m : Nat, x = (m : Int) := ⟨x.toNat, by omega⟩
          have hmn : m < n := by omega
          have hdl : (r.2.drop (a + 1)).length ≤ 4 := by rw [List.length_drop]; omega
          have hrs1 : ∀ x ∈ r.2.drop (a + 1), x < g.1 := fun x hx => by have := hs1 x (List.mem_of_mem_drop hx); omega
          have hrs : ∀ x ∈ r.2.drop (a + 1), -4 ≤ x := fun x hx => by have := hs0 x (List.mem_of_mem_drop hx); omega
          have cb := l14Begins g hG (r.2.drop (a + 1)) hdl hrs1 hrs
          have cn := l14Null g hG (r.2.drop (a + 1)) hdl hrs1
          have himp := fun t ht => impW_mem (g := g) hmem hxa hx0 (t := t) ht
          have hal : a + 1 ≤ r.2.length := by omega
          have hdr : (ints r.2).drop (a + 1) = ints (r.2.drop (a + 1)) := by simp [ints]
          generalize r.2.drop (a + 1) = rest at cb cn hsn himp hdr hrs
          obtain ⟨S, hS⟩ : ∃ S, S = begS g rest := ⟨_, rfl⟩
          obtain ⟨e0, hE⟩ : ∃ e0, e0 = nullS g rest := ⟨_, rfl⟩
          rw [← hS] at cb
          rw [← hE] at cn
          have hSl := lstT_len S
          have hWl := lstT_len fun t => W ((b : Int), t)
          have hrow := rowsT_at W hbn
          refine wkdc (And.intro (@get_E _ _ _ _ hxa) (And.intro @hxa (And.intro @hla (And.intro @hx0 (And.intro @ruleC.eq_1 (And.intro @grammarC.eq_1 (And.intro @stepa (And.intro @hal (And.intro ((show (0 : Int) ≤ (a : Int) + 1 by omega)) (@hdr)))))))))) _ ?_
          first | refine GS.cc (cb) rfl rfl rfl rfl (by simp [go_sem, List.take_of_length_le, grammarC] <;> with_reducible rfl) rfl (by simp [go_sem, List.take_of_length_le, grammarC]) ?_ | refine Gd.cc (cb) rfl rfl rfl rfl (by simp [go_sem, List.take_of_length_le, grammarC] <;> with_reducible rfl) rfl (by simp [go_sem, List.take_of_length_le, grammarC]) ?_
          refine wkdc (And.intro @ruleC.eq_1 (And.intro @grammarC.eq_1 (And.intro @stepa (And.intro @hal (And.intro ((show (0 : Int) ≤ (a : Int) + 1 by omega)) (@hdr)))))) _ ?_
          first | refine GS.cc (cn) rfl rfl rfl rfl (by simp [go_sem, List.take_of_length_le, grammarC] <;> with_reducible rfl) rfl (by simp [go_sem, List.take_of_length_le, grammarC]) ?_ | refine Gd.cc (cn) rfl rfl rfl rfl (by simp [go_sem, List.take_of_length_le, grammarC] <;> with_reducible rfl) rfl (by simp [go_sem, List.take_of_length_le, grammarC]) ?_
          refine wkdc0 _ ?_
          refine Holds.join (ι := List Int) (fun A => ⟨[(1, .pb 0 3 0 0), (4, .own 1 1 0 n), (5, .own 2 1 0 n), (6, .v (.bool more)), (8, .pb 3 2 0 0), (10, .v (.int .i64 m)), (11, .im 1 (ints A)), (12, .v (.bool e0)), (25, .im 2 (rules g.2.2)), (26, .v (.int .i64 g.2.2.length)), (27, .v (.int .i64 k)), (32, .im 1 (ints r.2)), (33, .v (.int .i64 r.2.length)), (34, .v (.int .i64 a))], [(3, ⟨87, 2, [ruleC r]⟩), (2, ⟨4, 1, lastR n W⟩), (1, ⟨25, 1, intss (rowsT n W)⟩), (0, ⟨31, 3, [grammarC g]⟩)], 4⟩)
            (fun A => A.length ≤ 8 ∧ ∀ t, t ∈ A ↔ (0 ≤ t ∧ t ≤ 3) ∧ (S t || (e0 && W ((b : Int), t))) = true) ?_ ?_
          · cases e0 with
            | false =>
              refine wkdc0 _ ?_
              refine ⟨lstT S, ⟨by omega, fun t => by rw [lstT_mem, Bool.false_and, Bool.or_false]⟩, ?_⟩
              exact Cov.ofn (id) rfl (by simp [go_sem, List.take_of_length_le, ren, ren1, ren2, okr, okr1, okr2, ChkT, ChkN, BlkN, nf, grammarC, ruleC]) (by simp [go_sem, List.take_of_length_le, ren, ren1, ren2, okr, okr1, okr2, ChkT, ChkN, BlkN, nf, grammarC, ruleC])
            | true =>
              have co := l1OwnF (lstT S) (by omega)
              obtain ⟨R, hR⟩ : ∃ R, R = lstT fun t => W ((b : Int), t) := ⟨_, rfl⟩
              rw [← hR] at hWl hrow
              refine wkdsc0 _ ?_
              refine Holds.anx [1, 7] [2, 3, 4, 5, 6] (fun n => decide (4 ≤ n)) mixed ?_ ?_ ?_; (· kernel_rfl); (· kernel_rfl)
              refine wkdac0 _ ?_
              first | refine GS.fnn [] (co) rfl rfl rfl rfl (by simp [go_sem, List.take_of_length_le, ren, ren1, ren2, okr, okr1, okr2, ChkN, BlkN, List.range_succ, nf] <;> with_reducible rfl) (by simp [go_sem, List.take_of_length_le, ren, ren1, ren2, okr, okr1, okr2, ChkN, BlkN, List.range_succ, nf]) (by simp [go_sem, List.take_of_length_le, ren, ren1, ren2, okr, okr1, okr2, ChkN, BlkN, List.range_succ, nf]) (by simp [List.range_succ, lb]) (ChkN.toB (by simp [go_sem, List.take_of_length_le, ren, ren1, ren2, okr, okr1, okr2, ChkN, BlkN, List.range_succ, nf])) (by decide) (by simp) rfl (.nfr (by simp) .nil) (by simp [go_sem, List.take_of_length_le, ren, ren1, ren2, okr, okr1, okr2, ChkN, BlkN, List.range_succ, nf] <;> with_reducible rfl) ?_ | refine Gx.fnn [] (co) rfl rfl rfl rfl rfl (by simp [go_sem, List.take_of_length_le, ren, ren1, ren2, okr, okr1, okr2, ChkN, BlkN, List.range_succ, nf] <;> with_reducible rfl) (by simp [go_sem, List.take_of_length_le, ren, ren1, ren2, okr, okr1, okr2, ChkN, BlkN, List.range_succ, nf]) (by simp [go_sem, List.take_of_length_le, ren, ren1, ren2, okr, okr1, okr2, ChkN, BlkN, List.range_succ, nf]) (by simp [List.range_succ, lb]) (ChkN.toB (by simp [go_sem, List.take_of_length_le, ren, ren1, ren2, okr, okr1, okr2, ChkN, BlkN, List.range_succ, nf])) (by decide) (by simp) rfl (.nfr (by simp) .nil) (by simp [go_sem, List.take_of_length_le, ren, ren1, ren2, okr, okr1, okr2, ChkN, BlkN, List.range_succ, nf]) (by simp [go_sem, List.take_of_length_le, ren, ren1, ren2, okr, okr1, okr2, ChkN, BlkN, List.range_succ, nf] <;> with_reducible rfl) ?_ | refine Gx.fnno [] (co) rfl rfl rfl rfl rfl (by simp [go_sem, List.take_of_length_le, ren, ren1, ren2, okr, okr1, okr2, ChkN, BlkN, List.range_succ, nf] <;> with_reducible rfl) (by simp [go_sem, List.take_of_length_le, ren, ren1, ren2, okr, okr1, okr2, ChkN, BlkN, List.range_succ, nf]) (by simp [go_sem, List.take_of_length_le, ren, ren1, ren2, okr, okr1, okr2, ChkN, BlkN, List.range_succ, nf]) (by simp [List.range_succ, lb]) (ChkN.toB (by simp [go_sem, List.take_of_length_le, ren, ren1, ren2, okr, okr1, okr2, ChkN, BlkN, List.range_succ, nf])) (by decide) (by simp) rfl (.nfr (by simp) .nil) (by simp [go_sem, List.take_of_length_le, ren, ren1, ren2, okr, okr1, okr2, ChkN, BlkN, List.range_succ, nf] <;> with_reducible rfl) ?_
              refine wkdac (And.intro @ruleC.eq_1 (And.intro @hb (And.intro @hbn (And.intro @hrow (And.intro (@get_E _ _ _ _ hrow) (@intsC.eq_1)))))) _ ?_
              have hb8 : ((lstT S).length + R.length) * 8 ≤ 140737488355328 := by omega
              refine wkdac (And.intro @hb8 (@ints_all)) _ ?_
              refine ⟨lstT S ++ R, ⟨by rw [List.length_append]; omega, fun t => ?_⟩, ?_⟩
              · rw [List.mem_append, lstT_mem, hR, lstT_mem, Bool.true_and, Bool.or_eq_true]
                constructor
                · rintro (h | h)
                  · exact ⟨h.1, .inl h.2⟩
                  · exact ⟨h.1, .inr h.2⟩
                · rintro ⟨h1, h2 | h2⟩
                  · exact .inl ⟨h1, h2⟩
                  · exact .inr ⟨h1, h2⟩
              refine Cov.trans ?_ (Cov.freeze [6] (ts := [(11, .im 1 (ints (lstT S ++ R)))]) (.cons rfl (Fz.all rfl rfl (by simp) (by simp [ints]) (ints_cl _)) .nil))
              exact Cov.ofn (id) rfl (by simp [go_sem, List.take_of_length_le, ren, ren1, ren2, okr, okr1, okr2, ChkT, ChkN, BlkN, nf, frz, grammarC, ruleC, hb]) (by simp [go_sem, List.take_of_length_le, ren, ren1, ren2, okr, okr1, okr2, ChkT, ChkN, BlkN, nf, frz, grammarC, ruleC, hb])
          rintro A ⟨hAl, hA⟩
          refine wkdac0 _ ?_
          refine Holds.loop (ι := Nat × (Int × Int → Bool) × Bool) (fun i => ⟨[(1, .pb 0 3 0 0), (4, .own 1 1 0 n), (5, .own 2 1 0 n), (6, .v (.bool i.2.2)), (8, .pb 3 2 0 0), (10, .v (.int .i64 m)), (12, .v (.bool e0)), (25, .im 2 (rules g.2.2)), (26, .v (.int .i64 g.2.2.length)), (27, .v (.int .i64 k)), (32, .im 1 (ints r.2)), (33, .v (.int .i64 r.2.length)), (34, .v (.int .i64 a)), (64, .im 1 (ints A)), (65, .v (.int .i64 A.length)), (66, .v (.int .i64 i.1))], [(3, ⟨87, 2, [ruleC r]⟩), (2, ⟨4, 1, lastR n i.2.1⟩), (1, ⟨25, 1, intss (rowsT n i.2.1)⟩), (0, ⟨31, 3, [grammarC g]⟩)], 4⟩)
            (fun i => i.1 ≤ A.length ∧ ClI (impsW g) univQ W0 i.2.1 i.2.2 (seenW g k r a) ∧ (∀ p, W p = true → i.2.1 p = true) ∧ ∀ t ∈ A.take i.1, i.2.1 (m, t) = true) (fun i => A.length - i.1) (0, W, more) ⟨Nat.zero_le _, hC, fun _ h => h, fun t ht => by simp at ht⟩ ?_ ?_
          · exact Cov.ofn (id) rfl (by simp [go_sem, List.take_of_length_le, ren, ren1, ren2, okr, okr1, okr2, ChkT, ChkN, BlkN, nf, grammarC, ruleC]) (by simp [go_sem, List.take_of_length_le, ren, ren1, ren2, okr, okr1, okr2, ChkT, ChkN, BlkN, nf, grammarC, ruleC])
          have hle0 := hC.le
          clear hC
          rintro ⟨j, W2, more⟩ ⟨hj, hC, hle, hset⟩
          dsimp only at hj hC hle hset ⊢
          have stepj : wr64 ((j : Int) + 1) = ((j + 1 : Nat) : Int) := wr64_id (by omega) (by omega)
          refine wkdac0 _ ?_
          refine Holds.cond rfl (fun h => ?_) (fun h => ?_)
          · have hlj : j < A.length := by simp at h; omega
            have htj : A[j]? = some A[j] := List.getElem?_eq_getElem hlj
            have htm := (hA _).1 (List.getElem_mem hlj)
            generalize A[j] = t at htj htm
            have hsnt : ∀ W3 : Int × Int → Bool, (∀ p, W2 p = true → W3 p = true) → W3 (m, t) = true → ∀ u ∈ A.take (j + 1), W3 (m, u) = true := fun W3 h2 h3 u hu => by
              rw [List.take_add_one, htj] at hu
              rcases List.mem_append.1 hu with hu | hu
              · exact h2 _ (hset u hu)
              · rw [Option.toList_some, List.mem_singleton] at hu
                subst hu; exact h3
            have hrow := rowsT_at W2 hmn
            have hput := rowsT_put W2 hmn htm.1
            have hrl := lstT_len fun u => W2 ((m : Int), u)
            have ch := l1Has (lstT fun u => W2 ((m : Int), u)) t (by omega)
            rw [lstT_has _ htm.1] at ch
            have cpu := l1Put (lstT fun u => W2 ((m : Int), u)) t (by omega)
            have hput' : (intss (rowsT n W2)).set m [.im 1 (ints (putL (lstT fun u => W2 ((m : Int), u)) t))] = intss (rowsT n (insI W2 ((m : Int), t))) := by rw [intss_set, hput]
            have hlr := lastR_ins W2 n m htm.1.1
            have hadd := fun (h2 : W2 ((m : Int), t) = false) => hC.add (himp t ⟨by omega, htm.1.2⟩) (impW_mono g r.1 m rest t) (by
                show (begS g rest t || (nullS g rest && W2 (r.1, t))) = true
                have := htm.2
                rw [Bool.or_eq_true, Bool.and_eq_true] at this ⊢
                rw [hS, hE] at this
                exact this.imp id fun h => ⟨h.1, by rw [hb]; exact hle _ h.2⟩) h2 (mem_univQ.2 ⟨⟨by show (0 : Int) ≤ m; omega, by show (m : Int) ≤ 5; omega⟩, ⟨by show (-1 : Int) ≤ t; omega, htm.1.2⟩⟩) (seenW g k r a)
            generalize (lstT fun u => W2 ((m : Int), u)) = R at hrow ch cpu hput'
            cases hW2 : W2 ((m : Int), t) with
            | true =>
              rw [hW2] at ch
              refine wkdac (And.intro (@get_E _ _ _ _ htj) (And.intro @htj (And.intro @hlj (And.intro @hmn (And.intro @hrow (And.intro (@get_E _ _ _ _ hrow) (@intsC.eq_1))))))) _ ?_
              first | refine GS.cc (ch) rfl rfl rfl rfl (by simp [go_sem, List.take_of_length_le] <;> with_reducible rfl) rfl (by simp [go_sem, List.take_of_length_le]) ?_ | refine Gd.cc (ch) rfl rfl rfl rfl (by simp [go_sem, List.take_of_length_le] <;> with_reducible rfl) rfl (by simp [go_sem, List.take_of_length_le]) ?_ | refine Gx.cc (ch) rfl rfl rfl rfl rfl (by simp [go_sem, List.take_of_length_le] <;> with_reducible rfl) rfl (by simp [go_sem, List.take_of_length_le]) ?_ | refine Gx.cch (ch) rfl rfl rfl rfl rfl (by simp [go_sem, List.take_of_length_le] <;> with_reducible rfl) rfl (by simp [go_sem, List.take_of_length_le]) ?_
              refine wkdac0 _ ?_
              refine ⟨(j + 1, W2, more), ⟨by dsimp only; omega, hC, hle, hsnt W2 (fun _ h => h) hW2⟩, by dsimp only; omega, ?_⟩
              rw [stepj]
              exact Cov.ofn (id) rfl (by simp [go_sem, List.take_of_length_le, ren, ren1, ren2, okr, okr1, okr2, ChkT, ChkN, BlkN, nf, grammarC, ruleC]) (by simp [go_sem, List.take_of_length_le, ren, ren1, ren2, okr, okr1, okr2, ChkT, ChkN, BlkN, nf, grammarC, ruleC])
            | false =>
              rw [hW2] at ch
              refine wkdac (And.intro (@get_E _ _ _ _ htj) (And.intro @htj (And.intro @hlj (And.intro @hmn (And.intro @hrow (And.intro (@get_E _ _ _ _ hrow) (@intsC.eq_1))))))) _ ?_
              first | refine GS.cc (ch) rfl rfl rfl rfl (by simp [go_sem, List.take_of_length_le] <;> with_reducible rfl) rfl (by simp [go_sem, List.take_of_length_le]) ?_ | refine Gd.cc (ch) rfl rfl rfl rfl (by simp [go_sem, List.take_of_length_le] <;> with_reducible rfl) rfl (by simp [go_sem, List.take_of_length_le]) ?_ | refine Gx.cc (ch) rfl rfl rfl rfl rfl (by simp [go_sem, List.take_of_length_le] <;> with_reducible rfl) rfl (by simp [go_sem, List.take_of_length_le]) ?_ | refine Gx.cch (ch) rfl rfl rfl rfl rfl (by simp [go_sem, List.take_of_length_le] <;> with_reducible rfl) rfl (by simp [go_sem, List.take_of_length_le]) ?_
              refine wkdac (And.intro @hmn (And.intro @hrow (And.intro (@get_E _ _ _ _ hrow) (@intsC.eq_1)))) _ ?_
              first | refine GS.cc (cpu) rfl rfl rfl rfl (by simp [go_sem, List.take_of_length_le] <;> with_reducible rfl) rfl (by simp [go_sem, List.take_of_length_le]) ?_ | refine Gd.cc (cpu) rfl rfl rfl rfl (by simp [go_sem, List.take_of_length_le] <;> with_reducible rfl) rfl (by simp [go_sem, List.take_of_length_le]) ?_ | refine Gx.cc (cpu) rfl rfl rfl rfl rfl (by simp [go_sem, List.take_of_length_le] <;> with_reducible rfl) rfl (by simp [go_sem, List.take_of_length_le]) ?_ | refine Gx.cch (cpu) rfl rfl rfl rfl rfl (by simp [go_sem, List.take_of_length_le] <;> with_reducible rfl) rfl (by simp [go_sem, List.take_of_length_le]) ?_
              refine wkdac (And.intro @hmn (And.intro @hrow (And.intro (@get_E _ _ _ _ hrow) (And.intro @intsC.eq_1 (@hput'))))) _ ?_
              refine ⟨(j + 1, insI W2 ((m : Int), t), true), ⟨by dsimp only; omega, hadd hW2, fun p hp => insI_le _ _ _ (hle p hp), hsnt _ (fun p hp => insI_le _ _ _ hp) (insI_self _ _)⟩, by dsimp only; omega, ?_⟩
              dsimp only
              rw [stepj, hlr]
              exact Cov.ofn (id) rfl (by simp [go_sem, List.take_of_length_le, ren, ren1, ren2, okr, okr1, okr2, ChkT, ChkN, BlkN, nf, grammarC, ruleC]) (by simp [go_sem, List.take_of_length_le, ren, ren1, ren2, okr, okr1, okr2, ChkT, ChkN, BlkN, nf, grammarC, ruleC])
          · have hje : j = A.length := by simp at h; omega
            subst hje
            rw [List.take_length] at hset
            have hb1 : begS g rest (-1) = false := by
              cases hb : begS g rest (-1) with
              | false => rfl
              | true => have := begS_univ hG hrs hb; omega
            have hlb := lastR_at W2 hbn
            have hlm := lastR_at W2 hmn
            have hlp := lastR_put W2 hmn
            have hri := rowsT_ins W2 n m
            have hext : ∀ W3 : Int × Int → Bool, ∀ more3, ClI (impsW g) univQ W0 W3 more3 (seenW g k r a) → (∀ p, W2 p = true → W3 p = true) → ((e0 && W2 ((b : Int), -1)) = true → W3 ((m : Int), -1) = true) → ClI (impsW g) univQ W0 W3 more3 (seenW g k r (a + 1)) := fun W3 more3 hC3 hle3 hl3 => by
              rw [hsn]
              refine hC3.ext _ fun f1 f2 p hp h1 => ?_
              obtain ⟨t, ht, rfl⟩ := List.mem_map.1 hp
              have ht := mem_univL.1 ht
              have hWW : ∀ q, W3 q = true → W q = true := fun q hq => hle0 q (by rw [← f2]; exact hq)
              have h1 : (begS g rest t || (nullS g rest && W3 (r.1, t))) = true := h1
              by_cases ht1 : t = -1
              · subst ht1
                rw [hb1, Bool.false_or, Bool.and_eq_true] at h1
                refine hl3 ?_
                rw [Bool.and_eq_true]
                exact ⟨by rw [hE]; exact h1.1, by rw [← hb]; exact hle _ (hWW _ h1.2)⟩
              · refine hle3 _ (hset t ((hA t).2 ⟨⟨by omega, ht.2⟩, ?_⟩))
                rw [hS, hE]
                rw [Bool.or_eq_true, Bool.and_eq_true] at h1 ⊢
                exact h1.imp id fun h => ⟨h.1, by rw [← hb]; exact hWW _ h.2⟩
            have hadd := fun (h1 : e0 = true) (h2 : W2 ((b : Int), -1) = true) (h3 : W2 ((m : Int), -1) = false) => hC.add (himp (-1) (by omega)) (impW_mono g r.1 m rest (-1)) (by
                show (begS g rest (-1) || (nullS g rest && W2 (r.1, -1))) = true
                rw [← hE, h1, hb, h2, Bool.true_and, Bool.or_true]) h3 (mem_univQ.2 ⟨⟨by show (0 : Int) ≤ m; omega, by show (m : Int) ≤ 5; omega⟩, ⟨by show (-1 : Int) ≤ -1; omega, by show (-1 : Int) ≤ 3; omega⟩⟩) (seenW g k r a)
            cases he : e0 with
            | false =>
              have hfin := hext W2 more hC (fun _ h => h) fun e => by rw [he] at e; cases e
              refine wkdac0 _ ?_
              refine ⟨(a + 1, W2, more), ⟨by dsimp only; omega, hfin⟩, by dsimp only; omega, ?_⟩
              rw [stepa]
              exact Cov.ofn (id) rfl (by simp [go_sem, List.take_of_length_le, ren, ren1, ren2, okr, okr1, okr2, ChkT, ChkN, BlkN, nf, grammarC, ruleC]) (by simp [go_sem, List.take_of_length_le, ren, ren1, ren2, okr, okr1, okr2, ChkT, ChkN, BlkN, nf, grammarC, ruleC])
            | true =>
              cases hqb : W2 ((b : Int), -1) with
              | false =>
                have hfin := hext W2 more hC (fun _ h => h) fun e => by rw [hqb, Bool.and_false] at e; cases e
                rw [hqb] at hlb
                refine wkdac (And.intro @ruleC.eq_1 (And.intro @hb (And.intro @hbn (And.intro @hlb (@get_E _ _ _ _ hlb))))) _ ?_
                refine ⟨(a + 1, W2, more), ⟨by dsimp only; omega, hfin⟩, by dsimp only; omega, ?_⟩
                rw [stepa]
                exact Cov.ofn (id) rfl (by simp [go_sem, List.take_of_length_le, ren, ren1, ren2, okr, okr1, okr2, ChkT, ChkN, BlkN, nf, grammarC, ruleC, hb]) (by simp [go_sem, List.take_of_length_le, ren, ren1, ren2, okr, okr1, okr2, ChkT, ChkN, BlkN, nf, grammarC, ruleC, hb])
              | true =>
                cases hqm : W2 ((m : Int), -1) with
                | true =>
                  have hfin := hext W2 more hC (fun _ h => h) fun _ => hqm
                  rw [hqb] at hlb
                  rw [hqm] at hlm
                  refine wkdac (And.intro @ruleC.eq_1 (And.intro @hb (And.intro @hbn (And.intro @hlb (And.intro (@get_E _ _ _ _ hlb) (And.intro @hmn (And.intro @hlm (@get_E _ _ _ _ hlm)))))))) _ ?_
                  refine ⟨(a + 1, W2, more), ⟨by dsimp only; omega, hfin⟩, by dsimp only; omega, ?_⟩
                  rw [stepa]
                  exact Cov.ofn (id) rfl (by simp [go_sem, List.take_of_length_le, ren, ren1, ren2, okr, okr1, okr2, ChkT, ChkN, BlkN, nf, grammarC, ruleC, hb]) (by simp [go_sem, List.take_of_length_le, ren, ren1, ren2, okr, okr1, okr2, ChkT, ChkN, BlkN, nf, grammarC, ruleC, hb])
                | false =>
                  have hfin := hext (insI W2 ((m : Int), -1)) true (hadd he hqb hqm) (fun p hp => insI_le _ _ _ hp) fun _ => insI_self _ _
                  rw [hqb] at hlb
                  rw [hqm] at hlm
                  refine wkdac (And.intro @ruleC.eq_1 (And.intro @hb (And.intro @hbn (And.intro @hlb (And.intro (@get_E _ _ _ _ hlb) (And.intro @hmn (And.intro @hlm (And.intro (@get_E _ _ _ _ hlm) (@hlp))))))))) _ ?_
                  refine ⟨(a + 1, insI W2 ((m : Int), -1), true), ⟨by dsimp only; omega, hfin⟩, by dsimp only; omega, ?_⟩
                  dsimp only
                  rw [stepa, hri]
                  exact Cov.ofn (id) rfl (by simp [go_sem, List.take_of_length_le, ren, ren1, ren2, okr, okr1, okr2, ChkT, ChkN, BlkN, nf, grammarC, ruleC, hb]) (by simp [go_sem, List.take_of_length_le, ren, ren1, ren2, okr, okr1, okr2, ChkT, ChkN, BlkN, nf, grammarC, ruleC, hb])
      · have hae : a = r.2.length := by simp at h; omega
        subst hae
        rw [seenW_all g hrk] at hC
        refine wkdac0 _ ?_
        refine ⟨(k + 1, W, more), ⟨by dsimp only; omega, hC⟩, by dsimp only; omega, ?_⟩
        rw [stepk]
        exact Cov.ofn (id) rfl (by simp [go_sem, List.take_of_length_le, ren, ren1, ren2, okr, okr1, okr2, ChkT, ChkN, BlkN, nf, grammarC]) (by simp [go_sem, List.take_of_length_le, ren, ren1, ren2, okr, okr1, okr2, ChkT, ChkN, BlkN, nf, grammarC])
    · have hke : k = g.2.2.length := by simp at h; omega
      subst hke
      rw [List.take_length] at hC
      change ClI _ _ _ _ _ (impsW g) at hC
      refine wkdac0 _ ?_
      refine ⟨(W, more), ⟨hC.le _ hz0, hC.low, fun e => ?_⟩, ?_, ?_⟩
      · dsimp only at e ⊢
        subst e
        exact hC.done
      · dsimp only
        have hc := card_leQ W
        cases more with
        | true => have := hC.yes rfl; simp only [if_true]; omega
        | false => rw [(hC.no rfl).1]; simp
      exact Cov.ofn (id) rfl (by simp [go_sem, List.take_of_length_le, ren, ren1, ren2, okr, okr1, okr2, ChkT, ChkN, BlkN, nf, grammarC]) (by simp [go_sem, List.take_of_length_le, ren, ren1, ren2, okr, okr1, okr2, ChkT, ChkN, BlkN, nf, grammarC])
  · have h : more0 = false := by simpa using h
    have := hfin h
    subst this
    refine wkdac0 _ ?_
    refine OutF.mkn (xs := ?_) (nm [1, 2]) ?_ ?_ ?_ ?_ ?_ (by first | exact .inr rfl | exact .inl rfl)
    rotate_left
    · simp [go_sem, List.take_of_length_le] <;> with_reducible rfl
    · simp [go_sem, List.take_of_length_le, ren, ren1, ren2, okr, okr1, okr2, ChkN, BlkN, List.range_succ, nf]
    · simp [go_sem, List.take_of_length_le, ren, ren1, ren2, okr, okr1, okr2, ChkN, BlkN, List.range_succ, nf]
    · simp [go_sem, List.take_of_length_le, ren, ren1, ren2, okr, okr1, okr2, ChkN, BlkN, List.range_succ, nf]
    · rfl
end Go.Proofs.Ytenienncgjanpaa.En
end
section
namespace Go.Proofs.Ytenienncgjanpaa.En
open Go.RowKit
set_option linter.unusedSimpArgs false
set_option linter.unusedVariables false
def consecF (P : Program) : Nat → List Field → Option Nat
  | o, [] => some o
  | o, f :: fs => if f.offset = o then consecF P (o + P.cellsOf f.type) fs else none
def boolsT (P : Program) : Nat → TypeId → Bool
  | 0, _ => false
  | d + 1, t => match P.underlying t with
    | some .bool => P.cellsOf t == 1
    | some (.array n e) => boolsT P d e && P.cellsOf t == n * P.cellsOf e
    | some (.struct fs) => (fs.all fun f => f.name != "_") && (fs.toList.all fun f => boolsT P d f.type) && consecF P 0 fs.toList == some (P.cellsOf t)
    | _ => false
theorem mapM_some_map {α β : Type} {f : α → Option β} {g : α → β} : ∀ {l : List α}, (∀ x ∈ l, f x = some (g x)) → l.mapM f = some (l.map g)
  | [], _ => rfl
  | a :: l, h => by
    rw [List.mapM_cons, h a (.head _), mapM_some_map fun x hx => h x (.tail _ hx)]; rfl
theorem chunks_flat {α : Type} (c : Nat) : ∀ (n : Nat) (xs : List α), xs.length = n * c → ((List.range n).map fun i => (xs.drop (i * c)).take c).flatten = xs
  | 0, xs, h => by
    have : xs = [] := List.eq_nil_of_length_eq_zero (by simpa using h)
    subst this; rfl
  | n + 1, xs, h => by
    have h1 : (n + 1) * c = n * c + c := Nat.succ_mul n c
    have ih := chunks_flat c n (xs.drop c) (by rw [List.length_drop]; omega)
    rw [List.range_succ_eq_map, List.map_cons, List.map_map, List.flatten_cons, Nat.zero_mul, List.drop_zero]
    have e : (fun i => List.take c (List.drop (i * c) xs)) ∘ Nat.succ = fun i => List.take c (List.drop (i * c) (xs.drop c)) := by
      funext i
      simp only [Function.comp, List.drop_drop]
      congr 2
      rw [Nat.succ_mul]; omega
    rw [e, ih, List.take_append_drop]
theorem consec_flat {α : Type} {P : Program} {m : Nat} (xs : List α) : ∀ (fs : List Field) (o : Nat), consecF P o fs = some m → xs.length = m → (fs.map fun f => (xs.drop f.offset).take (P.cellsOf f.type)).flatten = xs.drop o
  | [], o, h, hx => by
    simp only [consecF, Option.some.injEq] at h
    rw [List.drop_eq_nil_of_le (by omega)]; rfl
  | f :: fs, o, h, hx => by
    simp only [consecF] at h
    split at h
    · rename_i hf
      rw [List.map_cons, List.flatten_cons, consec_flat xs fs _ h hx, hf, ← List.drop_drop, List.take_append_drop]
    · cases h
theorem consec_le {P : Program} {m : Nat} : ∀ (fs : List Field) (o : Nat), consecF P o fs = some m → o ≤ m ∧ ∀ f ∈ fs, f.offset + P.cellsOf f.type ≤ m
  | [], o, h => by
    simp only [consecF, Option.some.injEq] at h
    exact ⟨by omega, fun f hf => by cases hf⟩
  | f :: fs, o, h => by
    simp only [consecF] at h
    split at h
    · rename_i hf
      obtain ⟨h1, h2⟩ := consec_le fs _ h
      exact ⟨by omega, fun g hg => by
        rcases List.mem_cons.1 hg with e | e
        · subst e; omega
        · exact h2 g e⟩
    · cases h
theorem keyLits_bools {P : Program} : ∀ (d : Nat) (t : TypeId), boolsT P d t = true → ∀ xs : List Bool, xs.length = P.cellsOf t → P.keyLits d t (xs.map Value.bool) = some (xs.map Lit.bool)
  | 0, t, h => by simp [boolsT] at h
  | d + 1, t, h => fun xs hx => by
    unfold boolsT at h
    unfold Program.keyLits
    cases hu : P.underlying t with
    | none => simp [hu] at h
    | some k =>
      cases k <;> simp only [hu, Bool.false_eq_true, Bool.and_eq_true, beq_iff_eq] at h
      case bool =>
        rw [h] at hx
        match xs, hx with
        | [b], _ => rfl
      case array n e =>
        obtain ⟨h1, h2⟩ := h
        have hl : (xs.map Value.bool).length = P.cellsOf t := by simpa using hx
        simp only
        rw [if_pos hl, mapM_some_map (g := fun i => ((xs.drop (i * P.cellsOf e)).take (P.cellsOf e)).map Lit.bool) fun i hi => ?_]
        · rw [Option.map_some]
          congr 1
          have := congrArg (List.map Lit.bool) (chunks_flat (P.cellsOf e) n xs (by omega))
          rw [List.map_flatten, List.map_map] at this
          exact this
        · rw [← List.map_drop, ← List.map_take]
          have hi := List.mem_range.1 hi
          refine keyLits_bools d e h1 _ ?_
          rw [List.length_take, List.length_drop, hx, h2]
          have : (i + 1) * P.cellsOf e ≤ n * P.cellsOf e := Nat.mul_le_mul_right _ hi
          rw [Nat.succ_mul] at this
          omega
      case struct fs =>
        obtain ⟨⟨h1, h2⟩, h3⟩ := h
        have hl : (xs.map Value.bool).length = P.cellsOf t := by simpa using hx
        simp only
        rw [if_pos ⟨hl, h1⟩, mapM_some_map (g := fun f => ((xs.drop f.offset).take (P.cellsOf f.type)).map Lit.bool) fun f hf => ?_]
        · rw [Option.map_some]
          congr 1
          have := congrArg (List.map Lit.bool) (consec_flat xs fs.toList 0 h3 hx)
          rw [List.map_flatten, List.map_map] at this
          exact this
        · rw [← List.map_drop, ← List.map_take]
          have hle := (consec_le _ _ h3).2 f hf
          refine keyLits_bools d f.type (List.all_eq_true.1 h2 f hf) _ ?_
          rw [List.length_take, List.length_drop, hx]
          omega
theorem EqBs.mk {P : Program} {t : TypeId} {n : Nat} (hg : P.eqGuardType P.depth t = false) (hk : P.keyTypeAt 10000 t = true) (hb : boolsT P 10 t = true) (hn : P.cellsOf t = n)
    (hf : (match P.underlying t with | some (.struct _) | some (.array _ _) => true | _ => false) = true) : EqBs P t n := by
  refine .made hg fun xs ys w hx hy => ?_
  have hfm : ∀ xs : List Bool, xs.length = n → (Value.agg (boolA xs)).formed P t = true := fun xs hx => by
    simp only [Value.formed, boolA]
    split at hf
    · simp_all
    · simp_all
    · cases hf
  obtain ⟨r, hr, hi⟩ := run_equalIn_deep 0 10000 t hk w 10 10 (.agg (boolA xs)) (.agg (boolA ys)) (xs.map Lit.bool) (ys.map Lit.bool) (hfm xs hx) (hfm ys hy)
    (by simpa [Value.cells, boolA] using keyLits_bools 10 t hb xs (by omega)) (by simpa [Value.cells, boolA] using keyLits_bools 10 t hb ys (by omega))
  rw [Nat.zero_add] at hr
  rw [hr]
  congr 1
  rw [Bool.eq_iff_iff, hi, decide_eq_true_eq]
  refine ⟨fun h => ?_, fun h => by rw [h]⟩
  have := congrArg (List.map fun l => match l with | Lit.bool b => b | _ => false) h
  simpa [List.map_map, Function.comp_def] using this
end Go.Proofs.Ytenienncgjanpaa.En
end
section
namespace Go.Proofs.Ytenienncgjanpaa.En
open Go.RowKit
set_option linter.unusedSimpArgs false
set_option linter.unusedVariables false
set_option maxHeartbeats 4000000
def boolsH (H : Nat → Bool) : List Bool := (List.range 66).map H
def boxH (H : Nat → Bool) : List AV := (boolsH H).map fun b => .v (.bool b)
@[simp] theorem boolsH_len (H : Nat → Bool) : (boolsH H).length = 66 := by rw [boolsH, List.length_map, List.length_range]
@[simp] theorem boxH_len (H : Nat → Bool) : (boxH H).length = 66 := by rw [boxH, List.length_map, boolsH_len]
theorem boxH_at (H : Nat → Bool) {i : Nat} (h : i < 66) : (boxH H)[i]? = some (.v (.bool (H i))) := by
  rw [boxH, boolsH, List.getElem?_map, List.getElem?_map, List.getElem?_range h]; rfl
theorem boolsH_ext {H H' : Nat → Bool} (h : ∀ i, i < 66 → H i = H' i) : boolsH H = boolsH H' := by
  unfold boolsH
  exact List.map_congr_left fun i hi => h i (List.mem_range.1 hi)
theorem boolsH_inj {H H' : Nat → Bool} (h : boolsH H = boolsH H') {i : Nat} (hi : i < 66) : H i = H' i := by
  have := congrArg (fun l => l[i]?) h
  simpa [boolsH, List.getElem?_range hi] using this
theorem boxH_ext {H H' : Nat → Bool} (h : ∀ i, i < 66 → H i = H' i) : boxH H = boxH H' := by rw [boxH, boolsH_ext h]; rfl
theorem boxH_set (H : Nat → Bool) {i : Nat} (h : i < 66) (b : Bool) : (boxH H).set i (.v (.bool b)) = boxH (fun k => if k = i then b else H k) := by
  refine List.ext_getElem? fun k => ?_
  by_cases hk : k < 66
  · rw [boxH_at _ hk, List.getElem?_set]
    by_cases e : i = k
    · subst e; rw [if_pos rfl, if_pos (by simpa using h), if_pos rfl]
    · rw [if_neg e, boxH_at _ hk, if_neg (fun g => e g.symm)]
  · rw [List.getElem?_eq_none (by simp; omega), List.getElem?_eq_none (by simp; omega)]
theorem boxH_v (H : Nat → Bool) : ∀ x ∈ boxH H, ∃ b, x = .v (.bool b) := fun x hx => by
  simp only [boxH, List.mem_map] at hx
  obtain ⟨b, _, rfl⟩ := hx
  exact ⟨b, rfl⟩
theorem boxH_cl (H : Nat → Bool) : ∀ x ∈ boxH H, cl1 x = true := fun x hx => by
  obtain ⟨b, rfl⟩ := boxH_v H x hx; rfl
@[simp] theorem boxH_clA (H : Nat → Bool) : (boxH H).all cl1 = true := List.all_eq_true.2 (boxH_cl H)
@[simp] theorem nfc_boxH (H : Nat → Bool) : nfc (boxH H) := fun x hx => by obtain ⟨b, rfl⟩ := boxH_v H x hx; rfl
@[simp] theorem boxH_flat (H : Nat → Bool) : ∀ x ∈ boxH H, flat x = true := fun x hx => by obtain ⟨b, rfl⟩ := boxH_v H x hx; rfl
@[simp] theorem boxH_all (H : Nat → Bool) : (boxH H).all flat = true := List.all_eq_true.2 (boxH_flat H)
@[simp] theorem boxH_take (H : Nat → Bool) : (boxH H).take 66 = boxH H := List.take_of_length_le (by simp)
@[simp] theorem boxH_drop (H : Nat → Bool) : (boxH H).drop 66 = [] := List.drop_of_length_le (by simp)
theorem boxH_four (H : Nat → Bool) {i : Nat} (h : i + 4 ≤ 66) : ((boxH H).drop i).take 4 = cellsT (fun t => H (i + t.toNat)) := by
  refine List.ext_getElem? fun k => ?_
  by_cases hk : k < 4
  · rw [List.getElem?_take_of_lt hk, List.getElem?_drop, boxH_at _ (by omega), cellsT_at _ hk]; rfl
  · rw [List.getElem?_eq_none (by simp; omega), List.getElem?_eq_none (by simp; omega)]
def headH (M N : Int → Bool) (F W : Int × Int → Bool) : Nat → Bool := fun k =>
  if k < 6 then M k else if k < 12 then N ((k - 6 : Nat) : Int) else if k < 36 then F (((k - 12) / 4 : Nat), ((k - 12) % 4 : Nat)) else if k < 60 then W (((k - 36) / 4 : Nat), ((k - 36) % 4 : Nat)) else W ((k - 60 : Nat), -1)
theorem headH_M (M N : Int → Bool) (F W : Int × Int → Bool) {n : Nat} (h : n < 6) : headH M N F W n = M n := by simp [headH, h]
theorem headH_N (M N : Int → Bool) (F W : Int × Int → Bool) {n : Nat} (h : n < 6) : headH M N F W (6 + n) = N n := by
  unfold headH
  rw [if_neg (by omega), if_pos (by omega), show 6 + n - 6 = n by omega]
theorem headH_F (M N : Int → Bool) (F W : Int × Int → Bool) {n t : Nat} (h : n < 6) (ht : t < 4) : headH M N F W (12 + n * 4 + t) = F (n, t) := by
  unfold headH
  rw [if_neg (by omega), if_neg (by omega), if_pos (by omega), show (12 + n * 4 + t - 12) / 4 = n by omega, show (12 + n * 4 + t - 12) % 4 = t by omega]
theorem headH_W (M N : Int → Bool) (F W : Int × Int → Bool) {n t : Nat} (h : n < 6) (ht : t < 4) : headH M N F W (36 + n * 4 + t) = W (n, t) := by
  unfold headH
  rw [if_neg (by omega), if_neg (by omega), if_neg (by omega), if_pos (by omega), show (36 + n * 4 + t - 36) / 4 = n by omega, show (36 + n * 4 + t - 36) % 4 = t by omega]
theorem headH_L (M N : Int → Bool) (F W : Int × Int → Bool) {n : Nat} (h : n < 6) : headH M N F W (60 + n) = W (n, -1) := by
  unfold headH
  rw [if_neg (by omega), if_neg (by omega), if_neg (by omega), if_neg (by omega), show 60 + n - 60 = n by omega]
def updP (F : Int × Int → Bool) (p : Int × Int) (b : Bool) : Int × Int → Bool := fun q => if q = p then b else F q
theorem headH_setF (M N : Int → Bool) (F W : Int × Int → Bool) {n t : Nat} (h : n < 6) (ht : t < 4) (b : Bool) : (boxH (headH M N F W)).set (12 + n * 4 + t) (.v (.bool b)) = boxH (headH M N (updP F (n, t) b) W) := by
  rw [boxH_set _ (by omega)]
  refine boxH_ext fun i hi => ?_
  by_cases e : i = 12 + n * 4 + t
  · rw [if_pos e, e, headH_F _ _ _ _ h ht, updP, if_pos rfl]
  · rw [if_neg e]
    unfold headH
    split
    · rfl
    · split
      · rfl
      · split
        · rw [updP, if_neg fun g => e ?_]
          simp only [Prod.mk.injEq] at g
          omega
        · rfl
theorem headH_setW (M N : Int → Bool) (F W : Int × Int → Bool) {n t : Nat} (h : n < 6) (ht : t < 4) (b : Bool) : (boxH (headH M N F W)).set (36 + n * 4 + t) (.v (.bool b)) = boxH (headH M N F (updP W (n, t) b)) := by
  rw [boxH_set _ (by omega)]
  refine boxH_ext fun i hi => ?_
  by_cases e : i = 36 + n * 4 + t
  · rw [if_pos e, e, headH_W _ _ _ _ h ht, updP, if_pos rfl]
  · rw [if_neg e]
    unfold headH
    split
    · rfl
    · split
      · rfl
      · split
        · rfl
        · split
          · rw [updP, if_neg fun g => e ?_]
            simp only [Prod.mk.injEq] at g
            omega
          · rw [updP, if_neg fun g => ?_]
            simp only [Prod.mk.injEq] at g
            omega
theorem headH_setL (M N : Int → Bool) (F W : Int × Int → Bool) {n : Nat} (h : n < 6) (b : Bool) : (boxH (headH M N F W)).set (60 + n) (.v (.bool b)) = boxH (headH M N F (updP W (n, -1) b)) := by
  rw [boxH_set _ (by omega)]
  refine boxH_ext fun i hi => ?_
  by_cases e : i = 60 + n
  · rw [if_pos e, e, headH_L _ _ _ _ h, updP, if_pos rfl]
  · rw [if_neg e]
    unfold headH
    split
    · rfl
    · split
      · rfl
      · split
        · rfl
        · split
          · rw [updP, if_neg fun g => ?_]
            simp only [Prod.mk.injEq] at g
            omega
          · rw [updP, if_neg fun g => e ?_]
            simp only [Prod.mk.injEq] at g
            omega
theorem updP_true (F : Int × Int → Bool) (p : Int × Int) : updP F p true = insI F p := by
  funext q
  by_cases e : q = p
  · simp [updP, insI, e]
  · simp [updP, insI, e]
theorem updP_self (F : Int × Int → Bool) {p : Int × Int} {b : Bool} (h : F p = b) : updP F p b = F := by
  funext q
  by_cases e : q = p
  · rw [updP, if_pos e, e, h]
  · rw [updP, if_neg e]
theorem eqHeads : EqBs Try.prog 78 66 := EqBs.mk (by kernel_rfl) (by kernel_rfl) (by kernel_rfl) (by kernel_rfl) (by kernel_rfl)
/-! tokensOf -/
theorem symbolOfA (x : Int) (h0 : -100 ≤ x) (h1 : x ≤ 100) : Pure Try.prog 59 [.v (.int .i64 x)] (.v (.int .i64 (-1 - x))) := by
  refine Pure.mk (rs := [.tmp 2]) (nt := 5) Try.func59 (by kernel_rfl) rfl rfl rfl (by simp) ?_
  simp only [sl]
  have hw : wr64 (-1 - x) = -1 - x := wr64_id (by omega) (by omega)
  refine wkc (@hw) _ ?_
  refine Out.mk (xs := ?_) ?_ ?_ (by first | exact .inr rfl | exact .inl rfl)
  rotate_left
  · simp [go_sem, List.take_of_length_le] <;> with_reducible rfl
  exact .v _
theorem lstT_snoc (S : Int → Bool) {i : Nat} (h : i < 4) : ((univT.take (i + 1)).filter S) = (univT.take i).filter S ++ if S i then [(i : Int)] else [] := by
  rw [List.take_add_one, show univT[i]? = some (i : Int) by simp [univT, List.getElem?_range h], List.filter_append]
  simp [List.filter_cons]
theorem tokensOf (S : Int → Bool) : Fn Try.prog 45 0 [.ag (cellsT S)] [] (.own 0 1 0 (lstT S).length) 1 [(0, ⟨3, 1, ints (lstT S)⟩)] := by
  refine Fn.mk (rs := [.tmp 2]) (nt := 19) Try.func45 (by kernel_rfl) rfl rfl rfl (by simp) ?_
  simp only [sl, cellsT]
  refine wkc (@cellsT.eq_1) _ ?_
  refine Holds.loop (ι := Nat) (fun i => ⟨[(1, .pb 0 4 0 0), (3, .own 1 1 0 ((univT.take i).filter S).length), (7, .ag (cellsT S)), (8, .v (.int .i64 i))], [(1, ⟨3, 1, ints ((univT.take i).filter S)⟩), (0, ⟨63, 4, [cellsT S]⟩)], 2⟩) (fun i => i ≤ 4) (fun i => 4 - i) 0 (by omega) ?_ ?_
  · exact Cov.ofn (id) rfl (by simp [go_sem, List.take_of_length_le, ren, ren1, ren2, okr, okr1, okr2, ChkT, ChkN, BlkN, nf, cellsT]) (by simp [go_sem, List.take_of_length_le, ren, ren1, ren2, okr, okr1, okr2, ChkT, ChkN, BlkN, nf, cellsT])
  intro i hi
  have stepi : wr64 ((i : Int) + 1) = ((i + 1 : Nat) : Int) := wr64_id (by omega) (by omega)
  have hll : ((univT.take i).filter S).length ≤ 4 := Nat.le_trans (List.length_filter_le _ _) (by simp [univT]; omega)
  refine wkc0 _ ?_
  refine Holds.cond rfl (fun h => ?_) (fun h => ?_)
  · have h4 : i < 4 := by simp at h; omega
    have hsn := lstT_snoc S h4
    have hat := cellsT_at S h4
    generalize ((univT.take i).filter S) = L at hll hsn ⊢
    have hbb : (L.length + 1) * 8 ≤ 140737488355328 := by omega
    refine wkc (And.intro @h4 (And.intro (@get_E _ _ _ _ hat) (@hat))) _ ?_
    refine Holds.cond rfl (fun h => ?_) (fun h => ?_)
    · rw [if_pos h] at hsn
      refine wkc (@hbb) _ ?_
      refine ⟨i + 1, by omega, by omega, ?_⟩
      rw [stepi, hsn]
      exact Cov.ofn (nm [0, 4]) rfl (by simp [go_sem, List.take_of_length_le, ren, ren1, ren2, okr, okr1, okr2, ChkT, ChkN, BlkN, nf, ints_snoc, cellsT]) (by simp [go_sem, List.take_of_length_le, ren, ren1, ren2, okr, okr1, okr2, ChkT, ChkN, BlkN, nf, ints_snoc, cellsT])
    · rw [if_neg (by simpa using h), List.append_nil] at hsn
      refine wkc0 _ ?_
      refine ⟨i + 1, by omega, by omega, ?_⟩
      rw [stepi, hsn]
      exact Cov.ofn (id) rfl (by simp [go_sem, List.take_of_length_le, ren, ren1, ren2, okr, okr1, okr2, ChkT, ChkN, BlkN, nf, cellsT]) (by simp [go_sem, List.take_of_length_le, ren, ren1, ren2, okr, okr1, okr2, ChkT, ChkN, BlkN, nf, cellsT])
  · have h4 : i = 4 := by simp at h; omega
    subst h4
    rw [show univT.take 4 = univT from rfl, show univT.filter S = lstT S from rfl]
    refine wkc0 _ ?_
    refine OutF.mkn (xs := ?_) (nm [1]) ?_ ?_ ?_ ?_ ?_ (by first | exact .inr rfl | exact .inl rfl)
    rotate_left
    · simp [go_sem, List.take_of_length_le] <;> with_reducible rfl
    · simp [go_sem, List.take_of_length_le, ren, ren1, ren2, okr, okr1, okr2, ChkN, BlkN, List.range_succ, nf]
    · simp [go_sem, List.take_of_length_le, ren, ren1, ren2, okr, okr1, okr2, ChkN, BlkN, List.range_succ, nf]
    · simp [go_sem, List.take_of_length_le, ren, ren1, ren2, okr, okr1, okr2, ChkN, BlkN, List.range_succ, nf]
    · rfl
end Go.Proofs.Ytenienncgjanpaa.En
end
section
namespace Go.Proofs.Ytenienncgjanpaa.En
open Go.RowKit
set_option linter.unusedSimpArgs false
set_option linter.unusedVariables false
set_option maxHeartbeats 4000000
theorem ofLost (M N : Int → Bool) (F W : Int × Int → Bool) (x : Int) (hx : x ≤ 5) : Pure Try.prog 79 [.v (.int .i64 x), .pi [.pi (boxH (headH M N F W))]] (.v (.bool (decide (0 ≤ x) && !M x))) := by
  refine Pure.mk (rs := [.tmp 3]) (nt := 15) Try.func79 (by kernel_rfl) rfl rfl rfl (by simp) ?_
  simp only [sl]
  by_cases h : 0 ≤ x
  · obtain ⟨n, rfl⟩ : ∃ n : Nat, x = (n : Int) := ⟨x.toNat, by omega⟩
    have hn6 : n < 6 := by omega
    have hcn := boxH_at (headH M N F W) (i := n) (by omega)
    rw [headH_M _ _ _ _ hn6] at hcn
    rw [decide_eq_true h, Bool.true_and]
    refine wkc (And.intro @h (And.intro @hn6 (And.intro (@get_E _ _ _ _ hcn) (@hcn)))) _ ?_
    refine Out.mk (xs := ?_) ?_ ?_ (by first | exact .inr rfl | exact .inl rfl)
    rotate_left
    · simp [go_sem, List.take_of_length_le] <;> with_reducible rfl
    exact .v _
  · rw [decide_eq_false h, Bool.false_and]
    refine wkc (@h) _ ?_
    refine Out.mk (xs := ?_) ?_ ?_ (by first | exact .inr rfl | exact .inl rfl)
    rotate_left
    · simp [go_sem, List.take_of_length_le] <;> with_reducible rfl
    exact .v _
theorem begT_zero (nu : Int → Bool) (F : Int × Int → Bool) (right : List Int) : (fun t => begT nu F (right.take 0) t) = fun _ => false := by funext t; simp [begT]
theorem okM_lost (M : Int → Bool) (right : List Int) : (right.any fun x => decide (0 ≤ x) && !M x) = !okM true M right := by rw [okM_true, Bool.not_not]
theorem ofH (M N : Int → Bool) (F W : Int × Int → Bool) (right : List Int) (hl : right.length ≤ 4) (h1 : ∀ x ∈ right, x ≤ 5) (h0 : ∀ x ∈ right, -4 ≤ x) :
    Pure Try.prog 44 [.pi (boxH (headH M N F W)), .im 1 (ints right)] (.tu [.ag (cellsT fun t => okM true M right && begT N F right t), .v (.bool (okM true M right && okM false N right))]) := by
  have cf := containsFuncInt 79 [.pi [.pi (boxH (headH M N F W))]] (fun x => decide (0 ≤ x) && !M x) right (by omega) rfl (fun x hx => ofLost M N F W x (h1 x hx))
  rw [okM_lost] at cf
  refine Pure.mk (rs := [.cell 4 63, .tmp 5]) (nt := 57) Try.func44 (by kernel_rfl) rfl rfl rfl (by simp) ?_
  simp only [sl]
  refine wkc0 _ ?_
  refine GS.cd (cf) rfl rfl rfl rfl (by simp [go_sem, List.take_of_length_le] <;> with_reducible rfl) rfl (by exact .cons (.im _ _) (.cons (Fz.fnL (.cons (Fz.box rfl rfl rfl rfl) .nil)) .nil)) rfl ?_
  cases okM true M right with
  | false =>
    simp only [Bool.false_and]
    refine wkc0 _ ?_
    refine Out.mk (xs := ?_) ?_ ?_ (by first | exact .inr rfl | exact .inl rfl)
    rotate_left
    · simp [go_sem, List.take_of_length_le, cellsT] <;> with_reducible rfl
    exact Fz.tuL (.cons (Fz.agL (.cons (.v _) (.cons (.v _) (.cons (.v _) (.cons (.v _) .nil))))) (.cons (.v _) .nil))
  | true =>
    simp only [Bool.true_and]
    refine wkc0 _ ?_
    refine Holds.loop (ι := Nat) (fun a => ⟨[(2, .pb 0 1 0 0), (4, .pb 1 4 0 0), (6, .pb 2 4 0 0), (16, .im 1 (ints right)), (17, .v (.int .i64 right.length)), (18, .v (.int .i64 a))], [(2, ⟨63, 4, [cellsT fun t => begT N F (right.take a) t]⟩), (1, ⟨63, 4, [cellsT fun _ => false]⟩), (0, ⟨65, 1, [[.pi (boxH (headH M N F W))]]⟩)], 3⟩)
      (fun a => a ≤ right.length ∧ okM false N (right.take a) = true) (fun a => right.length - a) 0 ⟨Nat.zero_le _, rfl⟩ ?_ ?_
    · rw [begT_zero]
      exact Cov.ofn (id) rfl (by simp [go_sem, List.take_of_length_le, ren, ren1, ren2, okr, okr1, okr2, ChkT, ChkN, BlkN, nf, cellsT]) (by simp [go_sem, List.take_of_length_le, ren, ren1, ren2, okr, okr1, okr2, ChkT, ChkN, BlkN, nf, cellsT])
    rintro a ⟨ha, hok⟩
    have stepa : wr64 ((a : Int) + 1) = ((a + 1 : Nat) : Int) := wr64_id (by omega) (by omega)
    refine wkc0 _ ?_
    refine Holds.cond rfl (fun h => ?_) (fun h => ?_)
    · have hla : a < right.length := by simp at h; omega
      have hxa : right[a]? = some right[a] := List.getElem?_eq_getElem hla
      have hxm := List.getElem_mem hla
      generalize right[a] = x at hxa hxm
      have hx5 := h1 x hxm
      have hx4 := h0 x hxm
      have hnext := fun t => begT_next (F := F) hxa hok t
      have hstop := fun h t => begT_stop (F := F) hxa hok h t
      have hstop2 := fun h => okM_stop (nu := N) hxa h
      generalize hb : begT N F (right.take a) = b at hnext hstop ⊢
      by_cases hx0 : x < 0
      · have cs := symbolOfA x (by omega) (by omega)
        have hx1 : ¬ 0 ≤ x := by omega
        have e1 := hstop2 (by simp [hx1])
        rw [e1]
        obtain ⟨m, hm⟩ : ∃ m : Nat, (-1 - x) = (m : Int) := ⟨(-1 - x).toNat, by omega⟩
        have hm4 : m < 4 := by omega
        have hm3 : m ≤ 3 := by omega
        have e2 : (fun t => begT N F right t) = fun t => if t = (m : Int) then true else b t := by
          funext t
          rw [hstop (by simp [hx1]) t, headT, if_pos hx0, hm]
          by_cases e : t = (m : Int) <;> simp [e]
        rw [e2]
        rw [hm] at cs
        have hset := cellsT_set b hm4 true
        generalize (fun t : Int => if t = (m : Int) then true else b t) = S at hset ⊢
        refine wkc (And.intro (@get_E _ _ _ _ hxa) (And.intro @hxa (And.intro @hla (@hx0)))) _ ?_
        refine GS.cc (cs) rfl rfl rfl rfl (by simp [go_sem, List.take_of_length_le] <;> with_reducible rfl) rfl (by simp [go_sem, List.take_of_length_le]) ?_
        refine wkc (And.intro @hm4 (And.intro @hm3 (@hset))) _ ?_
        refine wkc (@cellsT.eq_1) _ ?_
        refine Out.mk (xs := ?_) ?_ ?_ (by first | exact .inr rfl | exact .inl rfl)
        rotate_left
        · simp [go_sem, List.take_of_length_le, cellsT] <;> with_reducible rfl
        exact Fz.tuL (.cons (Fz.agL (.cons (.v _) (.cons (.v _) (.cons (.v _) (.cons (.v _) .nil))))) (.cons (.v _) .nil))
      · obtain ⟨n, rfl⟩ : ∃ n : Nat, x = (n : Int) := ⟨x.toNat, by omega⟩
        have hn6 : n < 6 := by omega
        have hn0 := boxH_at (headH M N F W) (i := 6 + n) (by omega)
        rw [headH_N _ _ _ _ hn6] at hn0
        have h4 := boxH_four (headH M N F W) (i := 12 + n * 4) (by omega)
        have h4' : cellsT (fun t => headH M N F W (12 + n * 4 + t.toNat)) = cellsT fun t => F (n, t) := cellsT_ext fun t h0 h1 => by
          obtain ⟨k, rfl⟩ : ∃ k : Nat, t = (k : Int) := ⟨t.toNat, by omega⟩
          rw [Int.toNat_natCast, headH_F _ _ _ _ hn6 (by omega)]
        rw [h4'] at h4
        have hno : okM false N (right.take (a + 1)) = N (n : Int) := by
          rw [okM_snoc false N hxa, hok]; simp
        have hnx : (fun t => begT N F (right.take (a + 1)) t) = fun t => b t || F ((n : Int), t) := by
          funext t
          rw [hnext t, headT, if_neg hx0]
        have hsz : 4 ≤ 66 - (12 + n * 4) := by omega
        refine wkc (And.intro (@get_E _ _ _ _ hxa) (And.intro @hxa (And.intro @hla (And.intro @hx0 (And.intro @hn6 (And.intro @h4 (@hsz))))))) _ ?_
        refine Holds.loop (ι := Nat) (fun i => ⟨[(2, .pb 0 1 0 0), (4, .pb 1 4 0 0), (6, .pb 2 4 0 0), (8, .v (.int .i64 (n : Int))), (16, .im 1 (ints right)), (17, .v (.int .i64 right.length)), (18, .v (.int .i64 a)), (33, .ag (cellsT fun t => F ((n : Int), t))), (34, .v (.int .i64 i))], [(2, ⟨63, 4, [cellsT fun t => b t || (decide (t < (i : Int)) && F ((n : Int), t))]⟩), (1, ⟨63, 4, [cellsT fun _ => false]⟩), (0, ⟨65, 1, [[.pi (boxH (headH M N F W))]]⟩)], 3⟩)
          (fun i => i ≤ 4) (fun i => 4 - i) 0 (by omega) ?_ ?_
        · rw [cellsT_ext (S := fun t => b t || (decide (t < ((0 : Nat) : Int)) && F ((n : Int), t))) (T := b) fun t ht0 ht1 => by
            have : ¬ t < ((0 : Nat) : Int) := by omega
            rw [decide_eq_false this, Bool.false_and, Bool.or_false]]
          exact Cov.ofn (id) rfl (by simp [go_sem, List.take_of_length_le, ren, ren1, ren2, okr, okr1, okr2, ChkT, ChkN, BlkN, nf, cellsT]) (by simp [go_sem, List.take_of_length_le, ren, ren1, ren2, okr, okr1, okr2, ChkT, ChkN, BlkN, nf, cellsT])
        intro i hi
        have stepi : wr64 ((i : Int) + 1) = ((i + 1 : Nat) : Int) := wr64_id (by omega) (by omega)
        refine wkc0 _ ?_
        refine Holds.cond rfl (fun h => ?_) (fun h => ?_)
        · have hi4 : i < 4 := by simp at h; omega
          have hi3 : i ≤ 3 := by omega
          have hat := cellsT_at (fun t => F ((n : Int), t)) hi4
          have hat2 := cellsT_at (fun t => b t || (decide (t < (i : Int)) && F ((n : Int), t))) hi4
          have hbi : (b (i : Int) || (decide ((i : Int) < (i : Int)) && F ((n : Int), (i : Int)))) = b (i : Int) := by simp
          rw [hbi] at hat2
          have hset := cellsT_set (fun t => b t || (decide (t < (i : Int)) && F ((n : Int), t))) hi4 (b (i : Int) || F ((n : Int), (i : Int)))
          have hst : cellsT (fun x => if x = (i : Int) then (b (i : Int) || F ((n : Int), (i : Int))) else (b x || (decide (x < (i : Int)) && F ((n : Int), x)))) = cellsT fun t => b t || (decide (t < ((i + 1 : Nat) : Int)) && F ((n : Int), t)) := cellsT_ext fun t ht0 ht1 => by
            by_cases e : t = (i : Int)
            · subst e
              have : ((i : Int) < ((i + 1 : Nat) : Int)) := by omega
              rw [if_pos rfl, decide_eq_true this, Bool.true_and]
            · rw [if_neg e]
              have : (t < ((i + 1 : Nat) : Int)) ↔ (t < (i : Int)) := by omega
              simp only [this]
          rw [hst] at hset
          generalize hcf : F ((n : Int), (i : Int)) = fi at hat hset
          generalize hcb : b (i : Int) = bi at hat2 hset
          generalize (fun t => b t || (decide (t < (i : Int)) && F ((n : Int), t))) = S at hat2 hset ⊢
          obtain ⟨S', hS'⟩ : ∃ S', S' = fun t => b t || (decide (t < ((i + 1 : Nat) : Int)) && F ((n : Int), t)) := ⟨_, rfl⟩
          rw [← hS'] at hset
          cases bi with
          | true =>
            rw [Bool.true_or] at hset
            refine wkc (And.intro @hi4 (And.intro @hi3 (And.intro (@get_E _ _ _ _ hat) (And.intro @hat (And.intro (@get_E _ _ _ _ hat2) (And.intro @hat2 (@hset))))))) _ ?_
            refine ⟨i + 1, by omega, by omega, ?_⟩
            dsimp only
            rw [stepi, ← hS']
            exact Cov.ofn (id) rfl (by simp [go_sem, List.take_of_length_le, ren, ren1, ren2, okr, okr1, okr2, ChkT, ChkN, BlkN, nf, cellsT]) (by simp [go_sem, List.take_of_length_le, ren, ren1, ren2, okr, okr1, okr2, ChkT, ChkN, BlkN, nf, cellsT])
          | false =>
            rw [Bool.false_or] at hset
            refine wkc (And.intro @hi4 (And.intro @hi3 (And.intro (@get_E _ _ _ _ hat) (And.intro @hat (And.intro (@get_E _ _ _ _ hat2) (And.intro @hat2 (@hset))))))) _ ?_
            refine ⟨i + 1, by omega, by omega, ?_⟩
            dsimp only
            rw [stepi, ← hS']
            exact Cov.ofn (id) rfl (by simp [go_sem, List.take_of_length_le, ren, ren1, ren2, okr, okr1, okr2, ChkT, ChkN, BlkN, nf, cellsT]) (by simp [go_sem, List.take_of_length_le, ren, ren1, ren2, okr, okr1, okr2, ChkT, ChkN, BlkN, nf, cellsT])
        · have hi4 : i = 4 := by simp at h; omega
          subst hi4
          have hce : (cellsT fun t => b t || (decide (t < ((4 : Nat) : Int)) && F ((n : Int), t))) = cellsT fun t => begT N F (right.take (a + 1)) t := cellsT_ext fun t ht0 ht1 => by
            have e : t < ((4 : Nat) : Int) := by omega
            rw [hnext t, headT, if_neg hx0, decide_eq_true e, Bool.true_and]
          rw [hce]
          have hn1 : ((boxH (headH M N F W)).drop 6)[n]? = some (.v (.bool (N (n : Int)))) := by rw [List.getElem?_drop]; exact hn0
          refine wkc (And.intro @hn6 (And.intro @hn1 (And.intro (@get_E _ _ _ _ hn1) (And.intro @hn0 (@get_E _ _ _ _ hn0))))) _ ?_
          refine Holds.cond rfl (fun h => ?_) (fun h => ?_)
          · have hN : N (n : Int) = false := by simpa using h
            have e1 := hstop2 (by simp [hN])
            have e2 : (fun t => begT N F right t) = fun t => begT N F (right.take (a + 1)) t := by
              funext t
              rw [hstop (by simp [hN]) t, hnext t]
            rw [e1, e2]
            generalize (begT N F (right.take (a + 1))) = b2
            refine wkc (@cellsT.eq_1) _ ?_
            refine Out.mk (xs := ?_) ?_ ?_ (by first | exact .inr rfl | exact .inl rfl)
            rotate_left
            · simp [go_sem, List.take_of_length_le, cellsT] <;> with_reducible rfl
            exact Fz.tuL (.cons (Fz.agL (.cons (.v _) (.cons (.v _) (.cons (.v _) (.cons (.v _) .nil))))) (.cons (.v _) .nil))
          · have hN : N (n : Int) = true := by simpa using h
            rw [hN] at hno
            refine wkc0 _ ?_
            refine ⟨a + 1, ⟨by omega, hno⟩, by omega, ?_⟩
            rw [stepa]
            exact Cov.ofn (id) rfl (by simp [go_sem, List.take_of_length_le, ren, ren1, ren2, okr, okr1, okr2, ChkT, ChkN, BlkN, nf, cellsT]) (by simp [go_sem, List.take_of_length_le, ren, ren1, ren2, okr, okr1, okr2, ChkT, ChkN, BlkN, nf, cellsT])
    · have hae : a = right.length := by simp at h; omega
      subst hae
      rw [List.take_length] at hok ⊢
      rw [hok]
      refine wkc (@cellsT.eq_1) _ ?_
      refine Out.mk (xs := ?_) ?_ ?_ (by first | exact .inr rfl | exact .inl rfl)
      rotate_left
      · simp [go_sem, List.take_of_length_le, cellsT] <;> with_reducible rfl
      exact Fz.tuL (.cons (Fz.agL (.cons (.v _) (.cons (.v _) (.cons (.v _) (.cons (.v _) .nil))))) (.cons (.v _) .nil))
end Go.Proofs.Ytenienncgjanpaa.En
end
section
namespace Go.Proofs.Ytenienncgjanpaa.En
open Go.RowKit
set_option linter.unusedSimpArgs false
set_option linter.unusedVariables false
set_option maxHeartbeats 4000000
theorem null1 (S : Int → Bool) (x : Int) (hx : x ≤ 5) : Pure Try.prog 98 [.v (.int .i64 x), .pi (cellsN S)] (.v (.bool (decide (x < 0) || !S x))) := by
  refine Pure.mk (rs := [.tmp 3]) (nt := 12) Try.func98 (by kernel_rfl) rfl rfl rfl (by simp) ?_
  simp only [sl]
  by_cases h : x < 0
  · rw [decide_eq_true h, Bool.true_or]
    refine wkc (@h) _ ?_
    refine Out.mk (xs := ?_) ?_ ?_ (by first | exact .inr rfl | exact .inl rfl)
    rotate_left
    · simp [go_sem, List.take_of_length_le] <;> with_reducible rfl
    exact .v _
  · obtain ⟨n, rfl⟩ : ∃ n : Nat, x = (n : Int) := ⟨x.toNat, by omega⟩
    have hn6 : n < 6 := by omega
    have hcn := cellsN_at S hn6
    rw [decide_eq_false h, Bool.false_or]
    refine wkc (And.intro @h (And.intro @hn6 (And.intro (@get_E _ _ _ _ hcn) (@hcn)))) _ ?_
    refine Out.mk (xs := ?_) ?_ ?_ (by first | exact .inr rfl | exact .inl rfl)
    rotate_left
    · simp [go_sem, List.take_of_length_le] <;> with_reducible rfl
    exact .v _
theorem okM_false (S : Int → Bool) (right : List Int) : okM false S right = !right.any fun x => decide (x < 0) || !S x := by
  rw [okM, List.not_any_eq_all_not]
  congr 1
  funext x
  by_cases h : x < 0
  · have : ¬ 0 ≤ x := by omega
    simp [h, this]
  · have : 0 ≤ x := by omega
    simp [h, this]
theorem makes0 (g : GrammarT) (hG : OkG g) (r : RuleT) (hr : r ∈ g.2.2) (S : Int → Bool) : Pure Try.prog 97 [.ag (ruleC r), .ag (cellsN S)] (.v (.bool (okM false S r.2))) := by
  have h4 := hG.r4 r hr
  have h5 := hG.s1 r hr
  have h6 := hG.n1
  have cf := containsFuncInt 98 [.pi (cellsN S)] (fun x => decide (x < 0) || !S x) r.2 (by omega) rfl (fun x hx => null1 S x (by have := h5 x hx; omega))
  rw [okM_false]
  generalize (r.2.any fun x => decide (x < 0) || !S x) = b at cf ⊢
  refine Pure.mk (rs := [.tmp 4]) (nt := 10) Try.func97 (by kernel_rfl) rfl rfl rfl (by simp) ?_
  simp only [sl, ruleC, cellsN]
  refine wkc (And.intro @ruleC.eq_1 (@cellsN.eq_1)) _ ?_
  refine GS.cd (cf) rfl rfl rfl rfl (by simp [go_sem, List.take_of_length_le, ruleC, cellsN] <;> with_reducible rfl) rfl (by exact .cons (.im _ _) (.cons (Fz.fnL (.cons (Fz.box rfl rfl rfl rfl) .nil)) .nil)) rfl ?_
  refine wkc0 _ ?_
  refine Out.mk (xs := ?_) ?_ ?_ (by first | exact .inr rfl | exact .inl rfl)
  rotate_left
  · simp [go_sem, List.take_of_length_le] <;> with_reducible rfl
  exact .v _
theorem nullableG (g : GrammarT) (hG : OkG g) : Pure Try.prog 78 [.ag (grammarC g)] (.ag (cellsN (madeS g false))) := by
  have cc := closedG g hG false 97 (fun r hr S => makes0 g hG r hr S)
  refine Pure.mk (rs := [.cell 2 75]) (nt := 5) Try.func78 (by kernel_rfl) rfl rfl rfl (by simp) ?_
  simp only [sl, grammarC]
  refine wkc (@grammarC.eq_1) _ ?_
  refine GS.cc (cc) rfl rfl rfl rfl (by simp [go_sem, List.take_of_length_le, grammarC, cellsN] <;> with_reducible rfl) rfl (by simp [go_sem, List.take_of_length_le, grammarC, cellsN]) ?_
  refine wkc (@cellsN.eq_1) _ ?_
  refine Out.mk (xs := ?_) ?_ ?_ (by first | exact .inr rfl | exact .inl rfl)
  rotate_left
  · simp [go_sem, List.take_of_length_le, cellsN] <;> with_reducible rfl
  exact Fz.cl rfl
end Go.Proofs.Ytenienncgjanpaa.En
end
