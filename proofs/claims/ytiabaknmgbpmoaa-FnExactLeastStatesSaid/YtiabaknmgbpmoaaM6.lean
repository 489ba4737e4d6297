/- Own words and walks of this claim, part 6: what the program's functions compute, for all the arguments that are named; no further conditions. -/
import Derived.Shelf.Sort.Plain
import Derived.Shelf.Slices.In.SortNone
import Derived.Test.YtiabaknmgbpmoaaProg
import Derived.Test.YtiabaknmgbpmoaaM2
import Derived.Shelf.Slices.CompactI
import Derived.Test.YtiabaknmgbpmoaaM5
section
namespace Go.Proofs.Ytiabaknmgbpmoaa.En
open Go.RowKit Go.Shelf
set_option linter.unusedVariables false
def sort189_ren : Go.Shelf.Ren := ⟨fun | 189 => 124 | 125 => 129 | 257 => 128 | 128 => 139 | 129 => 140 | 294 => 130 | 295 => 131 | 296 => 132 | 297 => 133 | 298 => 134 | 299 => 135 | 216 => 136 | 300 => 137 | 301 => 138 | 328 => 141 | 329 => 142 | 330 => 143 | 331 => 144 | 332 => 145 | 215 => 127 | 343 => 146 | n => n, fun | 28 => 25 | 3 => 3 | 46 => 153 | 0 => 0 | 51 => 162 | 53 => 164 | 4 => 4 | 183 => 156 | 182 => 155 | 131 => 68 | 5 => 5 | 9 => 9 | 218 => 165 | 222 => 169 | 228 => 171 | 229 => 172 | n => n, fun n => n⟩
theorem sort189 : Go.Proofs.Lays.n189 Try.prog sort189_ren where
  mixed := by kernel_rfl
  f125 := Try.func129.trans (congrArg some (by kernel_rfl))
  f128 := Try.func139.trans (congrArg some (by kernel_rfl))
  f129 := Try.func140.trans (congrArg some (by kernel_rfl))
  f189 := Try.func124.trans (congrArg some (by kernel_rfl))
  f215 := Try.func127.trans (congrArg some (by kernel_rfl))
  f216 := Try.func136.trans (congrArg some (by kernel_rfl))
  f257 := Try.func128.trans (congrArg some (by kernel_rfl))
  f294 := Try.func130.trans (congrArg some (by kernel_rfl))
  f295 := Try.func131.trans (congrArg some (by kernel_rfl))
  f296 := Try.func132.trans (congrArg some (by kernel_rfl))
  f297 := Try.func133.trans (congrArg some (by kernel_rfl))
  f298 := Try.func134.trans (congrArg some (by kernel_rfl))
  f299 := Try.func135.trans (congrArg some (by kernel_rfl))
  f300 := Try.func137.trans (congrArg some (by kernel_rfl))
  f301 := Try.func138.trans (congrArg some (by kernel_rfl))
  f328 := Try.func141.trans (congrArg some (by kernel_rfl))
  f329 := Try.func142.trans (congrArg some (by kernel_rfl))
  f330 := Try.func143.trans (congrArg some (by kernel_rfl))
  f331 := Try.func144.trans (congrArg some (by kernel_rfl))
  f332 := Try.func145.trans (congrArg some (by kernel_rfl))
  f343 := Try.func146.trans (congrArg some (by kernel_rfl))
  t0 := Try.underlying0
  a0 := Try.isAgg0
  z0 := Try.sizeOf0
  v0 := Try.zeroValue0
  t3 := Try.underlying3
  a3 := Try.isAgg3
  z3 := Try.sizeOf3
  v3 := Try.zeroValue3
  t4 := Try.underlying4
  a4 := Try.isAgg4
  z4 := Try.sizeOf4
  v4 := Try.zeroValue4
  t5 := Try.underlying5
  a5 := Try.isAgg5
  z5 := Try.sizeOf5
  v5 := Try.zeroValue5
  t9 := Try.underlying9
  a9 := Try.isAgg9
  z9 := Try.sizeOf9
  v9 := Try.zeroValue9
  t28 := Try.underlying25
  a28 := Try.isAgg25
  z28 := Try.sizeOf25
  v28 := Try.zeroValue25
  t46 := Try.underlying153
  a46 := Try.isAgg153
  z46 := Try.sizeOf153
  v46 := Try.zeroValue153
  t51 := Try.underlying162
  a51 := Try.isAgg162
  z51 := Try.sizeOf162
  v51 := Try.zeroValue162
  t53 := Try.underlying164
  a53 := Try.isAgg164
  z53 := Try.sizeOf164
  v53 := Try.zeroValue164
  t131 := Try.underlying68
  a131 := Try.isAgg68
  z131 := Try.sizeOf68
  v131 := Try.zeroValue68
  t182 := Try.underlying155
  a182 := Try.isAgg155
  z182 := Try.sizeOf155
  v182 := Try.zeroValue155
  t183 := Try.underlying156
  a183 := Try.isAgg156
  z183 := Try.sizeOf156
  v183 := Try.zeroValue156
  t218 := Try.underlying165
  a218 := Try.isAgg165
  z218 := Try.sizeOf165
  v218 := Try.zeroValue165
  t222 := Try.underlying169
  a222 := Try.isAgg169
  z222 := Try.sizeOf169
  v222 := Try.zeroValue169
  t228 := Try.underlying171
  a228 := Try.isAgg171
  z228 := Try.sizeOf171
  v228 := Try.zeroValue171
  t229 := Try.underlying172
  a229 := Try.isAgg172
  z229 := Try.sizeOf172
  v229 := Try.zeroValue172
end Go.Proofs.Ytiabaknmgbpmoaa.En
end
section
namespace Go.Proofs.Ytiabaknmgbpmoaa.En
open Go.RowKit Go.Shelf Go.Sort
set_option linter.unusedSimpArgs false
set_option linter.unusedVariables false
def sorted (xs : List Int) : List Int := xs.mergeSort fun x y => decide (x ≤ y)
@[simp] theorem sorted_len (xs : List Int) : (sorted xs).length = xs.length := by simp [sorted]
theorem ints_row {xs : List Int} {j : Nat} {row : List AV} (h : (ints xs)[j]? = some row) : ∃ x, xs[j]? = some x ∧ row = [.v (.int .i64 x)] := by
  rw [ints_get] at h
  simp only [Option.map_eq_some_iff] at h
  obtain ⟨x, h1, h2⟩ := h
  exact ⟨x, h1, h2.symm⟩
theorem blk_sorted {w w' : World} {S : Nat → Prop} {Ow : Owners} {L : Names} {n : Nat} {t : TypeId} {xs ys : List Int} {b o cap : Nat} (hl : ys.length = xs.length) (hB : BlkRep w S Ow L n ⟨t, 1, ints xs⟩ (some (b, o, cap)))
    (hh : ∀ cs fr, w.heap[b]? = some (.cells cs t fr) → w'.heap[b]? = some (.cells (putCells (Value.int .i64) o ys.toArray cs) t fr)) : BlkRep w' S Ow L n ⟨t, 1, ints ys⟩ (some (b, o, cap)) := by
  obtain ⟨hO, cs, us, hc, hs, hle, hrow, hcell, hrep⟩ := hB
  simp only [ints_len, Nat.mul_one] at hs hle hrow hcell hrep
  refine ⟨hO, putCells (Value.int .i64) o ys.toArray cs, fun j _ => .int .i64 (ys.getD j 0), hh _ _ hc, by simp [putCells, hs], by simp only [ints_len]; omega, ?_, ?_, ?_⟩
  · intro j row hj
    obtain ⟨x, _, rfl⟩ := ints_row hj
    rfl
  · intro j row i x hj hi
    obtain ⟨y, hy, rfl⟩ := ints_row hj
    have hlt := (List.getElem?_eq_some_iff.1 hy).1
    have hi0 : i = 0 := by
      have := (List.getElem?_eq_some_iff.1 hi).1
      simp at this; exact this
    subst hi0
    have hlt2 : o + j < cs.size := by omega
    simp only [Nat.mul_one, Nat.add_zero, putCells, Array.getElem?_mapIdx, Array.getElem?_eq_getElem hlt2, Option.map_some, Option.some.injEq, List.size_toArray]
    rw [if_pos ⟨by omega, by omega⟩, show o + j - o = j by omega]
    simp [List.getD_eq_getElem?_getD, hlt]
  · intro j row i x hj hi
    obtain ⟨y, hy, rfl⟩ := ints_row hj
    have hi0 : i = 0 := by
      have := (List.getElem?_eq_some_iff.1 hi).1
      simp at this; exact this
    subst hi0
    simp only [List.getElem?_cons_zero, Option.some.injEq] at hi
    subst hi
    dsimp only
    rw [show ys.getD j 0 = y by rw [List.getD_eq_getElem?_getD, hy]; rfl]
    exact .v _ rfl
theorem sortInts (xs : List Int) (hx : xs.length < 4611686018427387904) : Fn Try.prog 124 1 [.own 0 1 0 xs.length] [(0, ⟨3, 1, ints xs⟩)] (.tu []) 1 [(0, ⟨3, 1, ints (sorted xs)⟩)] := by
  unfold Fn
  refine ⟨⟨_, Try.func124, by kernel_rfl, by kernel_rfl⟩, fun W X S Ow L us hR hl hrep => ?_⟩
  obtain ⟨u, rfl⟩ : ∃ u, us = [u] := by
    match us, hl with
    | [u], _ => exact ⟨u, rfl⟩
  have hu := hrep 0 _ u rfl rfl
  have same : xs.length = 0 → (Calls Try.prog 124 [u].toArray W fun e w' => e = Ending.returned (Value.tuple #[]) ∧ w' = W) → Calls Try.prog 124 [u].toArray W fun e w' => ∃ v, e = .returned v ∧ ∃ S' Ow' L', RelX ⟨W, X, S, ⟨0, 1⟩, fixOf 1 L⟩ ⟨[], [(0, ⟨3, 1, ints (sorted xs)⟩)], 1⟩ a0 w' S' Ow' L' ∧ Rep w' S' Ow' L' [0] (.tu []) v := by
    intro h0 hc cs
    obtain ⟨e, w', fr, ⟨rfl, rfl⟩, rest⟩ := hc cs
    have hx0 : xs = [] := List.length_eq_zero_iff.1 h0
    subst hx0
    rw [show sorted [] = [] by simp [sorted]]
    exact ⟨_, _, fr, ⟨_, rfl, S, Ow, L, hR, .tu [] [] rfl (fun i x u hx hu => by simp at hx)⟩, rest⟩
  have hn : ∀ (p : Option Addr) (cap : Nat), Calls Try.prog 124 #[.slice p 0 cap] W fun e w' => e = Ending.returned (Value.tuple #[]) ∧ w' = W := fun p cap => Any.slices_Sort_int_none sort189 p cap W
  rcases own_inv hu with ⟨b, o, cap, hL, hle, rfl⟩ | ⟨b, o, cap, ad, hL, hoff, hlen, rfl⟩ | ⟨hL, _, hlen, A, rfl⟩ | hL
  · obtain ⟨loc, hl0, hB⟩ := hR.blk 0 _ rfl
    rw [hL] at hl0
    cases hl0
    have hB' := hB
    obtain ⟨hO, cs, us, hc, hs, hle', hrow, hcell, hrep'⟩ := hB'
    simp only [ints_len, Nat.mul_one] at hs hle'
    have hblk : b < W.heap.size := (Array.getElem?_eq_some_iff.1 hc).1
    have hH : Go.Sort.Holds (Value.int .i64) W b o xs.toArray := by
      intro j hj
      have hj' : j < xs.length := by simpa using hj
      have hxj : (ints xs)[j]? = some [.v (.int .i64 xs[j])] := by simp [hj']
      have h1 := hcell j _ 0 _ hxj rfl
      have h2 := hrep' j _ 0 _ hxj rfl
      have h3 : us j 0 = .int .i64 xs[j] := by clear h1; generalize us j 0 = q at h2 ⊢; cases h2; rfl
      simp only [Nat.mul_one, Nat.add_zero] at h1
      refine ⟨?_, ?_⟩
      · simp only [World.cell?, hc, Option.isSome_none, Bool.false_eq_true, if_false, h1, h3]
        simp [hj']
      · simp [World.frozen?, hc]
    have hcall := Any.slices_Sort_int sort189 b o cap xs W hH hblk hx
    intro cs'
    obtain ⟨e, w', fr, ⟨rfl, n, os, rfl⟩, rest⟩ := hcall cs'
    refine ⟨_, Go.Sort.grow (putRow (Value.int .i64) (Go.Sort.ahead W n) b o (sorted xs).toArray) os, fr, ⟨_, rfl, S, Ow, L, ?_, .tu [] [] rfl (fun i x u hx hu => by simp at hx)⟩, ?_⟩
    · have h1 := hR.drawn (w' := Go.Sort.ahead W n) rfl rfl rfl rfl
      have h2 := h1.write 0 _ ⟨3, 1, ints (sorted xs)⟩ b o cap hL rfl (putRow (Value.int .i64) (Go.Sort.ahead W n) b o (sorted xs).toArray) rfl rfl rfl (by simp [putRow, mapBlock]) (fun c hcb => by simp [putRow, mapBlock, Array.getElem?_modify, Ne.symm hcb])
        (fun hB1 _ => blk_sorted (by simp) hB1 (fun cs2 fr2 h2 => by have h3 : W.heap[b]? = _ := h2; simp [putRow, mapBlock, Array.getElem?_modify, h3, onCells]))
      refine h2.grown ⟨rfl, rfl, rfl, by simp [Go.Sort.grow], fun k hk => ?_⟩
      exact Array.getElem?_append_left hk
    · simp only [Nat.add_zero, Nat.mul_one, Nat.sub_zero]
      exact rest
  · exact same (by omega) (by have := hn (some ad) 0; simpa [hlen] using this)
  · exact same (by omega) (by have := hn A 0; simpa [hlen] using this)
  · obtain ⟨loc, hl0, hB⟩ := hR.blk 0 _ rfl
    rw [hL] at hl0
    cases hl0
end Go.Proofs.Ytiabaknmgbpmoaa.En
end
section
namespace Go.Proofs.Ytiabaknmgbpmoaa.En
open Go.RowKit Go.Shelf
set_option linter.unusedVariables false
def compact20_ren : Go.Shelf.Ren := ⟨fun | 20 => 125 | n => n, fun | 22 => 25 | 3 => 3 | 4 => 4 | 0 => 0 | n => n, fun n => n⟩
theorem compact20 : Go.Proofs.Lays2.n20 Try.prog compact20_ren where
  mixed := by kernel_rfl
  f20 := Try.func125.trans (congrArg some (by kernel_rfl))
  t0 := Try.underlying0
  a0 := Try.isAgg0
  z0 := Try.sizeOf0
  v0 := Try.zeroValue0
  t3 := Try.underlying3
  a3 := Try.isAgg3
  z3 := Try.sizeOf3
  v3 := Try.zeroValue3
  t4 := Try.underlying4
  a4 := Try.isAgg4
  z4 := Try.sizeOf4
  v4 := Try.zeroValue4
  t22 := Try.underlying25
  a22 := Try.isAgg25
  z22 := Try.sizeOf25
  v22 := Try.zeroValue25
  i3 := by kernel_rfl
end Go.Proofs.Ytiabaknmgbpmoaa.En
end
section
namespace Go.Proofs.Ytiabaknmgbpmoaa.En
open Go.RowKit Go.Shelf Go.Sort
set_option linter.unusedSimpArgs false
set_option linter.unusedVariables false
def compacted (xs : List Int) : List Int := Go.Lib.compact xs
theorem compacted_len (xs : List Int) : (compacted xs).length ≤ xs.length := by
  unfold compacted Go.Lib.compact Go.Lib.compactUpTo
  rw [List.length_map]
  exact Nat.le_trans (List.length_filter_le _ _) (by simp)
/-- Of the elements that were put the first ones are remembered. -/
theorem blk_prefix {w : World} {S : Nat → Prop} {Ow : Owners} {L : Names} {n : Nat} {t : TypeId} {xs ys : List Int} {loc : Loc} (hl : ys.length ≤ xs.length) (hp : ∀ j, j < ys.length → ys[j]? = xs[j]?) (hB : BlkRep w S Ow L n ⟨t, 1, ints xs⟩ loc) : BlkRep w S Ow L n ⟨t, 1, ints ys⟩ loc := by
  cases loc with
  | none =>
    have h0 : ints xs = [] := hB
    have h1 : xs = [] := by simpa [ints] using h0
    subst h1
    have h2 : ys = [] := List.length_eq_zero_iff.1 (by simpa using hl)
    subst h2
    exact rfl
  | some l =>
    obtain ⟨b, o, cap⟩ := l
    obtain ⟨hO, cs, us, hc, hs, hle, hrow, hcell, hrep⟩ := hB
    have up : ∀ (j : Nat) (row : List AV), (ints ys)[j]? = some row → (ints xs)[j]? = some row := by
      intro j row hj
      obtain ⟨x, hx, rfl⟩ := ints_row hj
      rw [ints_get, ← hp j (List.getElem?_eq_some_iff.1 hx).1, hx]; rfl
    refine ⟨hO, cs, us, hc, hs, ?_, fun j row hj => hrow j row (up j row hj), fun j row i x hj hi => hcell j row i x (up j row hj) hi, fun j row i x hj hi => hrep j row i x (up j row hj) hi⟩
    have : (ints xs).length ≤ cap := hle
    simp only [ints_len] at this ⊢; omega
theorem put_rel {W : World} {S : Nat → Prop} {Ow : Owners} {L : Names} {t : TypeId} {xs ys zs : List Int} {b o cap : Nat} {C : Ctx} (hR : RelX C ⟨[], [(0, ⟨t, 1, ints xs⟩)], 1⟩ a0 W S Ow L) (hL : L 0 = .at (some (b, o, cap))) (hz : zs.length = xs.length) (hy : ys.length ≤ zs.length) (hp : ∀ j, j < ys.length → ys[j]? = zs[j]?) (n : Nat) :
    RelX C ⟨[], [(0, ⟨t, 1, ints ys⟩)], 1⟩ a0 (putRow (Value.int .i64) (Go.Sort.ahead W n) b o zs.toArray) S Ow L := by
  have h1 := hR.drawn (w' := Go.Sort.ahead W n) rfl rfl rfl rfl
  exact h1.write 0 _ ⟨t, 1, ints ys⟩ b o cap hL rfl (putRow (Value.int .i64) (Go.Sort.ahead W n) b o zs.toArray) rfl rfl rfl (by simp [putRow, mapBlock]) (fun c hcb => by simp [putRow, mapBlock, Array.getElem?_modify, Ne.symm hcb])
    (fun hB1 _ => blk_prefix hy hp (blk_sorted hz hB1 (fun cs2 fr2 h2 => by have h3 : W.heap[b]? = _ := h2; simp [putRow, mapBlock, Array.getElem?_modify, h3, onCells])))
set_option maxHeartbeats 1000000 in
theorem compactInts (xs : List Int) (hx : xs.length < 4611686018427387904) : Fn Try.prog 125 1 [.own 0 1 0 xs.length] [(0, ⟨3, 1, ints xs⟩)] (.own 0 1 0 (compacted xs).length) 1 [(0, ⟨3, 1, ints (compacted xs)⟩)] := by
  have hcl := compacted_len xs
  unfold Fn
  refine ⟨⟨_, Try.func125, by kernel_rfl, by kernel_rfl⟩, fun W X S Ow L us hR hl hrep => ?_⟩
  obtain ⟨u, rfl⟩ : ∃ u, us = [u] := by
    match us, hl with
    | [u], _ => exact ⟨u, rfl⟩
  have hu := hrep 0 _ u rfl rfl
  have same : xs.length = 0 → (Calls Try.prog 125 [u].toArray W fun e w' => e = Ending.returned u ∧ w' = W) → Calls Try.prog 125 [u].toArray W fun e w' => ∃ v, e = .returned v ∧ ∃ S' Ow' L', RelX ⟨W, X, S, ⟨0, 1⟩, fixOf 1 L⟩ ⟨[], [(0, ⟨3, 1, ints (compacted xs)⟩)], 1⟩ a0 w' S' Ow' L' ∧ Rep w' S' Ow' L' [0] (.own 0 1 0 (compacted xs).length) v := by
    intro h0 hc cs
    obtain ⟨e, w', fr, ⟨rfl, rfl⟩, rest⟩ := hc cs
    have hx0 : xs = [] := List.length_eq_zero_iff.1 h0
    subst hx0
    rw [show compacted [] = [] from rfl]
    exact ⟨_, _, fr, ⟨_, rfl, S, Ow, L, hR, hu⟩, rest⟩
  have hn : ∀ (p : Option Addr) (cap : Nat), Calls Try.prog 125 #[.slice p 0 cap] W fun e w' => e = Ending.returned (.slice p 0 cap) ∧ w' = W := fun p cap => Any.slices_Compact_int_empty compact20 p cap W
  rcases own_inv hu with ⟨b, o, cap, hL, hle, rfl⟩ | ⟨b, o, cap, ad, hL, hoff, hlen, rfl⟩ | ⟨hL, _, hlen, A, rfl⟩ | hL
  · obtain ⟨loc, hl0, hB⟩ := hR.blk 0 _ rfl
    rw [hL] at hl0
    cases hl0
    have hB' := hB
    obtain ⟨hO, cs, us, hc, hs, hle', hrow, hcell, hrep'⟩ := hB'
    simp only [ints_len, Nat.mul_one] at hs hle'
    have hblk : b < W.heap.size := (Array.getElem?_eq_some_iff.1 hc).1
    have hH : Go.Sort.Holds (Value.int .i64) W b o xs.toArray := by
      intro j hj
      have hj' : j < xs.length := by simpa using hj
      have hxj : (ints xs)[j]? = some [.v (.int .i64 xs[j])] := by simp [hj']
      have h1 := hcell j _ 0 _ hxj rfl
      have h2 := hrep' j _ 0 _ hxj rfl
      have h3 : us j 0 = .int .i64 xs[j] := by clear h1; generalize us j 0 = q at h2 ⊢; cases h2; rfl
      simp only [Nat.mul_one, Nat.add_zero] at h1
      refine ⟨?_, ?_⟩
      · simp only [World.cell?, hc, Option.isSome_none, Bool.false_eq_true, if_false, h1, h3]
        simp [hj']
      · simp [World.frozen?, hc]
    have hcall := Any.slices_Compact_int compact20 b o cap xs W hH (by omega) (by omega)
    intro cs'
    obtain ⟨e, w', fr, ⟨he, n, hw⟩, rest⟩ := hcall cs'
    have he' : e = Ending.returned (.slice (some ⟨b, o, none⟩) (compacted xs).length cap) := he
    have hw' : w' = putRow (Value.int .i64) (Go.Sort.ahead W n) b o (compacted xs ++ List.replicate (xs.length - (compacted xs).length) 0).toArray := hw
    clear he hw
    have hlen2 : (compacted xs ++ List.replicate (xs.length - (compacted xs).length) 0).length = xs.length := by rw [List.length_append, List.length_replicate]; omega
    have hpre : ∀ j, j < (compacted xs).length → (compacted xs)[j]? = (compacted xs ++ List.replicate (xs.length - (compacted xs).length) 0)[j]? := fun j hj => (List.getElem?_append_left hj).symm
    generalize compacted xs ++ List.replicate (xs.length - (compacted xs).length) 0 = zs at hw' hlen2 hpre
    generalize compacted xs = ys at he' hpre hcl ⊢
    subst he' hw'
    have h4 := put_rel hR hL hlen2 (by omega) hpre n
    have h5 := Rep.own (w := putRow (Value.int .i64) (Go.Sort.ahead W n) b o zs.toArray) (S := S) (Ow := Ow) (L := L) (p := [0]) 0 1 0 ys.length b o cap hL (by omega)
    simp only [Nat.add_zero, Nat.mul_one, Nat.sub_zero] at h5 ⊢
    exact ⟨_, _, fr, ⟨_, rfl, S, Ow, L, h4, h5⟩, rest⟩
  · exact same (by omega) (by have := hn (some ad) 0; simpa [hlen] using this)
  · exact same (by omega) (by have := hn A 0; simpa [hlen] using this)
  · obtain ⟨loc, hl0, hB⟩ := hR.blk 0 _ rfl
    rw [hL] at hl0
    cases hl0
end Go.Proofs.Ytiabaknmgbpmoaa.En
end
section
namespace Go.Proofs.Ytiabaknmgbpmoaa.En
open Go.RowKit
set_option linter.unusedSimpArgs false
set_option linter.unusedVariables false
def putL : List Int → Int → List Int
  | [], n => [n]
  | x :: xs, n => if x < n then x :: putL xs n else if x = n then x :: xs else n :: x :: xs
theorem putL_mem (n z : Int) : ∀ l : List Int, z ∈ putL l n ↔ z = n ∨ z ∈ l
  | [] => by simp [putL]
  | x :: xs => by
    have ih := putL_mem n z xs
    unfold putL
    split
    · simp only [List.mem_cons, ih]
      constructor
      · rintro (h | h | h) <;> simp [h]
      · rintro (h | h | h) <;> simp [h]
    · split
      · rename_i h; subst h
        simp only [List.mem_cons]
        constructor
        · intro h; exact .inr h
        · rintro (h | h)
          · exact .inl h
          · exact h
      · simp only [List.mem_cons]
theorem putL_incr (n : Int) : ∀ l : List Int, l.Pairwise (· < ·) → (putL l n).Pairwise (· < ·)
  | [], _ => by simp [putL]
  | x :: xs, h => by
    have ih := putL_incr n xs (List.pairwise_cons.1 h).2
    have hx := (List.pairwise_cons.1 h).1
    unfold putL
    split
    · rename_i hl
      refine List.pairwise_cons.2 ⟨fun z hz => ?_, ih⟩
      rcases (putL_mem n z xs).1 hz with e | e
      · omega
      · exact hx z e
    · split
      · exact h
      · rename_i h1 h2
        refine List.pairwise_cons.2 ⟨fun z hz => ?_, h⟩
        rcases List.mem_cons.1 hz with e | e
        · omega
        · have := hx z e; omega
theorem incr_ext : ∀ {a b : List Int}, a.Pairwise (· < ·) → b.Pairwise (· < ·) → (∀ z, z ∈ a ↔ z ∈ b) → a = b
  | [], [], _, _, _ => rfl
  | [], y :: b, _, _, h => by have := (h y).2 (by simp); cases this
  | x :: a, [], _, _, h => by have := (h x).1 (by simp); cases this
  | x :: a, y :: b, ha, hb, h => by
    have ha1 := (List.pairwise_cons.1 ha).1
    have hb1 := (List.pairwise_cons.1 hb).1
    have hxy : x = y := by
      rcases List.mem_cons.1 ((h x).1 (by simp)) with e | e
      · exact e
      · have h1 := hb1 x e
        rcases List.mem_cons.1 ((h y).2 (by simp)) with e2 | e2
        · exact e2.symm
        · have h2 := ha1 y e2; omega
    subst hxy
    rw [incr_ext (List.pairwise_cons.1 ha).2 (List.pairwise_cons.1 hb).2 fun z => ?_]
    constructor
    · intro hz
      rcases List.mem_cons.1 ((h z).1 (List.mem_cons_of_mem _ hz)) with e | e
      · have := ha1 z hz; omega
      · exact e
    · intro hz
      rcases List.mem_cons.1 ((h z).2 (List.mem_cons_of_mem _ hz)) with e | e
      · have := hb1 z hz; omega
      · exact e
theorem foldl_put : ∀ (xs l : List Int), l.Pairwise (· < ·) → (xs.foldl putL l).Pairwise (· < ·) ∧ ∀ z, z ∈ xs.foldl putL l ↔ z ∈ l ∨ z ∈ xs
  | [], l, h => ⟨h, fun z => by simp⟩
  | x :: xs, l, h => by
    obtain ⟨h1, h2⟩ := foldl_put xs (putL l x) (putL_incr x l h)
    refine ⟨h1, fun z => ?_⟩
    rw [List.foldl_cons, h2 z, putL_mem, List.mem_cons]
    constructor
    · rintro ((h | h) | h) <;> simp [h]
    · rintro (h | h | h) <;> simp [h]
theorem upTo_incr (d : Array Int) (hd : ∀ i j, i ≤ j → j < d.size → d[i]! ≤ d[j]!) : ∀ m, m ≤ d.size → (Go.Lib.compactUpTo d m).Pairwise (· < ·) ∧ (∀ z, z ∈ Go.Lib.compactUpTo d m ↔ ∃ j, j < m ∧ d[j]! = z)
  | 0, _ => ⟨by simp [Go.Lib.compactUpTo], fun z => by simp [Go.Lib.compactUpTo]⟩
  | m + 1, hm => by
    obtain ⟨h1, h2⟩ := upTo_incr d hd m (by omega)
    rw [Go.Lib.compactUpTo_succ]
    by_cases hk : Go.Lib.keeps d m = true
    · rw [if_pos hk]
      refine ⟨List.pairwise_append.2 ⟨h1, by simp, fun z hz y hy => ?_⟩, fun z => ?_⟩
      · obtain ⟨j, hj, rfl⟩ := (h2 z).1 hz
        simp only [List.mem_singleton] at hy
        subst hy
        have hne : d[m]! ≠ d[m - 1]! := by
          simp only [Go.Lib.keeps, decide_eq_true_eq] at hk
          rcases hk with e | e
          · omega
          · exact e
        have a1 := hd j (m - 1) (by omega) (by omega)
        have a2 := hd (m - 1) m (by omega) (by omega)
        omega
      · rw [List.mem_append, h2 z, List.mem_singleton]
        constructor
        · rintro (⟨j, hj, e⟩ | e)
          · exact ⟨j, by omega, e⟩
          · exact ⟨m, by omega, e.symm⟩
        · rintro ⟨j, hj, e⟩
          by_cases hjm : j = m
          · subst hjm; exact .inr e.symm
          · exact .inl ⟨j, by omega, e⟩
    · rw [if_neg hk, List.append_nil]
      refine ⟨h1, fun z => ?_⟩
      rw [h2 z]
      have hme : m ≠ 0 ∧ d[m]! = d[m - 1]! := by
        simp only [Go.Lib.keeps, decide_eq_true_eq] at hk
        refine ⟨fun e => hk (.inl e), ?_⟩
        by_cases e : d[m]! = d[m - 1]!
        · exact e
        · exact absurd (.inr e) hk
      constructor
      · rintro ⟨j, hj, e⟩
        exact ⟨j, by omega, e⟩
      · rintro ⟨j, hj, e⟩
        by_cases hjm : j = m
        · subst hjm; exact ⟨j - 1, by omega, by rw [← hme.2, e]⟩
        · exact ⟨j, by omega, e⟩
theorem bangI (l : List Int) (i : Nat) (h : i < l.length) : l.toArray[i]! = l[i] := by
  rw [getElem!_pos _ i (by simpa using h)]; simp
theorem sorted_le (xs : List Int) (i j : Nat) (hij : i ≤ j) (hj : j < (sorted xs).toArray.size) : (sorted xs).toArray[i]! ≤ (sorted xs).toArray[j]! := by
  have hp : (sorted xs).Pairwise (fun a b => decide (a ≤ b) = true) := List.pairwise_mergeSort (fun a b c h1 h2 => by simp at *; omega) (fun a b => by simp; omega) xs
  have hj' : j < (sorted xs).length := by simpa using hj
  have hi' : i < (sorted xs).length := by omega
  have e1 : (sorted xs).toArray[i]! = (sorted xs)[i] := bangI _ _ hi'
  have e2 : (sorted xs).toArray[j]! = (sorted xs)[j] := bangI _ _ hj'
  rw [e1, e2]
  by_cases h : i = j
  · subst h; omega
  · have := List.pairwise_iff_getElem.1 hp i j hi' hj' (by omega)
    simpa using this
theorem compacted_sorted (xs : List Int) : compacted (sorted xs) = xs.foldl putL [] := by
  obtain ⟨h1, h2⟩ := upTo_incr (sorted xs).toArray (sorted_le xs) (sorted xs).length (by simp)
  obtain ⟨h3, h4⟩ := foldl_put xs [] List.Pairwise.nil
  refine incr_ext h1 h3 fun z => ?_
  rw [h4 z]
  refine (h2 z).trans ?_
  have hm : z ∈ sorted xs ↔ z ∈ xs := by simp [sorted, List.mem_mergeSort]
  constructor
  · rintro ⟨j, hj, e⟩
    refine .inr (hm.1 ?_)
    have : (sorted xs).toArray[j]! = (sorted xs)[j] := bangI _ _ hj
    rw [← e, this]
    exact List.getElem_mem hj
  · rintro (h | h)
    · cases h
    · obtain ⟨j, hj, e⟩ := List.mem_iff_getElem.1 (hm.2 h)
      exact ⟨j, hj, by rw [← e]; exact bangI _ _ hj⟩
end Go.Proofs.Ytiabaknmgbpmoaa.En
end
section
namespace Go.Proofs.Ytiabaknmgbpmoaa.En
open Go.RowKit
set_option linter.unusedSimpArgs false
set_option linter.unusedVariables false
set_option maxHeartbeats 8000000
theorem putL_split (n : Int) : ∀ (l : List Int) (k : Nat), k ≤ l.length → (∀ j, j < k → ∀ x, l[j]? = some x → x < n) → putL l n = l.take k ++ putL (l.drop k) n
  | l, 0, _, _ => by simp
  | [], k + 1, h, _ => by simp at h
  | x :: xs, k + 1, h, hp => by
    have hx : x < n := hp 0 (by omega) x (by simp)
    have ih := putL_split n xs k (by simpa using h) (fun j hj y hy => hp (j + 1) (by omega) y (by simpa using hy))
    rw [List.take_succ_cons, List.drop_succ_cons, putL, if_pos hx, ih]; rfl
theorem ints_all (l : List Int) (P : List AV → Prop) : (∀ x, x ∈ ints l → P x) ↔ ∀ n, n ∈ l → P [.v (.int .i64 n)] := by simp [ints]
theorem l1Put (l : List Int) (n : Int) (hl : l.length ≤ 4000000) : Pure Try.prog 96 [.im 1 (ints l), .v (.int .i64 n)] (.im 1 (ints (putL l n))) := by
  refine Pure.mk (rs := [.tmp 4]) (nt := 48) Try.func96 (by kernel_rfl) rfl rfl rfl (by simp) ?_
  simp only [sl]
  repeat' first
    | (refine Holds.condT ?_ ?_; (· (simp [go_sem, List.take_of_length_le] <;> with_reducible rfl)))
    | (refine Holds.condF ?_ ?_; (· (simp [go_sem, List.take_of_length_le] <;> with_reducible rfl)))
    | refine Holds.seq ?_
    | refine Holds.skip ?_
    | refine Holds.exit ?_
    | refine Holds.ret ?_
    | refine thenA_normal ?_
    | refine thenA_exit ?_
    | refine thenA_ret ?_
    | refine inB_normal ?_
    | refine inB_ret ?_
    | refine inB_here ?_
    | (refine inB_past ?_ ?_; (· exact rfl))
    | refine Holds.reg ?_
    | refine Holds.block ?_
    | refine GS.nil ?_
    | (refine GS.step (s' := ?_) ?_ ?_ ?_; rotate_left; (· exact rfl); (· (simp [go_sem, List.take_of_length_le] <;> with_reducible rfl)))
    | (refine GS.skip ?_ ?_ ?_; (· exact rfl); (· exact rfl))
    | fail
  refine Holds.loop (ι := Nat) (fun k => ⟨[(0, .im 1 (ints l)), (1, .v (.int .i64 n)), (5, .v (.int .i64 k))], [], 0⟩) (fun k => k ≤ l.length ∧ ∀ j, j < k → ∀ x, l[j]? = some x → x < n) (fun k => l.length - k) 0 ⟨Nat.zero_le _, fun j hj => absurd hj (Nat.not_lt_zero j)⟩ ?_ ?_
  · exact Cov.ofn (id) rfl (by simp [go_sem, List.take_of_length_le, ren, ren1, ren2, okr, okr1, okr2, ChkT, ChkN, BlkN, nf]) (by simp [go_sem, List.take_of_length_le, ren, ren1, ren2, okr, okr1, okr2, ChkT, ChkN, BlkN, nf])
  rintro k ⟨hk, hall⟩
  have stepk : wr64 ((k : Int) + 1) = ((k + 1 : Nat) : Int) := wr64_id (by omega) (by omega)
  have hsp := putL_split n l k hk hall
  have htk : (ints l).take k = ints (l.take k) := by simp [ints, List.map_take]
  have hdk : (ints l).drop k = ints (l.drop k) := by simp [ints, List.map_drop]
  have hi00 : (List.length l - k) = (l.drop k).length := by simp
  by_cases hlt : k < l.length
  · have hxi : l[k]? = some l[k] := List.getElem?_eq_getElem hlt
    have hdr : l.drop k = l[k] :: l.drop (k + 1) := List.drop_eq_getElem_cons hlt
    by_cases hx : l[k] < n
    · repeat' first
        | (refine Holds.condT ?_ ?_; (· (simp [go_sem, List.take_of_length_le, hlt, hx] <;> with_reducible rfl)))
        | (refine Holds.condF ?_ ?_; (· (simp [go_sem, List.take_of_length_le, hlt, hx] <;> with_reducible rfl)))
        | refine Holds.seq ?_
        | refine Holds.skip ?_
        | refine Holds.exit ?_
        | refine Holds.ret ?_
        | refine thenA_normal ?_
        | refine thenA_exit ?_
        | refine thenA_ret ?_
        | refine inB_normal ?_
        | refine inB_ret ?_
        | refine inB_here ?_
        | (refine inB_past ?_ ?_; (· exact rfl))
        | refine Holds.reg ?_
        | refine Holds.block ?_
        | refine GS.nil ?_
        | (refine GS.step (s' := ?_) ?_ ?_ ?_; rotate_left; (· exact rfl); (· (simp [go_sem, List.take_of_length_le, hlt, hx] <;> with_reducible rfl)))
        | (refine GS.skip ?_ ?_ ?_; (· exact rfl); (· exact rfl))
        | fail
      refine ⟨k + 1, ⟨by omega, fun j hj y hy => ?_⟩, by omega, ?_⟩
      · by_cases e : j = k
        · subst e; rw [hxi] at hy; cases hy; exact hx
        · exact hall j (by omega) y hy
      rw [stepk]
      exact Cov.ofn (id) rfl (by simp [go_sem, List.take_of_length_le, ren, ren1, ren2, okr, okr1, okr2, ChkT, ChkN, BlkN, nf]) (by simp [go_sem, List.take_of_length_le, ren, ren1, ren2, okr, okr1, okr2, ChkT, ChkN, BlkN, nf])
    · by_cases he : l[k] = n
      · have hv : putL l n = l := by
          rw [hsp, hdr, putL, if_neg hx, if_pos he, ← hdr, List.take_append_drop]
        have he' : (l[k] == n) = true := by simp [he]
        rw [hv]
        repeat' first
          | (refine Holds.condT ?_ ?_; (· (simp [go_sem, List.take_of_length_le, hlt, hx, he'] <;> with_reducible rfl)))
          | (refine Holds.condF ?_ ?_; (· (simp [go_sem, List.take_of_length_le, hlt, hx, he'] <;> with_reducible rfl)))
          | refine Holds.seq ?_
          | refine Holds.skip ?_
          | refine Holds.exit ?_
          | refine Holds.ret ?_
          | refine thenA_normal ?_
          | refine thenA_exit ?_
          | refine thenA_ret ?_
          | refine inB_normal ?_
          | refine inB_ret ?_
          | refine inB_here ?_
          | (refine inB_past ?_ ?_; (· exact rfl))
          | refine Holds.reg ?_
          | refine Holds.block ?_
          | refine GS.nil ?_
          | (refine GS.step (s' := ?_) ?_ ?_ ?_; rotate_left; (· exact rfl); (· (simp [go_sem, List.take_of_length_le, hlt, hx, he'] <;> with_reducible rfl)))
          | (refine GS.skip ?_ ?_ ?_; (· exact rfl); (· exact rfl))
          | fail
        refine Out.mk (xs := ?_) ?_ ?_ (by first | exact .inr rfl | exact .inl rfl)
        rotate_left
        · simp [go_sem, List.take_of_length_le] <;> with_reducible rfl
        exact .im _ _
      · have hv : ints (putL l n) = ints (l.take k) ++ [.v (.int .i64 n)] :: ints (l.drop k) := by
          rw [hsp, hdr, putL, if_neg hx, if_neg he]; simp [ints]
        have he' : (l[k] == n) = false := by simp [he]
        have hm : min k l.length = k := Nat.min_eq_left hk
        have hb1 : k * 8 ≤ 140737488355328 := by omega
        have hb2 : (k + 1) * 8 ≤ 140737488355328 := by omega
        have hb3 : (k + 1 + (l.length - k)) * 8 ≤ 140737488355328 := by omega
        rw [hv]
        repeat' first
          | (refine Holds.condT ?_ ?_; (· (simp [go_sem, List.take_of_length_le, hlt, hx, he', htk, hdk, hk, hm, hb1, hb2, hb3, ints_all] <;> with_reducible rfl)))
          | (refine Holds.condF ?_ ?_; (· (simp [go_sem, List.take_of_length_le, hlt, hx, he', htk, hdk, hk, hm, hb1, hb2, hb3, ints_all] <;> with_reducible rfl)))
          | refine Holds.seq ?_
          | refine Holds.skip ?_
          | refine Holds.exit ?_
          | refine Holds.ret ?_
          | refine thenA_normal ?_
          | refine thenA_exit ?_
          | refine thenA_ret ?_
          | refine inB_normal ?_
          | refine inB_ret ?_
          | refine inB_here ?_
          | (refine inB_past ?_ ?_; (· exact rfl))
          | refine Holds.reg ?_
          | refine Holds.block ?_
          | refine GS.nil ?_
          | (refine GS.step (s' := ?_) ?_ ?_ ?_; rotate_left; (· exact rfl); (· (simp [go_sem, List.take_of_length_le, hlt, hx, he', htk, hdk, hk, hm, hb1, hb2, hb3, ints_all] <;> with_reducible rfl)))
          | (refine GS.skip ?_ ?_ ?_; (· exact rfl); (· exact rfl))
          | fail
        refine Out.mk (xs := ?_) ?_ ?_ (by first | exact .inr rfl | exact .inl rfl)
        rotate_left
        · simp [go_sem, List.take_of_length_le] <;> with_reducible rfl
        exact Fz.all rfl rfl (by simp; omega) rfl (by rw [← hv]; exact ints_cl _)
  · have hke : k = l.length := by omega
    subst hke
    have hv : ints (putL l n) = ints l ++ [[.v (.int .i64 n)]] := by
      rw [hsp, List.take_length, List.drop_length]; simp [ints, putL]
    have hb1 : l.length * 8 ≤ 140737488355328 := by omega
    have hb2 : (l.length + 1) * 8 ≤ 140737488355328 := by omega
    have hnl : ¬ l.length < l.length := by omega
    rw [List.take_length] at htk
    rw [List.drop_length] at hdk
    rw [hv]
    repeat' first
      | (refine Holds.condT ?_ ?_; (· (simp [go_sem, List.take_of_length_le, hnl, htk, hdk, hb1, hb2, ints_all] <;> with_reducible rfl)))
      | (refine Holds.condF ?_ ?_; (· (simp [go_sem, List.take_of_length_le, hnl, htk, hdk, hb1, hb2, ints_all] <;> with_reducible rfl)))
      | refine Holds.seq ?_
      | refine Holds.skip ?_
      | refine Holds.exit ?_
      | refine Holds.ret ?_
      | refine thenA_normal ?_
      | refine thenA_exit ?_
      | refine thenA_ret ?_
      | refine inB_normal ?_
      | refine inB_ret ?_
      | refine inB_here ?_
      | (refine inB_past ?_ ?_; (· exact rfl))
      | refine Holds.reg ?_
      | refine Holds.block ?_
      | refine GS.nil ?_
      | (refine GS.step (s' := ?_) ?_ ?_ ?_; rotate_left; (· exact rfl); (· (simp [go_sem, List.take_of_length_le, hnl, htk, hdk, hb1, hb2, ints_all] <;> with_reducible rfl)))
      | (refine GS.skip ?_ ?_ ?_; (· exact rfl); (· exact rfl))
      | fail
    refine Out.mk (xs := ?_) ?_ ?_ (by first | exact .inr rfl | exact .inl rfl)
    rotate_left
    · simp [go_sem, List.take_of_length_le] <;> with_reducible rfl
    exact Fz.all rfl rfl (by simp) rfl (by rw [← hv]; exact ints_cl _)
end Go.Proofs.Ytiabaknmgbpmoaa.En
end
section
namespace Go.Proofs.Ytiabaknmgbpmoaa.En
open Go.RowKit
set_option linter.unusedSimpArgs false
set_option linter.unusedVariables false
set_option maxHeartbeats 8000000
def takesA (set : List Int) (t : Int) (a : List Int) : Bool := a.getD 1 0 == t && decide (a.getD 0 0 ∈ set)
def addsA (set : List Int) (t : Int) (ar : List (List Int)) : List Int := (ar.filter (takesA set t)).map fun a => a.getD 2 0
def nextL (m : MachineT) (set : List Int) (t : Int) : List Int := (addsA set t m.2.2.1).foldl putL []
theorem adds_snoc (set : List Int) (t : Int) {arr : List (List Int)} {i : Nat} {a : List Int} (h : arr[i]? = some a) : addsA set t (arr.take (i + 1)) = addsA set t (arr.take i) ++ if takesA set t a then [a.getD 2 0] else [] := by
  rw [addsA, addsA, List.take_add_one, h, Option.toList_some, List.filter_append, List.map_append]
  cases hh : takesA set t a <;> simp [hh]
theorem adds_len (set : List Int) (t : Int) (arr : List (List Int)) : (addsA set t arr).length ≤ arr.length := by
  rw [addsA, List.length_map]; exact List.length_filter_le _ _
theorem putL_len (n : Int) : ∀ l : List Int, (putL l n).length ≤ l.length + 1
  | [] => by simp [putL]
  | x :: xs => by
    have := putL_len n xs
    unfold putL
    split
    · simp only [List.length_cons]; omega
    · split <;> simp only [List.length_cons] <;> omega
theorem foldl_len : ∀ (xs l : List Int), (xs.foldl putL l).length ≤ l.length + xs.length
  | [], l => by simp
  | x :: xs, l => by
    have h1 := foldl_len xs (putL l x)
    have h2 := putL_len x l
    simp only [List.foldl_cons, List.length_cons]; omega
theorem l16Next (m : MachineT) (hg : goodM m = true) (hx : m.2.2.1.length ≤ 1048576) (set : List Int) (t : Int) (hs : set.length ≤ 4000000) : Pure Try.prog 108 [.ag (machineC m), .im 1 (ints set), .v (.int .i64 t)] (.im 1 (ints (nextL m set t))) := by
  refine Pure.mk (rs := [.tmp 6]) (nt := 36) Try.func108 (by kernel_rfl) rfl rfl rfl (by simp) ?_
  simp only [sl, machineC]
  repeat' first
    | (refine Holds.condT ?_ ?_; (· (simp [go_sem, List.take_of_length_le] <;> with_reducible rfl)))
    | (refine Holds.condF ?_ ?_; (· (simp [go_sem, List.take_of_length_le] <;> with_reducible rfl)))
    | refine Holds.seq ?_
    | refine Holds.skip ?_
    | refine Holds.exit ?_
    | refine Holds.ret ?_
    | refine thenA_normal ?_
    | refine thenA_exit ?_
    | refine thenA_ret ?_
    | refine inB_normal ?_
    | refine inB_ret ?_
    | refine inB_here ?_
    | (refine inB_past ?_ ?_; (· exact rfl))
    | refine Holds.reg ?_
    | refine Holds.block ?_
    | refine GS.nil ?_
    | (refine GS.step (s' := ?_) ?_ ?_ ?_; rotate_left; (· exact rfl); (· (simp [go_sem, List.take_of_length_le] <;> with_reducible rfl)))
    | (refine GS.skip ?_ ?_ ?_; (· exact rfl); (· exact rfl))
    | fail
  refine Holds.niw 7 3 1 rfl ?_
  refine Holds.frz [1] [(7, .im 1 (ints []))] (.cons rfl (Fz.all rfl rfl rfl rfl (ints_cl [])) .nil) ?_
  refine Holds.loop (ι := Nat × List Int) (fun i => ⟨[(1, .im 1 (ints set)), (2, .v (.int .i64 t)), (3, .pb 0 4 0 0), (7, .im 1 (ints i.2)), (11, .im 1 (intss m.2.2.1)), (12, .v (.int .i64 m.2.2.1.length)), (13, .v (.int .i64 i.1))], [(0, ⟨61, 4, [machineC m]⟩)], 1⟩)
    (fun i => i.1 ≤ m.2.2.1.length ∧ i.2 = (addsA set t (m.2.2.1.take i.1)).foldl putL []) (fun i => m.2.2.1.length - i.1) (0, []) ⟨Nat.zero_le _, rfl⟩ ?_ ?_
  · exact Cov.ofn (id) rfl (by simp [go_sem, List.take_of_length_le, ren, ren1, ren2, okr, okr1, okr2, ChkT, ChkN, BlkN, nf, niw, frz, machineC]) (by simp [go_sem, List.take_of_length_le, ren, ren1, ren2, okr, okr1, okr2, ChkT, ChkN, BlkN, nf, niw, frz, machineC])
  rintro ⟨i, L⟩ ⟨hi, hL⟩
  dsimp only at hi hL ⊢
  have stepi : wr64 ((i : Int) + 1) = ((i + 1 : Nat) : Int) := wr64_id (by omega) (by omega)
  have hll : L.length ≤ i := by
    have h1 := foldl_len (addsA set t (m.2.2.1.take i)) []
    have h2 := adds_len set t (m.2.2.1.take i)
    rw [List.length_take] at h2
    rw [hL]; simp only [List.length_nil] at h1; omega
  repeat' first
    | (refine Holds.condT ?_ ?_; (· (simp [go_sem, List.take_of_length_le] <;> with_reducible rfl)))
    | (refine Holds.condF ?_ ?_; (· (simp [go_sem, List.take_of_length_le] <;> with_reducible rfl)))
    | refine Holds.seq ?_
    | refine Holds.skip ?_
    | refine Holds.exit ?_
    | refine Holds.ret ?_
    | refine thenA_normal ?_
    | refine thenA_exit ?_
    | refine thenA_ret ?_
    | refine inB_normal ?_
    | refine inB_ret ?_
    | refine inB_here ?_
    | (refine inB_past ?_ ?_; (· exact rfl))
    | refine Holds.reg ?_
    | refine Holds.block ?_
    | refine GS.nil ?_
    | (refine GS.step (s' := ?_) ?_ ?_ ?_; rotate_left; (· exact rfl); (· (simp [go_sem, List.take_of_length_le] <;> with_reducible rfl)))
    | (refine GS.skip ?_ ?_ ?_; (· exact rfl); (· exact rfl))
    | fail
  refine Holds.cond rfl (fun h => ?_) (fun h => ?_)
  · have hlt : i < m.2.2.1.length := by simp at h; omega
    have hxi : m.2.2.1[i]? = some m.2.2.1[i] := List.getElem?_eq_getElem hlt
    obtain ⟨x, y, z, hr, hy0, hy3⟩ := good_arrow hg hlt
    rw [hr] at hxi
    have hsn := adds_snoc set t hxi
    have hta : takesA set t [x, y, z] = (y == t && decide (x ∈ set)) := rfl
    rw [hta] at hsn
    have ch := l1Has set x (by omega)
    have cp := l1Put L z (by omega)
    rw [hasN_dec] at ch
    by_cases hyt : y = t
    · have hyt' : (y == t) = true := by simp [hyt]
      repeat' first
        | (refine Holds.condT ?_ ?_; (· (simp [go_sem, List.take_of_length_le, hxi, intsC, hyt'] <;> with_reducible rfl)))
        | (refine Holds.condF ?_ ?_; (· (simp [go_sem, List.take_of_length_le, hxi, intsC, hyt'] <;> with_reducible rfl)))
        | refine Holds.seq ?_
        | refine Holds.skip ?_
        | refine Holds.exit ?_
        | refine Holds.ret ?_
        | refine thenA_normal ?_
        | refine thenA_exit ?_
        | refine thenA_ret ?_
        | refine inB_normal ?_
        | refine inB_ret ?_
        | refine inB_here ?_
        | (refine inB_past ?_ ?_; (· exact rfl))
        | refine Holds.reg ?_
        | refine Holds.block ?_
        | refine GS.nil ?_
        | (refine GS.step (s' := ?_) ?_ ?_ ?_; rotate_left; (· exact rfl); (· (simp [go_sem, List.take_of_length_le, hxi, intsC, hyt'] <;> with_reducible rfl)))
        | (refine GS.skip ?_ ?_ ?_; (· exact rfl); (· exact rfl))
        | fail
      refine GS.cc (ch) rfl rfl rfl rfl (by simp [go_sem, List.take_of_length_le] <;> with_reducible rfl) rfl (by simp [go_sem, List.take_of_length_le]) ?_
      rw [hyt', Bool.true_and] at hsn
      cases hm : decide (x ∈ set) with
      | true =>
        rw [hm, if_pos rfl] at hsn
        repeat' first
          | (refine Holds.condT ?_ ?_; (· (simp [go_sem, List.take_of_length_le, hxi, intsC] <;> with_reducible rfl)))
          | (refine Holds.condF ?_ ?_; (· (simp [go_sem, List.take_of_length_le, hxi, intsC] <;> with_reducible rfl)))
          | refine Holds.seq ?_
          | refine Holds.skip ?_
          | refine Holds.exit ?_
          | refine Holds.ret ?_
          | refine thenA_normal ?_
          | refine thenA_exit ?_
          | refine thenA_ret ?_
          | refine inB_normal ?_
          | refine inB_ret ?_
          | refine inB_here ?_
          | (refine inB_past ?_ ?_; (· exact rfl))
          | refine Holds.reg ?_
          | refine Holds.block ?_
          | refine GS.nil ?_
          | (refine GS.step (s' := ?_) ?_ ?_ ?_; rotate_left; (· exact rfl); (· (simp [go_sem, List.take_of_length_le, hxi, intsC] <;> with_reducible rfl)))
          | (refine GS.skip ?_ ?_ ?_; (· exact rfl); (· exact rfl))
          | fail
        refine GS.cc (cp) rfl rfl rfl rfl (by simp [go_sem, List.take_of_length_le] <;> with_reducible rfl) rfl (by simp [go_sem, List.take_of_length_le]) ?_
        repeat' first
          | (refine Holds.condT ?_ ?_; (· (simp [go_sem, List.take_of_length_le] <;> with_reducible rfl)))
          | (refine Holds.condF ?_ ?_; (· (simp [go_sem, List.take_of_length_le] <;> with_reducible rfl)))
          | refine Holds.seq ?_
          | refine Holds.skip ?_
          | refine Holds.exit ?_
          | refine Holds.ret ?_
          | refine thenA_normal ?_
          | refine thenA_exit ?_
          | refine thenA_ret ?_
          | refine inB_normal ?_
          | refine inB_ret ?_
          | refine inB_here ?_
          | (refine inB_past ?_ ?_; (· exact rfl))
          | refine Holds.reg ?_
          | refine Holds.block ?_
          | refine GS.nil ?_
          | (refine GS.step (s' := ?_) ?_ ?_ ?_; rotate_left; (· exact rfl); (· (simp [go_sem, List.take_of_length_le] <;> with_reducible rfl)))
          | (refine GS.skip ?_ ?_ ?_; (· exact rfl); (· exact rfl))
          | fail
        refine ⟨(i + 1, putL L z), ⟨by dsimp only; omega, by dsimp only; rw [hsn, List.foldl_append, ← hL]; rfl⟩, by dsimp only; omega, ?_⟩
        rw [stepi]
        exact Cov.ofn (id) rfl (by simp [go_sem, List.take_of_length_le, ren, ren1, ren2, okr, okr1, okr2, ChkT, ChkN, BlkN, nf, machineC]) (by simp [go_sem, List.take_of_length_le, ren, ren1, ren2, okr, okr1, okr2, ChkT, ChkN, BlkN, nf, machineC])
      | false =>
        rw [hm] at hsn
        repeat' first
          | (refine Holds.condT ?_ ?_; (· (simp [go_sem, List.take_of_length_le, hxi, intsC] <;> with_reducible rfl)))
          | (refine Holds.condF ?_ ?_; (· (simp [go_sem, List.take_of_length_le, hxi, intsC] <;> with_reducible rfl)))
          | refine Holds.seq ?_
          | refine Holds.skip ?_
          | refine Holds.exit ?_
          | refine Holds.ret ?_
          | refine thenA_normal ?_
          | refine thenA_exit ?_
          | refine thenA_ret ?_
          | refine inB_normal ?_
          | refine inB_ret ?_
          | refine inB_here ?_
          | (refine inB_past ?_ ?_; (· exact rfl))
          | refine Holds.reg ?_
          | refine Holds.block ?_
          | refine GS.nil ?_
          | (refine GS.step (s' := ?_) ?_ ?_ ?_; rotate_left; (· exact rfl); (· (simp [go_sem, List.take_of_length_le, hxi, intsC] <;> with_reducible rfl)))
          | (refine GS.skip ?_ ?_ ?_; (· exact rfl); (· exact rfl))
          | fail
        refine ⟨(i + 1, L), ⟨by dsimp only; omega, by dsimp only; rw [hsn]; simpa using hL⟩, by dsimp only; omega, ?_⟩
        rw [stepi]
        exact Cov.ofn (id) rfl (by simp [go_sem, List.take_of_length_le, ren, ren1, ren2, okr, okr1, okr2, ChkT, ChkN, BlkN, nf, machineC]) (by simp [go_sem, List.take_of_length_le, ren, ren1, ren2, okr, okr1, okr2, ChkT, ChkN, BlkN, nf, machineC])
    · have hyt' : (y == t) = false := by simp [hyt]
      rw [hyt', Bool.false_and] at hsn
      repeat' first
        | (refine Holds.condT ?_ ?_; (· (simp [go_sem, List.take_of_length_le, hxi, intsC, hyt'] <;> with_reducible rfl)))
        | (refine Holds.condF ?_ ?_; (· (simp [go_sem, List.take_of_length_le, hxi, intsC, hyt'] <;> with_reducible rfl)))
        | refine Holds.seq ?_
        | refine Holds.skip ?_
        | refine Holds.exit ?_
        | refine Holds.ret ?_
        | refine thenA_normal ?_
        | refine thenA_exit ?_
        | refine thenA_ret ?_
        | refine inB_normal ?_
        | refine inB_ret ?_
        | refine inB_here ?_
        | (refine inB_past ?_ ?_; (· exact rfl))
        | refine Holds.reg ?_
        | refine Holds.block ?_
        | refine GS.nil ?_
        | (refine GS.step (s' := ?_) ?_ ?_ ?_; rotate_left; (· exact rfl); (· (simp [go_sem, List.take_of_length_le, hxi, intsC, hyt'] <;> with_reducible rfl)))
        | (refine GS.skip ?_ ?_ ?_; (· exact rfl); (· exact rfl))
        | fail
      refine ⟨(i + 1, L), ⟨by dsimp only; omega, by dsimp only; rw [hsn]; simpa using hL⟩, by dsimp only; omega, ?_⟩
      rw [stepi]
      exact Cov.ofn (id) rfl (by simp [go_sem, List.take_of_length_le, ren, ren1, ren2, okr, okr1, okr2, ChkT, ChkN, BlkN, nf, machineC]) (by simp [go_sem, List.take_of_length_le, ren, ren1, ren2, okr, okr1, okr2, ChkT, ChkN, BlkN, nf, machineC])
  · have hle : i = m.2.2.1.length := by simp at h; omega
    subst hle
    rw [List.take_length] at hL
    subst hL
    repeat' first
      | (refine Holds.condT ?_ ?_; (· (simp [go_sem, List.take_of_length_le] <;> with_reducible rfl)))
      | (refine Holds.condF ?_ ?_; (· (simp [go_sem, List.take_of_length_le] <;> with_reducible rfl)))
      | refine Holds.seq ?_
      | refine Holds.skip ?_
      | refine Holds.exit ?_
      | refine Holds.ret ?_
      | refine thenA_normal ?_
      | refine thenA_exit ?_
      | refine thenA_ret ?_
      | refine inB_normal ?_
      | refine inB_ret ?_
      | refine inB_here ?_
      | (refine inB_past ?_ ?_; (· exact rfl))
      | refine Holds.reg ?_
      | refine Holds.block ?_
      | refine GS.nil ?_
      | (refine GS.step (s' := ?_) ?_ ?_ ?_; rotate_left; (· exact rfl); (· (simp [go_sem, List.take_of_length_le] <;> with_reducible rfl)))
      | (refine GS.skip ?_ ?_ ?_; (· exact rfl); (· exact rfl))
      | fail
    refine Out.mk (xs := ?_) ?_ ?_ (by first | exact .inr rfl | exact .inl rfl)
    rotate_left
    · simp [go_sem, List.take_of_length_le] <;> with_reducible rfl
    exact .im _ _
theorem implNext (m : MachineT) (hg : goodM m = true) (hx : m.2.2.1.length ≤ 1048576) (set : List Int) (t : Int) (hs : set.length ≤ 4000000) : Fn Try.prog 111 0 [.ag (machineC m), .im 1 (ints set), .v (.int .i64 t)] [] (.own 0 1 0 (nextL m set t).length) 1 [(0, ⟨3, 1, ints (nextL m set t)⟩)] := by
  refine Fn.mk (rs := [.tmp 6]) (nt := 41) Try.func111 (by kernel_rfl) rfl rfl rfl (by simp) ?_
  simp only [sl, machineC]
  repeat' first
    | (refine Holds.condT ?_ ?_; (· (simp [go_sem, List.take_of_length_le] <;> with_reducible rfl)))
    | (refine Holds.condF ?_ ?_; (· (simp [go_sem, List.take_of_length_le] <;> with_reducible rfl)))
    | refine Holds.seq ?_
    | refine Holds.skip ?_
    | refine Holds.exit ?_
    | refine Holds.ret ?_
    | refine thenA_normal ?_
    | refine thenA_exit ?_
    | refine thenA_ret ?_
    | refine inB_normal ?_
    | refine inB_ret ?_
    | refine inB_here ?_
    | (refine inB_past ?_ ?_; (· exact rfl))
    | refine Holds.reg ?_
    | refine Holds.block ?_
    | refine GS.nil ?_
    | (refine GS.step (s' := ?_) ?_ ?_ ?_; rotate_left; (· exact rfl); (· (simp [go_sem, List.take_of_length_le] <;> with_reducible rfl)))
    | (refine GS.skip ?_ ?_ ?_; (· exact rfl); (· exact rfl))
    | fail
  refine Holds.loop (ι := Nat × List Int) (fun i => ⟨[(1, .im 1 (ints set)), (2, .v (.int .i64 t)), (3, .pb 0 4 0 0), (7, .own 1 1 0 i.2.length), (12, .im 1 (intss m.2.2.1)), (13, .v (.int .i64 m.2.2.1.length)), (14, .v (.int .i64 i.1))], [(1, ⟨3, 1, ints i.2⟩), (0, ⟨61, 4, [machineC m]⟩)], 2⟩)
    (fun i => i.1 ≤ m.2.2.1.length ∧ i.2 = addsA set t (m.2.2.1.take i.1)) (fun i => m.2.2.1.length - i.1) (0, []) ⟨Nat.zero_le _, rfl⟩ ?_ ?_
  · exact Cov.ofn (id) rfl (by simp [go_sem, List.take_of_length_le, ren, ren1, ren2, okr, okr1, okr2, ChkT, ChkN, BlkN, nf, machineC]) (by simp [go_sem, List.take_of_length_le, ren, ren1, ren2, okr, okr1, okr2, ChkT, ChkN, BlkN, nf, machineC])
  rintro ⟨i, L⟩ ⟨hi, hL⟩
  dsimp only at hi hL ⊢
  have stepi : wr64 ((i : Int) + 1) = ((i + 1 : Nat) : Int) := wr64_id (by omega) (by omega)
  have hll : L.length ≤ i := by
    have h2 := adds_len set t (m.2.2.1.take i)
    rw [List.length_take] at h2
    rw [hL]; omega
  repeat' first
    | (refine Holds.condT ?_ ?_; (· (simp [go_sem, List.take_of_length_le] <;> with_reducible rfl)))
    | (refine Holds.condF ?_ ?_; (· (simp [go_sem, List.take_of_length_le] <;> with_reducible rfl)))
    | refine Holds.seq ?_
    | refine Holds.skip ?_
    | refine Holds.exit ?_
    | refine Holds.ret ?_
    | refine thenA_normal ?_
    | refine thenA_exit ?_
    | refine thenA_ret ?_
    | refine inB_normal ?_
    | refine inB_ret ?_
    | refine inB_here ?_
    | (refine inB_past ?_ ?_; (· exact rfl))
    | refine Holds.reg ?_
    | refine Holds.block ?_
    | refine GS.nil ?_
    | (refine GS.step (s' := ?_) ?_ ?_ ?_; rotate_left; (· exact rfl); (· (simp [go_sem, List.take_of_length_le] <;> with_reducible rfl)))
    | (refine GS.skip ?_ ?_ ?_; (· exact rfl); (· exact rfl))
    | fail
  refine Holds.cond rfl (fun h => ?_) (fun h => ?_)
  · have hlt : i < m.2.2.1.length := by simp at h; omega
    have hxi : m.2.2.1[i]? = some m.2.2.1[i] := List.getElem?_eq_getElem hlt
    obtain ⟨x, y, z, hr, hy0, hy3⟩ := good_arrow hg hlt
    rw [hr] at hxi
    have hsn := adds_snoc set t hxi
    have hta : takesA set t [x, y, z] = (y == t && decide (x ∈ set)) := rfl
    rw [hta] at hsn
    have ch := containsInt set x (by omega)
    have hb : (L.length + 1) * 8 ≤ 140737488355328 := by omega
    by_cases hyt : y = t
    · have hyt' : (y == t) = true := by simp [hyt]
      repeat' first
        | (refine Holds.condT ?_ ?_; (· (simp [go_sem, List.take_of_length_le, hxi, intsC, hyt'] <;> with_reducible rfl)))
        | (refine Holds.condF ?_ ?_; (· (simp [go_sem, List.take_of_length_le, hxi, intsC, hyt'] <;> with_reducible rfl)))
        | refine Holds.seq ?_
        | refine Holds.skip ?_
        | refine Holds.exit ?_
        | refine Holds.ret ?_
        | refine thenA_normal ?_
        | refine thenA_exit ?_
        | refine thenA_ret ?_
        | refine inB_normal ?_
        | refine inB_ret ?_
        | refine inB_here ?_
        | (refine inB_past ?_ ?_; (· exact rfl))
        | refine Holds.reg ?_
        | refine Holds.block ?_
        | refine GS.nil ?_
        | (refine GS.step (s' := ?_) ?_ ?_ ?_; rotate_left; (· exact rfl); (· (simp [go_sem, List.take_of_length_le, hxi, intsC, hyt'] <;> with_reducible rfl)))
        | (refine GS.skip ?_ ?_ ?_; (· exact rfl); (· exact rfl))
        | fail
      refine GS.cc (ch) rfl rfl rfl rfl (by simp [go_sem, List.take_of_length_le] <;> with_reducible rfl) rfl (by simp [go_sem, List.take_of_length_le]) ?_
      rw [hyt', Bool.true_and] at hsn
      cases hm : decide (x ∈ set) with
      | true =>
        rw [hm, if_pos rfl] at hsn
        repeat' first
          | (refine Holds.condT ?_ ?_; (· (simp [go_sem, List.take_of_length_le, hxi, intsC, hb] <;> with_reducible rfl)))
          | (refine Holds.condF ?_ ?_; (· (simp [go_sem, List.take_of_length_le, hxi, intsC, hb] <;> with_reducible rfl)))
          | refine Holds.seq ?_
          | refine Holds.skip ?_
          | refine Holds.exit ?_
          | refine Holds.ret ?_
          | refine thenA_normal ?_
          | refine thenA_exit ?_
          | refine thenA_ret ?_
          | refine inB_normal ?_
          | refine inB_ret ?_
          | refine inB_here ?_
          | (refine inB_past ?_ ?_; (· exact rfl))
          | refine Holds.reg ?_
          | refine Holds.block ?_
          | refine GS.nil ?_
          | (refine GS.step (s' := ?_) ?_ ?_ ?_; rotate_left; (· exact rfl); (· (simp [go_sem, List.take_of_length_le, hxi, intsC, hb] <;> with_reducible rfl)))
          | (refine GS.skip ?_ ?_ ?_; (· exact rfl); (· exact rfl))
          | fail
        refine ⟨(i + 1, L ++ [z]), ⟨by dsimp only; omega, by dsimp only; rw [hsn, ← hL]; rfl⟩, by dsimp only; omega, ?_⟩
        rw [stepi]
        exact Cov.ofn (nm [0, 4]) rfl (by simp [go_sem, List.take_of_length_le, ren, ren1, ren2, okr, okr1, okr2, ChkT, ChkN, BlkN, nf, machineC, ints_snoc]) (by simp [go_sem, List.take_of_length_le, ren, ren1, ren2, okr, okr1, okr2, ChkT, ChkN, BlkN, nf, machineC, ints_snoc])
      | false =>
        rw [hm] at hsn
        repeat' first
          | (refine Holds.condT ?_ ?_; (· (simp [go_sem, List.take_of_length_le, hxi, intsC] <;> with_reducible rfl)))
          | (refine Holds.condF ?_ ?_; (· (simp [go_sem, List.take_of_length_le, hxi, intsC] <;> with_reducible rfl)))
          | refine Holds.seq ?_
          | refine Holds.skip ?_
          | refine Holds.exit ?_
          | refine Holds.ret ?_
          | refine thenA_normal ?_
          | refine thenA_exit ?_
          | refine thenA_ret ?_
          | refine inB_normal ?_
          | refine inB_ret ?_
          | refine inB_here ?_
          | (refine inB_past ?_ ?_; (· exact rfl))
          | refine Holds.reg ?_
          | refine Holds.block ?_
          | refine GS.nil ?_
          | (refine GS.step (s' := ?_) ?_ ?_ ?_; rotate_left; (· exact rfl); (· (simp [go_sem, List.take_of_length_le, hxi, intsC] <;> with_reducible rfl)))
          | (refine GS.skip ?_ ?_ ?_; (· exact rfl); (· exact rfl))
          | fail
        refine ⟨(i + 1, L), ⟨by dsimp only; omega, by dsimp only; rw [hsn]; simpa using hL⟩, by dsimp only; omega, ?_⟩
        rw [stepi]
        exact Cov.ofn (id) rfl (by simp [go_sem, List.take_of_length_le, ren, ren1, ren2, okr, okr1, okr2, ChkT, ChkN, BlkN, nf, machineC]) (by simp [go_sem, List.take_of_length_le, ren, ren1, ren2, okr, okr1, okr2, ChkT, ChkN, BlkN, nf, machineC])
    · have hyt' : (y == t) = false := by simp [hyt]
      rw [hyt', Bool.false_and] at hsn
      repeat' first
        | (refine Holds.condT ?_ ?_; (· (simp [go_sem, List.take_of_length_le, hxi, intsC, hyt'] <;> with_reducible rfl)))
        | (refine Holds.condF ?_ ?_; (· (simp [go_sem, List.take_of_length_le, hxi, intsC, hyt'] <;> with_reducible rfl)))
        | refine Holds.seq ?_
        | refine Holds.skip ?_
        | refine Holds.exit ?_
        | refine Holds.ret ?_
        | refine thenA_normal ?_
        | refine thenA_exit ?_
        | refine thenA_ret ?_
        | refine inB_normal ?_
        | refine inB_ret ?_
        | refine inB_here ?_
        | (refine inB_past ?_ ?_; (· exact rfl))
        | refine Holds.reg ?_
        | refine Holds.block ?_
        | refine GS.nil ?_
        | (refine GS.step (s' := ?_) ?_ ?_ ?_; rotate_left; (· exact rfl); (· (simp [go_sem, List.take_of_length_le, hxi, intsC, hyt'] <;> with_reducible rfl)))
        | (refine GS.skip ?_ ?_ ?_; (· exact rfl); (· exact rfl))
        | fail
      refine ⟨(i + 1, L), ⟨by dsimp only; omega, by dsimp only; rw [hsn]; simpa using hL⟩, by dsimp only; omega, ?_⟩
      rw [stepi]
      exact Cov.ofn (id) rfl (by simp [go_sem, List.take_of_length_le, ren, ren1, ren2, okr, okr1, okr2, ChkT, ChkN, BlkN, nf, machineC]) (by simp [go_sem, List.take_of_length_le, ren, ren1, ren2, okr, okr1, okr2, ChkT, ChkN, BlkN, nf, machineC])
  · have hle : i = m.2.2.1.length := by simp at h; omega
    subst hle
    rw [List.take_length] at hL
    have cs := sortInts L (by omega)
    have cc := compactInts (sorted L) (by simp; omega)
    have hv : compacted (sorted L) = nextL m set t := by rw [compacted_sorted, hL]; rfl
    rw [hv] at cc
    simp only [sorted_len] at cc
    repeat' first
      | (refine Holds.condT ?_ ?_; (· (simp [go_sem, List.take_of_length_le] <;> with_reducible rfl)))
      | (refine Holds.condF ?_ ?_; (· (simp [go_sem, List.take_of_length_le] <;> with_reducible rfl)))
      | refine Holds.seq ?_
      | refine Holds.skip ?_
      | refine Holds.exit ?_
      | refine Holds.ret ?_
      | refine thenA_normal ?_
      | refine thenA_exit ?_
      | refine thenA_ret ?_
      | refine inB_normal ?_
      | refine inB_ret ?_
      | refine inB_here ?_
      | (refine inB_past ?_ ?_; (· exact rfl))
      | refine Holds.reg ?_
      | refine Holds.block ?_
      | refine GS.nil ?_
      | (refine GS.step (s' := ?_) ?_ ?_ ?_; rotate_left; (· exact rfl); (· (simp [go_sem, List.take_of_length_le] <;> with_reducible rfl)))
      | (refine GS.skip ?_ ?_ ?_; (· exact rfl); (· exact rfl))
      | fail
    refine GS.fnn [1] (cs) rfl rfl rfl rfl (by simp [go_sem, List.take_of_length_le, ren, ren1, ren2, okr, okr1, okr2, ChkN, BlkN, List.range_succ, nf] <;> with_reducible rfl) (by simp [go_sem, List.take_of_length_le, ren, ren1, ren2, okr, okr1, okr2, ChkN, BlkN, List.range_succ, nf]) (by simp [go_sem, List.take_of_length_le, ren, ren1, ren2, okr, okr1, okr2, ChkN, BlkN, List.range_succ, nf]) (by simp [List.range_succ, lb]) (ChkN.toB (by simp [go_sem, List.take_of_length_le, ren, ren1, ren2, okr, okr1, okr2, ChkN, BlkN, List.range_succ, nf])) (by decide) (by simp) rfl (.nfr (by simp) .nil) (by simp [go_sem, List.take_of_length_le, ren, ren1, ren2, okr, okr1, okr2, ChkN, BlkN, List.range_succ, nf] <;> with_reducible rfl) ?_
    repeat' first
      | (refine Holds.condT ?_ ?_; (· (simp [go_sem, List.take_of_length_le] <;> with_reducible rfl)))
      | (refine Holds.condF ?_ ?_; (· (simp [go_sem, List.take_of_length_le] <;> with_reducible rfl)))
      | refine Holds.seq ?_
      | refine Holds.skip ?_
      | refine Holds.exit ?_
      | refine Holds.ret ?_
      | refine thenA_normal ?_
      | refine thenA_exit ?_
      | refine thenA_ret ?_
      | refine inB_normal ?_
      | refine inB_ret ?_
      | refine inB_here ?_
      | (refine inB_past ?_ ?_; (· exact rfl))
      | refine Holds.reg ?_
      | refine Holds.block ?_
      | refine GS.nil ?_
      | (refine GS.step (s' := ?_) ?_ ?_ ?_; rotate_left; (· exact rfl); (· (simp [go_sem, List.take_of_length_le] <;> with_reducible rfl)))
      | (refine GS.skip ?_ ?_ ?_; (· exact rfl); (· exact rfl))
      | fail
    refine GS.fnn [1] (cc) rfl rfl rfl rfl (by simp [go_sem, List.take_of_length_le, ren, ren1, ren2, okr, okr1, okr2, ChkN, BlkN, List.range_succ, nf] <;> with_reducible rfl) (by simp [go_sem, List.take_of_length_le, ren, ren1, ren2, okr, okr1, okr2, ChkN, BlkN, List.range_succ, nf]) (by simp [go_sem, List.take_of_length_le, ren, ren1, ren2, okr, okr1, okr2, ChkN, BlkN, List.range_succ, nf]) (by simp [List.range_succ, lb]) (ChkN.toB (by simp [go_sem, List.take_of_length_le, ren, ren1, ren2, okr, okr1, okr2, ChkN, BlkN, List.range_succ, nf])) (by decide) (by simp) rfl (.nfr (by simp) .nil) (by simp [go_sem, List.take_of_length_le, ren, ren1, ren2, okr, okr1, okr2, ChkN, BlkN, List.range_succ, nf] <;> with_reducible rfl) ?_
    repeat' first
      | (refine Holds.condT ?_ ?_; (· (simp [go_sem, List.take_of_length_le] <;> with_reducible rfl)))
      | (refine Holds.condF ?_ ?_; (· (simp [go_sem, List.take_of_length_le] <;> with_reducible rfl)))
      | refine Holds.seq ?_
      | refine Holds.skip ?_
      | refine Holds.exit ?_
      | refine Holds.ret ?_
      | refine thenA_normal ?_
      | refine thenA_exit ?_
      | refine thenA_ret ?_
      | refine inB_normal ?_
      | refine inB_ret ?_
      | refine inB_here ?_
      | (refine inB_past ?_ ?_; (· exact rfl))
      | refine Holds.reg ?_
      | refine Holds.block ?_
      | refine GS.nil ?_
      | (refine GS.step (s' := ?_) ?_ ?_ ?_; rotate_left; (· exact rfl); (· (simp [go_sem, List.take_of_length_le] <;> with_reducible rfl)))
      | (refine GS.skip ?_ ?_ ?_; (· exact rfl); (· exact rfl))
      | fail
    refine OutF.mkn (xs := ?_) (nm [1]) ?_ ?_ ?_ ?_ ?_ (by first | exact .inr rfl | exact .inl rfl)
    rotate_left
    · simp [go_sem, List.take_of_length_le] <;> with_reducible rfl
    · simp [go_sem, List.take_of_length_le, ren, ren1, ren2, okr, okr1, okr2, ChkN, BlkN, List.range_succ, nf]
    · simp [go_sem, List.take_of_length_le, ren, ren1, ren2, okr, okr1, okr2, ChkN, BlkN, List.range_succ, nf]
    · simp [go_sem, List.take_of_length_le, ren, ren1, ren2, okr, okr1, okr2, ChkN, BlkN, List.range_succ, nf]
    · rfl
end Go.Proofs.Ytiabaknmgbpmoaa.En
end
section
namespace Go.Proofs.Ytiabaknmgbpmoaa.En
open Go.RowKit
set_option linter.unusedSimpArgs false
set_option linter.unusedVariables false
set_option maxHeartbeats 4000000
def subsL : List Int → List (List Int)
  | [] => [[]]
  | a :: r => subsL r ++ (subsL r).map (a :: ·)
theorem subsL_len : ∀ l, (subsL l).length = 2 ^ l.length
  | [] => rfl
  | a :: r => by simp only [subsL, List.length_append, List.length_map, subsL_len r, List.length_cons, Nat.pow_succ]; omega
theorem subsL_mem : ∀ (L s : List Int), L.Pairwise (· < ·) → s.Pairwise (· < ·) → (∀ x ∈ s, x ∈ L) → s ∈ subsL L
  | [], s, _, _, h => by
    cases s with
    | nil => simp [subsL]
    | cons x s => have := h x (by simp); cases this
  | a :: r, s, hL, hs, h => by
    have ha := (List.pairwise_cons.1 hL).1
    have hr := (List.pairwise_cons.1 hL).2
    simp only [subsL, List.mem_append, List.mem_map]
    cases s with
    | nil => exact .inl (subsL_mem r [] hr (by simp) (fun x hx => by cases hx))
    | cons x s =>
      have hx := (List.pairwise_cons.1 hs).1
      have hs' := (List.pairwise_cons.1 hs).2
      by_cases e : x = a
      · subst e
        refine .inr ⟨s, subsL_mem r s hr hs' (fun y hy => ?_), rfl⟩
        have h1 := hx y hy
        rcases List.mem_cons.1 (h y (by simp [hy])) with e | e
        · omega
        · exact e
      · refine .inl (subsL_mem r (x :: s) hr hs (fun y hy => ?_))
        have hax : a < x := by
          rcases List.mem_cons.1 (h x (by simp)) with e' | e'
          · exact absurd e' e
          · exact ha x e'
        rcases List.mem_cons.1 (h y hy) with e' | e'
        · subst e'
          rcases List.mem_cons.1 hy with e2 | e2
          · omega
          · have := hx y e2; omega
        · exact e'
theorem nodup_le {α : Type} [DecidableEq α] : ∀ (l L : List α), l.Nodup → (∀ x ∈ l, x ∈ L) → l.length ≤ L.length
  | [], _, _, _ => Nat.zero_le _
  | x :: l, L, hn, h => by
    have hx : x ∈ L := h x (by simp)
    have hn' := List.nodup_cons.1 hn
    have := nodup_le l (L.erase x) hn'.2 (fun y hy => (List.mem_erase_of_ne (fun e => by subst e; exact hn'.1 hy)).2 (h y (by simp [hy])))
    rw [List.length_erase_of_mem hx] at this
    have hp : 0 < L.length := List.length_pos_of_mem hx
    simp only [List.length_cons]; omega
def six : List Int := [0, 1, 2, 3, 4, 5]
def okS (s : List Int) : Prop := s.Pairwise (· < ·) ∧ ∀ x ∈ s, x ∈ six
theorem six_incr : six.Pairwise (· < ·) := by decide
theorem mem_six {x : Int} (h0 : 0 ≤ x) (h1 : x ≤ 5) : x ∈ six := by
  have : x = 0 ∨ x = 1 ∨ x = 2 ∨ x = 3 ∨ x = 4 ∨ x = 5 := by omega
  rcases this with rfl | rfl | rfl | rfl | rfl | rfl <;> decide
theorem okS_sub {s : List Int} (h : okS s) : s ∈ subsL six := subsL_mem six s six_incr h.1 h.2
theorem sets_few {sets : List (List Int)} (hn : sets.Nodup) (h : ∀ s ∈ sets, okS s) : sets.length ≤ 64 := by
  have := nodup_le sets (subsL six) hn (fun s hs => okS_sub (h s hs))
  rwa [subsL_len] at this
theorem good_arrow2 {m : MachineT} (h : goodM m = true) {a : List Int} (ha : a ∈ m.2.2.1) : 0 ≤ a.getD 2 0 ∧ a.getD 2 0 ≤ 5 := by
  obtain ⟨i, hi, rfl⟩ := List.mem_iff_getElem.1 ha
  have hB : 1 ≤ m.1 ∧ m.1 ≤ 6 := by
    simp only [goodM, Bool.and_eq_true] at h
    have := h.1.1.1
    simpa [inR] using this
  simp only [goodM, Bool.and_eq_true] at h
  have ha : goodAt m i = true := by
    cases e : goodAt m i with
    | true => rfl
    | false => have := h.2; rw [allB_no hi e] at this; cases this
  have hd : m.2.2.1.getD i [] = m.2.2.1[i] := by simp [hi]
  simp only [goodAt, hd, Bool.and_eq_true, decide_eq_true_eq] at ha
  have hz : 0 ≤ (m.2.2.1[i]).getD 2 0 ∧ (m.2.2.1[i]).getD 2 0 ≤ m.1 - 1 := by simpa [inR] using ha.1.2
  exact ⟨hz.1, by omega⟩
theorem next_ok {m : MachineT} (hg : goodM m = true) (set : List Int) (t : Int) : okS (nextL m set t) := by
  have h := foldl_put (addsA set t m.2.2.1) [] (by simp)
  refine ⟨h.1, fun x hx => ?_⟩
  rcases (h.2 x).1 hx with e | e
  · cases e
  · simp only [addsA, List.mem_map, List.mem_filter] at e
    obtain ⟨a, ⟨ha, _⟩, rfl⟩ := e
    have := good_arrow2 hg ha
    exact mem_six this.1 this.2
theorem okS_len {s : List Int} (h : okS s) : s.length ≤ 6 := nodup_le s six (h.1.imp (fun h e => by omega)) h.2
/-- The place of a set, -1 where it is not there; where it is or comes to lie; the sets with it. -/
def plS (sets : List (List Int)) (s : List Int) : Int := fstP (fun o => decide (o = s)) sets 0
def atS (sets : List (List Int)) (s : List Int) : Int := if plS sets s < 0 then (sets.length : Int) else plS sets s
def addS (sets : List (List Int)) (s : List Int) : List (List Int) := if plS sets s < 0 then sets ++ [s] else sets
theorem plS_no {sets : List (List Int)} {s : List Int} (h : s ∉ sets) : plS sets s = -1 :=
  fstP_no sets 0 fun j x hj => by
    have hx : x ∈ sets := List.mem_of_getElem? hj
    simp only [decide_eq_false_iff_not]; rintro rfl; exact h hx
theorem plS_at {sets : List (List Int)} {s : List Int} (hn : sets.Nodup) {i : Nat} (h : sets[i]? = some s) : plS sets s = (i : Int) := by
  have := fstP_at (p := fun o => decide (o = s)) sets i 0 h (by simp) (fun j hj x hx => by
    simp only [decide_eq_false_iff_not]; rintro rfl
    obtain ⟨h1, e1⟩ := List.getElem?_eq_some_iff.1 h
    obtain ⟨h2, e2⟩ := List.getElem?_eq_some_iff.1 hx
    exact (List.pairwise_iff_getElem.1 hn j i h2 h1 hj) (e2.trans e1.symm))
  rw [plS, this, Nat.zero_add]
theorem plS_cases {sets : List (List Int)} (s : List Int) (hn : sets.Nodup) : (s ∉ sets ∧ plS sets s = -1) ∨ ∃ i, i < sets.length ∧ sets[i]? = some s ∧ plS sets s = (i : Int) := by
  by_cases h : s ∈ sets
  · obtain ⟨i, hi, e⟩ := List.mem_iff_getElem.1 h
    have hi' : sets[i]? = some s := by rw [List.getElem?_eq_getElem hi, e]
    exact .inr ⟨i, hi, hi', plS_at hn hi'⟩
  · exact .inl ⟨h, plS_no h⟩
theorem nodup_snoc {α : Type} {l : List α} {a : α} (h : l.Nodup) (ha : a ∉ l) : (l ++ [a]).Nodup := by
  refine List.pairwise_append.2 ⟨h, by simp, fun x hx y hy => ?_⟩
  rw [List.mem_singleton] at hy; subst hy
  rintro rfl; exact ha hx
structure OkSets (sets : List (List Int)) : Prop where
  nd : sets.Nodup
  ok : ∀ s ∈ sets, okS s
theorem OkSets.few {sets : List (List Int)} (h : OkSets sets) : sets.length ≤ 64 := sets_few h.nd h.ok
theorem OkSets.add {sets : List (List Int)} (h : OkSets sets) {s : List Int} (hs : okS s) : OkSets (addS sets s) := by
  unfold addS
  rcases plS_cases s h.nd with ⟨h1, h2⟩ | ⟨i, hi, h1, h2⟩
  · rw [h2, if_pos (by decide)]
    refine ⟨nodup_snoc h.nd h1, fun x hx => ?_⟩
    rcases List.mem_append.1 hx with e | e
    · exact h.ok x e
    · rw [List.mem_singleton] at e; rw [e]; exact hs
  · rw [h2, if_neg (by omega)]; exact h
theorem addS_get {sets : List (List Int)} {s x : List Int} {i : Nat} (h : sets[i]? = some x) : (addS sets s)[i]? = some x := by
  unfold addS
  split
  · rw [List.getElem?_append_left (List.getElem?_eq_some_iff.1 h).1, h]
  · exact h
theorem addS_len (sets : List (List Int)) (s : List Int) : sets.length ≤ (addS sets s).length := by
  unfold addS; split <;> simp
theorem atS_in {sets : List (List Int)} (s : List Int) (hn : sets.Nodup) : 0 ≤ atS sets s ∧ atS sets s < (addS sets s).length := by
  unfold atS addS
  rcases plS_cases s hn with ⟨h1, h2⟩ | ⟨i, hi, h1, h2⟩
  · simp [h2]; omega
  · rw [h2, if_neg (by omega), if_neg (by omega)]; omega
/-- One token; one row; all rows. -/
def colS (m : MachineT) (cur : List Int) (p : List (List Int) × List Int) (t : Nat) : List (List Int) × List Int := (addS p.1 (nextL m cur t), p.2 ++ [atS p.1 (nextL m cur t)])
def rowS (m : MachineT) (cur : List Int) (sets : List (List Int)) (n : Nat) : List (List Int) × List Int := (List.range n).foldl (colS m cur) (sets, [])
theorem rowS_next (m : MachineT) (cur : List Int) (sets : List (List Int)) (n : Nat) : rowS m cur sets (n + 1) = colS m cur (rowS m cur sets n) n := by
  simp [rowS, List.range_succ]
theorem rowS_ok {m : MachineT} (hg : goodM m = true) (cur : List Int) {sets : List (List Int)} (h : OkSets sets) : ∀ n, OkSets (rowS m cur sets n).1 ∧ (rowS m cur sets n).2.length = n ∧ sets.length ≤ (rowS m cur sets n).1.length ∧
    (∀ (i : Nat) (x : List Int), sets[i]? = some x → (rowS m cur sets n).1[i]? = some x) ∧ ∀ y ∈ (rowS m cur sets n).2, 0 ≤ y ∧ y < (rowS m cur sets n).1.length
  | 0 => ⟨h, rfl, Nat.le_refl _, fun i x hx => hx, fun y hy => by cases hy⟩
  | n + 1 => by
    obtain ⟨h1, h2, h3, h4, h5⟩ := rowS_ok hg cur h n
    rw [rowS_next]
    refine ⟨h1.add (next_ok hg cur n), by simp [colS, h2], Nat.le_trans h3 (addS_len _ _), fun i x hx => addS_get (h4 i x hx), fun y hy => ?_⟩
    have hle := addS_len (rowS m cur sets n).1 (nextL m cur n)
    simp only [colS] at hy ⊢
    rcases List.mem_append.1 hy with e | e
    · have := h5 y e; omega
    · rw [List.mem_singleton] at e; rw [e]; exact atS_in _ h1.nd
def setsF (m : MachineT) : Nat → Nat → List (List Int) → List (List Int) → List (List Int) × List (List Int)
  | 0, _, sets, next => (sets, next)
  | f + 1, k, sets, next => match sets[k]? with
    | none => (sets, next)
    | some cur => setsF m f (k + 1) (rowS m cur sets m.2.1.toNat).1 (next ++ [(rowS m cur sets m.2.1.toNat).2])
def setsM (m : MachineT) : List (List Int) × List (List Int) := setsF m 64 0 [[0]] []
/-- What stands ahead of the row k. -/
structure SetsI (m : MachineT) (k : Nat) (sets next : List (List Int)) : Prop where
  ok : OkSets sets
  le : k ≤ sets.length
  ln : next.length = k
  rows : ∀ r ∈ next, r.length = m.2.1.toNat ∧ ∀ y ∈ r, 0 ≤ y ∧ y < sets.length
  fin : setsF m (64 - k) k sets next = setsM m
theorem SetsI.zero (m : MachineT) : SetsI m 0 [[0]] [] :=
  ⟨⟨by simp, fun s hs => by rw [List.mem_singleton] at hs; subst hs; exact ⟨by simp, fun x hx => by rw [List.mem_singleton] at hx; subst hx; decide⟩⟩, Nat.zero_le _, rfl, fun r hr => (by cases hr), rfl⟩
theorem SetsI.step {m : MachineT} (hg : goodM m = true) {k : Nat} {sets next : List (List Int)} (h : SetsI m k sets next) {cur : List Int} (hc : sets[k]? = some cur) :
    SetsI m (k + 1) (rowS m cur sets m.2.1.toNat).1 (next ++ [(rowS m cur sets m.2.1.toNat).2]) := by
  obtain ⟨h1, h2, h3, h4, h5⟩ := rowS_ok hg cur h.ok m.2.1.toNat
  have hk := (List.getElem?_eq_some_iff.1 hc).1
  have hf := h.ok.few
  refine ⟨h1, by omega, by simp [h.ln], fun r hr => ?_, ?_⟩
  · rcases List.mem_append.1 hr with e | e
    · refine ⟨(h.rows r e).1, fun y hy => ?_⟩
      have := (h.rows r e).2 y hy; omega
    · rw [List.mem_singleton] at e; rw [e]; exact ⟨h2, h5⟩
  · have e := h.fin
    rw [show 64 - k = (64 - (k + 1)) + 1 by omega] at e
    rw [setsF, hc] at e
    exact e
theorem SetsI.end {m : MachineT} {k : Nat} {sets next : List (List Int)} (h : SetsI m k sets next) (hk : sets.length ≤ k) : setsM m = (sets, next) := by
  have e := h.fin
  cases hf : 64 - k with
  | zero => rw [hf, setsF] at e; exact e.symm
  | succ f =>
    rw [hf, setsF, List.getElem?_eq_none_iff.2 hk] at e
    exact e.symm
def setsV (m : MachineT) : List (List Int) × List (List Int) × Bool := if goodM m then ((setsM m).1, (setsM m).2, true) else ([], [], false)
/-- What the result says of itself. -/
structure SetsO (m : MachineT) (sets next : List (List Int)) : Prop where
  ok : OkSets sets
  ln : next.length = sets.length
  rows : ∀ r ∈ next, r.length = m.2.1.toNat ∧ ∀ y ∈ r, 0 ≤ y ∧ y < sets.length
theorem setsM_ok {m : MachineT} (hg : goodM m = true) : SetsO m (setsM m).1 (setsM m).2 := by
  have H : ∀ (f k : Nat) (sets next : List (List Int)), SetsI m k sets next → 64 - k = f → SetsO m (setsM m).1 (setsM m).2 := by
    intro f
    induction f with
    | zero =>
      intro k sets next h hf
      have := h.ok.few
      have hle := h.le
      rw [h.end (by omega)]
      exact ⟨h.ok, by rw [h.ln]; show k = sets.length; omega, h.rows⟩
    | succ f ih =>
      intro k sets next h hf
      cases hc : sets[k]? with
      | none =>
        have hk := List.getElem?_eq_none_iff.1 hc
        have hle := h.le
        rw [h.end hk]
        exact ⟨h.ok, by rw [h.ln]; show k = sets.length; omega, h.rows⟩
      | some cur => exact ih (k + 1) _ _ (h.step hg hc) (by omega)
  exact H 64 0 _ _ (SetsI.zero m) rfl
end Go.Proofs.Ytiabaknmgbpmoaa.En
end
section
namespace Go.Proofs.Ytiabaknmgbpmoaa.En
open Go.RowKit
set_option linter.unusedSimpArgs false
set_option linter.unusedVariables false
set_option maxHeartbeats 8000000
def wordX (toks : Int) (w : List Int) : Bool := decide (w.length ≤ 10) && w.all fun n => inR n 0 (toks - 1)
theorem l1AllX (xs : List Int) (lo top : Int) (hx : xs.length < 4611686018427387904) : Pure Try.prog 78 [.im 1 (ints xs), .v (.int .i64 lo), .v (.int .i64 top)] (.v (.bool (xs.all fun n => inR n lo top))) := by
  refine Pure.mk (rs := [.tmp 6]) (nt := 21) Try.func78 (by kernel_rfl) rfl rfl rfl (by simp) ?_
  simp only [sl]
  repeat' first
    | refine Holds.seq ?_
    | refine Holds.skip ?_
    | refine Holds.exit ?_
    | refine Holds.ret ?_
    | refine thenA_normal ?_
    | refine thenA_exit ?_
    | refine thenA_ret ?_
    | refine inB_normal ?_
    | refine inB_ret ?_
    | refine inB_here ?_
    | (refine inB_past ?_ ?_; (· exact rfl))
    | refine Holds.reg ?_
    | refine Holds.block ?_
    | refine GS.nil ?_
    | (refine GS.step (s' := ?_) ?_ ?_ ?_; rotate_left; (· exact rfl); (· (simp [go_sem, List.take_of_length_le] <;> with_reducible rfl)))
    | (refine GS.skip ?_ ?_ ?_; (· exact rfl); (· exact rfl))
    | fail
  refine Holds.loop (ι := Nat) (fun i => ⟨[(1, .v (.int .i64 lo)), (2, .v (.int .i64 top)), (9, .im 1 (ints xs)), (10, .v (.int .i64 xs.length)), (11, .v (.int .i64 i))], [], 0⟩) (fun i => i ≤ xs.length ∧ (xs.take i).all (fun n => inR n lo top) = true) (fun i => xs.length - i) 0 ⟨Nat.zero_le _, rfl⟩ ?_ ?_
  · exact Cov.ofn (id) rfl (by simp [go_sem, List.take_of_length_le, ren, ren1, ren2, okr, okr1, okr2, ChkT, ChkN, BlkN, nf]) (by simp [go_sem, List.take_of_length_le, ren, ren1, ren2, okr, okr1, okr2, ChkT, ChkN, BlkN, nf])
  rintro i ⟨hi, hall⟩
  repeat' first
    | refine Holds.seq ?_
    | refine Holds.skip ?_
    | refine Holds.exit ?_
    | refine Holds.ret ?_
    | refine thenA_normal ?_
    | refine thenA_exit ?_
    | refine thenA_ret ?_
    | refine inB_normal ?_
    | refine inB_ret ?_
    | refine inB_here ?_
    | (refine inB_past ?_ ?_; (· exact rfl))
    | refine Holds.reg ?_
    | refine Holds.block ?_
    | refine GS.nil ?_
    | (refine GS.step (s' := ?_) ?_ ?_ ?_; rotate_left; (· exact rfl); (· (simp [go_sem, List.take_of_length_le] <;> with_reducible rfl)))
    | (refine GS.skip ?_ ?_ ?_; (· exact rfl); (· exact rfl))
    | fail
  refine Holds.cond rfl (fun hl => ?_) (fun hl => ?_)
  · have hlt : i < xs.length := by simpa using hl
    have hxi : xs[i]? = some xs[i] := List.getElem?_eq_getElem hlt
    repeat' first
      | refine Holds.seq ?_
      | refine Holds.skip ?_
      | refine Holds.exit ?_
      | refine Holds.ret ?_
      | refine thenA_normal ?_
      | refine thenA_exit ?_
      | refine thenA_ret ?_
      | refine inB_normal ?_
      | refine inB_ret ?_
      | refine inB_here ?_
      | (refine inB_past ?_ ?_; (· exact rfl))
      | refine Holds.reg ?_
      | refine Holds.block ?_
      | refine GS.nil ?_
      | (refine GS.step (s' := ?_) ?_ ?_ ?_; rotate_left; (· exact rfl); (· (simp [go_sem, List.take_of_length_le, hxi] <;> with_reducible rfl)))
      | (refine GS.skip ?_ ?_ ?_; (· exact rfl); (· exact rfl))
      | fail
    refine GS.cc (l1In xs[i] lo top) rfl rfl rfl rfl (by simp [go_sem, List.take_of_length_le] <;> with_reducible rfl) rfl (by simp [go_sem, List.take_of_length_le]) ?_
    generalize hg : inR xs[i] lo top = b
    repeat' first
      | refine Holds.seq ?_
      | refine Holds.skip ?_
      | refine Holds.exit ?_
      | refine Holds.ret ?_
      | refine thenA_normal ?_
      | refine thenA_exit ?_
      | refine thenA_ret ?_
      | refine inB_normal ?_
      | refine inB_ret ?_
      | refine inB_here ?_
      | (refine inB_past ?_ ?_; (· exact rfl))
      | refine Holds.reg ?_
      | refine Holds.block ?_
      | refine GS.nil ?_
      | (refine GS.step (s' := ?_) ?_ ?_ ?_; rotate_left; (· exact rfl); (· (simp [go_sem, List.take_of_length_le] <;> with_reducible rfl)))
      | (refine GS.skip ?_ ?_ ?_; (· exact rfl); (· exact rfl))
      | fail
    refine Holds.cond rfl (fun h => ?_) (fun h => ?_)
    · have h : b = false := by simpa using h
      subst h
      rw [all_at hxi hg]
      repeat' first
        | refine Holds.seq ?_
        | refine Holds.skip ?_
        | refine Holds.exit ?_
        | refine Holds.ret ?_
        | refine thenA_normal ?_
        | refine thenA_exit ?_
        | refine thenA_ret ?_
        | refine inB_normal ?_
        | refine inB_ret ?_
        | refine inB_here ?_
        | (refine inB_past ?_ ?_; (· exact rfl))
        | refine Holds.reg ?_
        | refine Holds.block ?_
        | refine GS.nil ?_
        | (refine GS.step (s' := ?_) ?_ ?_ ?_; rotate_left; (· exact rfl); (· (simp [go_sem, List.take_of_length_le] <;> with_reducible rfl)))
        | (refine GS.skip ?_ ?_ ?_; (· exact rfl); (· exact rfl))
        | fail
      refine Out.mk (xs := ?_) ?_ ?_ (by first | exact .inr rfl | exact .inl rfl)
      rotate_left
      · simp [go_sem, List.take_of_length_le] <;> with_reducible rfl
      exact .v _
    · have h : b = true := by simpa using h
      subst h
      repeat' first
        | refine Holds.seq ?_
        | refine Holds.skip ?_
        | refine Holds.exit ?_
        | refine Holds.ret ?_
        | refine thenA_normal ?_
        | refine thenA_exit ?_
        | refine thenA_ret ?_
        | refine inB_normal ?_
        | refine inB_ret ?_
        | refine inB_here ?_
        | (refine inB_past ?_ ?_; (· exact rfl))
        | refine Holds.reg ?_
        | refine Holds.block ?_
        | refine GS.nil ?_
        | (refine GS.step (s' := ?_) ?_ ?_ ?_; rotate_left; (· exact rfl); (· (simp [go_sem, List.take_of_length_le] <;> with_reducible rfl)))
        | (refine GS.skip ?_ ?_ ?_; (· exact rfl); (· exact rfl))
        | fail
      refine ⟨i + 1, ⟨by omega, ?_⟩, by omega, ?_⟩
      · rw [List.take_add_one, hxi, List.all_append, hall]; simp [hg]
      rw [wr64_id (by omega) (by omega)]
      exact Cov.ofn (id) rfl (by simp [go_sem, List.take_of_length_le, ren, ren1, ren2, okr, okr1, okr2, ChkT, ChkN, BlkN, nf]) (by simp [go_sem, List.take_of_length_le, ren, ren1, ren2, okr, okr1, okr2, ChkT, ChkN, BlkN, nf])
  · have hle : i = xs.length := by
      have : ¬ i < xs.length := by simpa using hl
      omega
    subst hle
    rw [List.take_length] at hall
    rw [hall]
    repeat' first
      | refine Holds.seq ?_
      | refine Holds.skip ?_
      | refine Holds.exit ?_
      | refine Holds.ret ?_
      | refine thenA_normal ?_
      | refine thenA_exit ?_
      | refine thenA_ret ?_
      | refine inB_normal ?_
      | refine inB_ret ?_
      | refine inB_here ?_
      | (refine inB_past ?_ ?_; (· exact rfl))
      | refine Holds.reg ?_
      | refine Holds.block ?_
      | refine GS.nil ?_
      | (refine GS.step (s' := ?_) ?_ ?_ ?_; rotate_left; (· exact rfl); (· (simp [go_sem, List.take_of_length_le] <;> with_reducible rfl)))
      | (refine GS.skip ?_ ?_ ?_; (· exact rfl); (· exact rfl))
      | fail
    refine Out.mk (xs := ?_) ?_ ?_ (by first | exact .inr rfl | exact .inl rfl)
    rotate_left
    · simp [go_sem, List.take_of_length_le] <;> with_reducible rfl
    exact .v _
def endsV (m : MachineT) (set : List Int) : Bool := set.any fun k => decide (k ∈ m.2.2.2)
theorem l16End (m : MachineT) (hy : m.2.2.2.length ≤ 1048576) (set : List Int) (hs : set.length ≤ 4000000) : Pure Try.prog 69 [.ag (machineC m), .im 1 (ints set)] (.v (.bool (endsV m set))) := by
  refine Pure.mk (rs := [.tmp 4]) (nt := 18) Try.func69 (by kernel_rfl) rfl rfl rfl (by simp) ?_
  simp only [sl, machineC]
  repeat' first
    | (refine Holds.condT ?_ ?_; (· (simp [go_sem, List.take_of_length_le] <;> with_reducible rfl)))
    | (refine Holds.condF ?_ ?_; (· (simp [go_sem, List.take_of_length_le] <;> with_reducible rfl)))
    | refine Holds.seq ?_
    | refine Holds.skip ?_
    | refine Holds.exit ?_
    | refine Holds.ret ?_
    | refine thenA_normal ?_
    | refine thenA_exit ?_
    | refine thenA_ret ?_
    | refine inB_normal ?_
    | refine inB_ret ?_
    | refine inB_here ?_
    | (refine inB_past ?_ ?_; (· exact rfl))
    | refine Holds.reg ?_
    | refine Holds.block ?_
    | refine GS.nil ?_
    | (refine GS.step (s' := ?_) ?_ ?_ ?_; rotate_left; (· exact rfl); (· (simp [go_sem, List.take_of_length_le] <;> with_reducible rfl)))
    | (refine GS.skip ?_ ?_ ?_; (· exact rfl); (· exact rfl))
    | fail
  refine Holds.loop (ι := Nat) (fun i => ⟨[(2, .pb 0 4 0 0), (7, .im 1 (ints set)), (8, .v (.int .i64 set.length)), (9, .v (.int .i64 i))], [(0, ⟨61, 4, [machineC m]⟩)], 1⟩) (fun i => i ≤ set.length ∧ (set.take i).any (fun k => decide (k ∈ m.2.2.2)) = false) (fun i => set.length - i) 0 ⟨Nat.zero_le _, rfl⟩ ?_ ?_
  · exact Cov.ofn (id) rfl (by simp [go_sem, List.take_of_length_le, ren, ren1, ren2, okr, okr1, okr2, ChkT, ChkN, BlkN, nf, machineC]) (by simp [go_sem, List.take_of_length_le, ren, ren1, ren2, okr, okr1, okr2, ChkT, ChkN, BlkN, nf, machineC])
  rintro i ⟨hi, hno⟩
  repeat' first
    | (refine Holds.condT ?_ ?_; (· (simp [go_sem, List.take_of_length_le] <;> with_reducible rfl)))
    | (refine Holds.condF ?_ ?_; (· (simp [go_sem, List.take_of_length_le] <;> with_reducible rfl)))
    | refine Holds.seq ?_
    | refine Holds.skip ?_
    | refine Holds.exit ?_
    | refine Holds.ret ?_
    | refine thenA_normal ?_
    | refine thenA_exit ?_
    | refine thenA_ret ?_
    | refine inB_normal ?_
    | refine inB_ret ?_
    | refine inB_here ?_
    | (refine inB_past ?_ ?_; (· exact rfl))
    | refine Holds.reg ?_
    | refine Holds.block ?_
    | refine GS.nil ?_
    | (refine GS.step (s' := ?_) ?_ ?_ ?_; rotate_left; (· exact rfl); (· (simp [go_sem, List.take_of_length_le] <;> with_reducible rfl)))
    | (refine GS.skip ?_ ?_ ?_; (· exact rfl); (· exact rfl))
    | fail
  refine Holds.cond rfl (fun h => ?_) (fun h => ?_)
  · have hlt : i < set.length := by simp at h; omega
    have hxi : set[i]? = some set[i] := List.getElem?_eq_getElem hlt
    generalize set[i] = x at hxi
    have ch := l1Has m.2.2.2 x (by omega)
    rw [hasN_dec] at ch
    repeat' first
      | (refine Holds.condT ?_ ?_; (· (simp [go_sem, List.take_of_length_le, hxi, machineC] <;> with_reducible rfl)))
      | (refine Holds.condF ?_ ?_; (· (simp [go_sem, List.take_of_length_le, hxi, machineC] <;> with_reducible rfl)))
      | refine Holds.seq ?_
      | refine Holds.skip ?_
      | refine Holds.exit ?_
      | refine Holds.ret ?_
      | refine thenA_normal ?_
      | refine thenA_exit ?_
      | refine thenA_ret ?_
      | refine inB_normal ?_
      | refine inB_ret ?_
      | refine inB_here ?_
      | (refine inB_past ?_ ?_; (· exact rfl))
      | refine Holds.reg ?_
      | refine Holds.block ?_
      | refine GS.nil ?_
      | (refine GS.step (s' := ?_) ?_ ?_ ?_; rotate_left; (· exact rfl); (· (simp [go_sem, List.take_of_length_le, hxi, machineC] <;> with_reducible rfl)))
      | (refine GS.skip ?_ ?_ ?_; (· exact rfl); (· exact rfl))
      | fail
    refine GS.cc (ch) rfl rfl rfl rfl (by simp [go_sem, List.take_of_length_le] <;> with_reducible rfl) rfl (by simp [go_sem, List.take_of_length_le]) ?_
    cases hm : decide (x ∈ m.2.2.2) with
    | true =>
      rw [show endsV m set = true from any_at hxi hm]
      repeat' first
        | (refine Holds.condT ?_ ?_; (· (simp [go_sem, List.take_of_length_le] <;> with_reducible rfl)))
        | (refine Holds.condF ?_ ?_; (· (simp [go_sem, List.take_of_length_le] <;> with_reducible rfl)))
        | refine Holds.seq ?_
        | refine Holds.skip ?_
        | refine Holds.exit ?_
        | refine Holds.ret ?_
        | refine thenA_normal ?_
        | refine thenA_exit ?_
        | refine thenA_ret ?_
        | refine inB_normal ?_
        | refine inB_ret ?_
        | refine inB_here ?_
        | (refine inB_past ?_ ?_; (· exact rfl))
        | refine Holds.reg ?_
        | refine Holds.block ?_
        | refine GS.nil ?_
        | (refine GS.step (s' := ?_) ?_ ?_ ?_; rotate_left; (· exact rfl); (· (simp [go_sem, List.take_of_length_le] <;> with_reducible rfl)))
        | (refine GS.skip ?_ ?_ ?_; (· exact rfl); (· exact rfl))
        | fail
      refine Out.mk (xs := ?_) ?_ ?_ (by first | exact .inr rfl | exact .inl rfl)
      rotate_left
      · simp [go_sem, List.take_of_length_le] <;> with_reducible rfl
      exact .v _
    | false =>
      repeat' first
        | (refine Holds.condT ?_ ?_; (· (simp [go_sem, List.take_of_length_le] <;> with_reducible rfl)))
        | (refine Holds.condF ?_ ?_; (· (simp [go_sem, List.take_of_length_le] <;> with_reducible rfl)))
        | refine Holds.seq ?_
        | refine Holds.skip ?_
        | refine Holds.exit ?_
        | refine Holds.ret ?_
        | refine thenA_normal ?_
        | refine thenA_exit ?_
        | refine thenA_ret ?_
        | refine inB_normal ?_
        | refine inB_ret ?_
        | refine inB_here ?_
        | (refine inB_past ?_ ?_; (· exact rfl))
        | refine Holds.reg ?_
        | refine Holds.block ?_
        | refine GS.nil ?_
        | (refine GS.step (s' := ?_) ?_ ?_ ?_; rotate_left; (· exact rfl); (· (simp [go_sem, List.take_of_length_le] <;> with_reducible rfl)))
        | (refine GS.skip ?_ ?_ ?_; (· exact rfl); (· exact rfl))
        | fail
      refine ⟨i + 1, ⟨by omega, ?_⟩, by omega, ?_⟩
      · rw [List.take_add_one, hxi, List.any_append, hno]; simpa using hm
      rw [wr64_id (by omega) (by omega)]
      exact Cov.ofn (id) rfl (by simp [go_sem, List.take_of_length_le, ren, ren1, ren2, okr, okr1, okr2, ChkT, ChkN, BlkN, nf, machineC]) (by simp [go_sem, List.take_of_length_le, ren, ren1, ren2, okr, okr1, okr2, ChkT, ChkN, BlkN, nf, machineC])
  · have hle : i = set.length := by simp at h; omega
    subst hle
    rw [List.take_length] at hno
    rw [show endsV m set = false from hno]
    repeat' first
      | (refine Holds.condT ?_ ?_; (· (simp [go_sem, List.take_of_length_le] <;> with_reducible rfl)))
      | (refine Holds.condF ?_ ?_; (· (simp [go_sem, List.take_of_length_le] <;> with_reducible rfl)))
      | refine Holds.seq ?_
      | refine Holds.skip ?_
      | refine Holds.exit ?_
      | refine Holds.ret ?_
      | refine thenA_normal ?_
      | refine thenA_exit ?_
      | refine thenA_ret ?_
      | refine inB_normal ?_
      | refine inB_ret ?_
      | refine inB_here ?_
      | (refine inB_past ?_ ?_; (· exact rfl))
      | refine Holds.reg ?_
      | refine Holds.block ?_
      | refine GS.nil ?_
      | (refine GS.step (s' := ?_) ?_ ?_ ?_; rotate_left; (· exact rfl); (· (simp [go_sem, List.take_of_length_le] <;> with_reducible rfl)))
      | (refine GS.skip ?_ ?_ ?_; (· exact rfl); (· exact rfl))
      | fail
    refine Out.mk (xs := ?_) ?_ ?_ (by first | exact .inr rfl | exact .inl rfl)
    rotate_left
    · simp [go_sem, List.take_of_length_le] <;> with_reducible rfl
    exact .v _
theorem ends1 (m : MachineT) (hy : m.2.2.2.length ≤ 1048576) (k : Int) : Pure Try.prog 113 [.v (.int .i64 k), .pi (machineC m)] (.v (.bool (decide (k ∈ m.2.2.2)))) := by
  refine Pure.mk (rs := [.tmp 3]) (nt := 8) Try.func113 (by kernel_rfl) rfl rfl rfl (by simp) ?_
  simp only [sl, machineC]
  have ch := containsInt m.2.2.2 k (by omega)
  repeat' first
    | (refine Holds.condT ?_ ?_; (· (simp [go_sem, List.take_of_length_le] <;> with_reducible rfl)))
    | (refine Holds.condF ?_ ?_; (· (simp [go_sem, List.take_of_length_le] <;> with_reducible rfl)))
    | refine Holds.seq ?_
    | refine Holds.skip ?_
    | refine Holds.exit ?_
    | refine Holds.ret ?_
    | refine thenA_normal ?_
    | refine thenA_exit ?_
    | refine thenA_ret ?_
    | refine inB_normal ?_
    | refine inB_ret ?_
    | refine inB_here ?_
    | (refine inB_past ?_ ?_; (· exact rfl))
    | refine Holds.reg ?_
    | refine Holds.block ?_
    | refine GS.nil ?_
    | (refine GS.step (s' := ?_) ?_ ?_ ?_; rotate_left; (· exact rfl); (· (simp [go_sem, List.take_of_length_le] <;> with_reducible rfl)))
    | (refine GS.skip ?_ ?_ ?_; (· exact rfl); (· exact rfl))
    | fail
  refine GS.cc (ch) rfl rfl rfl rfl (by simp [go_sem, List.take_of_length_le] <;> with_reducible rfl) rfl (by simp [go_sem, List.take_of_length_le]) ?_
  repeat' first
    | (refine Holds.condT ?_ ?_; (· (simp [go_sem, List.take_of_length_le] <;> with_reducible rfl)))
    | (refine Holds.condF ?_ ?_; (· (simp [go_sem, List.take_of_length_le] <;> with_reducible rfl)))
    | refine Holds.seq ?_
    | refine Holds.skip ?_
    | refine Holds.exit ?_
    | refine Holds.ret ?_
    | refine thenA_normal ?_
    | refine thenA_exit ?_
    | refine thenA_ret ?_
    | refine inB_normal ?_
    | refine inB_ret ?_
    | refine inB_here ?_
    | (refine inB_past ?_ ?_; (· exact rfl))
    | refine Holds.reg ?_
    | refine Holds.block ?_
    | refine GS.nil ?_
    | (refine GS.step (s' := ?_) ?_ ?_ ?_; rotate_left; (· exact rfl); (· (simp [go_sem, List.take_of_length_le] <;> with_reducible rfl)))
    | (refine GS.skip ?_ ?_ ?_; (· exact rfl); (· exact rfl))
    | fail
  refine Out.mk (xs := ?_) ?_ ?_ (by first | exact .inr rfl | exact .inl rfl)
  rotate_left
  · simp [go_sem, List.take_of_length_le] <;> with_reducible rfl
  exact .v _
theorem implEnds (m : MachineT) (hy : m.2.2.2.length ≤ 1048576) (set : List Int) (hs : set.length ≤ 4000000) : Pure Try.prog 71 [.ag (machineC m), .im 1 (ints set)] (.v (.bool (endsV m set))) := by
  refine Pure.mk (rs := [.tmp 4]) (nt := 8) Try.func71 (by kernel_rfl) rfl rfl rfl (by simp) ?_
  simp only [sl, machineC]
  have hcf := containsFuncInt 113 [.pi (machineC m)] (fun k => decide (k ∈ m.2.2.2)) set (by omega) rfl (fun x hx => ends1 m hy x)
  repeat' first
    | (refine Holds.condT ?_ ?_; (· (simp [go_sem, List.take_of_length_le] <;> with_reducible rfl)))
    | (refine Holds.condF ?_ ?_; (· (simp [go_sem, List.take_of_length_le] <;> with_reducible rfl)))
    | refine Holds.seq ?_
    | refine Holds.skip ?_
    | refine Holds.exit ?_
    | refine Holds.ret ?_
    | refine thenA_normal ?_
    | refine thenA_exit ?_
    | refine thenA_ret ?_
    | refine inB_normal ?_
    | refine inB_ret ?_
    | refine inB_here ?_
    | (refine inB_past ?_ ?_; (· exact rfl))
    | refine Holds.reg ?_
    | refine Holds.block ?_
    | refine GS.nil ?_
    | (refine GS.step (s' := ?_) ?_ ?_ ?_; rotate_left; (· exact rfl); (· (simp [go_sem, List.take_of_length_le] <;> with_reducible rfl)))
    | (refine GS.skip ?_ ?_ ?_; (· exact rfl); (· exact rfl))
    | fail
  refine GS.cd (hcf) rfl rfl rfl rfl (by simp [go_sem, List.take_of_length_le] <;> with_reducible rfl) rfl (by exact .cons (.im _ _) (.cons (Fz.fnL (.cons (Fz.box rfl rfl rfl rfl) .nil)) .nil)) rfl ?_
  repeat' first
    | (refine Holds.condT ?_ ?_; (· (simp [go_sem, List.take_of_length_le] <;> with_reducible rfl)))
    | (refine Holds.condF ?_ ?_; (· (simp [go_sem, List.take_of_length_le] <;> with_reducible rfl)))
    | refine Holds.seq ?_
    | refine Holds.skip ?_
    | refine Holds.exit ?_
    | refine Holds.ret ?_
    | refine thenA_normal ?_
    | refine thenA_exit ?_
    | refine thenA_ret ?_
    | refine inB_normal ?_
    | refine inB_ret ?_
    | refine inB_here ?_
    | (refine inB_past ?_ ?_; (· exact rfl))
    | refine Holds.reg ?_
    | refine Holds.block ?_
    | refine GS.nil ?_
    | (refine GS.step (s' := ?_) ?_ ?_ ?_; rotate_left; (· exact rfl); (· (simp [go_sem, List.take_of_length_le] <;> with_reducible rfl)))
    | (refine GS.skip ?_ ?_ ?_; (· exact rfl); (· exact rfl))
    | fail
  refine Out.mk (xs := ?_) ?_ ?_ (by first | exact .inr rfl | exact .inl rfl)
  rotate_left
  · simp [go_sem, List.take_of_length_le] <;> with_reducible rfl
  exact .v _
def takesV (m : MachineT) (w : List Int) : Bool × Bool := if goodM m && wordX m.2.1 w then (endsV m (w.foldl (nextL m) [0]), true) else (false, false)
theorem next_len (m : MachineT) (hx : m.2.2.1.length ≤ 1048576) (set : List Int) (t : Int) : (nextL m set t).length ≤ 4000000 := by
  have h1 := foldl_len (addsA set t m.2.2.1) []
  have h2 := adds_len set t m.2.2.1
  simp only [List.length_nil] at h1
  unfold nextL; omega
theorem fold_snoc (m : MachineT) {w : List Int} {i : Nat} {t : Int} (h : w[i]? = some t) : (w.take (i + 1)).foldl (nextL m) [0] = nextL m ((w.take i).foldl (nextL m) [0]) t := by
  rw [List.take_add_one, h, List.foldl_append]; rfl
end Go.Proofs.Ytiabaknmgbpmoaa.En
end
section
namespace Go.Proofs.Ytiabaknmgbpmoaa.En
open Go.RowKit
set_option linter.unusedSimpArgs false
set_option linter.unusedVariables false
set_option maxHeartbeats 4000000
def keyTail (cls row : List Int) : List Int := row.map fun to => cls.getD to.toNat 0
def keyAt (cls : List Int) (next : List (List Int)) (i : Nat) : List Int := cls.getD i 0 :: keyTail cls (next.getD i [])
def putK (cls : List Int) (next : List (List Int)) (p : List (List Int) × List Int) (i : Nat) : List (List Int) × List Int := (addS p.1 (keyAt cls next i), p.2 ++ [atS p.1 (keyAt cls next i)])
def rndS (cls : List Int) (next : List (List Int)) (n : Nat) : List (List Int) × List Int := (List.range n).foldl (putK cls next) ([], [])
theorem rndS_next (cls : List Int) (next : List (List Int)) (n : Nat) : rndS cls next (n + 1) = putK cls next (rndS cls next n) n := by simp [rndS, List.range_succ]
theorem addS_mem (sets : List (List Int)) (s : List Int) : s ∈ addS sets s := by
  unfold addS
  split
  · simp
  · rename_i h
    by_cases hm : s ∈ sets
    · exact hm
    · rw [plS_no hm] at h; exact absurd (by decide) h
theorem addS_sub {sets : List (List Int)} {s x : List Int} (h : x ∈ sets) : x ∈ addS sets s := by
  unfold addS; split
  · exact List.mem_append_left _ h
  · exact h
theorem addS_nd {sets : List (List Int)} {s : List Int} (h : sets.Nodup) : (addS sets s).Nodup := by
  unfold addS
  split
  · rename_i hn
    refine nodup_snoc h fun hm => ?_
    obtain ⟨i, hi, e⟩ := List.mem_iff_getElem.1 hm
    have := plS_at h (show sets[i]? = some s by rw [List.getElem?_eq_getElem hi, e])
    omega
  · exact h
theorem addS_len1 (sets : List (List Int)) (s : List Int) : (addS sets s).length ≤ sets.length + 1 := by unfold addS; split <;> simp
structure RndO (cls : List Int) (next : List (List Int)) (n : Nat) (K : List (List Int)) (F : List Int) : Prop where
  nd : K.Nodup
  ln : F.length = n
  kl : K.length ≤ n
  all : ∀ i, i < n → keyAt cls next i ∈ K
  rg : ∀ y ∈ F, 0 ≤ y ∧ y < K.length
  cov : ∀ j : Nat, j < K.length → (j : Int) ∈ F
  from_ : ∀ s ∈ K, ∃ i, i < n ∧ s = keyAt cls next i
theorem rndS_ok (cls : List Int) (next : List (List Int)) : ∀ n, RndO cls next n (rndS cls next n).1 (rndS cls next n).2
  | 0 => ⟨List.nodup_nil, rfl, Nat.le_refl _, fun i hi => absurd hi (Nat.not_lt_zero i), fun y hy => (by cases hy), fun j hj => absurd hj (Nat.not_lt_zero j), fun s hs => (by cases hs)⟩
  | n + 1 => by
    have h := rndS_ok cls next n
    rw [rndS_next]
    generalize rndS cls next n = p at h
    obtain ⟨K, F⟩ := p
    dsimp only [putK] at h ⊢
    generalize hs : keyAt cls next n = s
    have hle := addS_len K s
    have hl1 := addS_len1 K s
    have hat := atS_in s h.nd
    refine ⟨addS_nd h.nd, by simp [h.ln], by have := h.kl; omega, fun i hi => ?_, fun y hy => ?_, fun j hj => ?_, fun x hx => ?_⟩
    · by_cases e : i = n
      · subst e; rw [hs]; exact addS_mem K s
      · exact addS_sub (h.all i (by omega))
    · rcases List.mem_append.1 hy with e | e
      · have := h.rg y e; omega
      · rw [List.mem_singleton] at e; omega
    · by_cases hj' : j < K.length
      · exact List.mem_append_left _ (h.cov j hj')
      · have hn : plS K s < 0 := by
          unfold addS at hj
          split at hj
          · assumption
          · omega
        refine List.mem_append_right _ (List.mem_singleton.2 ?_)
        unfold atS; rw [if_pos hn]; omega
    · have : x ∈ K ∨ x = s := by
        unfold addS at hx
        split at hx
        · rcases List.mem_append.1 hx with e | e
          · exact .inl e
          · exact .inr (List.mem_singleton.1 e)
        · exact .inl hx
      rcases this with e | e
      · obtain ⟨i, hi, e⟩ := h.from_ x e
        exact ⟨i, by omega, e⟩
      · exact ⟨n, by omega, by rw [e, hs]⟩
theorem nodup_upTo : ∀ n : Nat, ((List.range n).map (fun j : Nat => (j : Int))).Nodup
  | 0 => by simp
  | n + 1 => by
    rw [List.range_succ, List.map_append]
    refine nodup_snoc (nodup_upTo n) fun h => ?_
    obtain ⟨j, hj, e⟩ := List.mem_map.1 h
    have := List.mem_range.1 hj
    dsimp only at e
    omega
theorem keyAt_len (cls : List Int) {next : List (List Int)} (h : ∀ r ∈ next, r.length ≤ 6) (i : Nat) : (keyAt cls next i).length ≤ 7 := by
  simp only [keyAt, keyTail, List.length_cons, List.length_map]
  rw [List.getD_eq_getElem?_getD]
  cases e : next[i]? with
  | none => simp
  | some r => have := h r (List.mem_of_getElem? e); simp; omega
def leastF (next : List (List Int)) (n : Nat) : Nat → Nat → List Int → Nat
  | 0, many, _ => many
  | f + 1, many, cls => if (rndS cls next n).1.length = many then many else leastF next n f (rndS cls next n).1.length (rndS cls next n).2
/-- All classes are met. -/
def covd (many : Nat) (cls : List Int) : Prop := ∀ j : Nat, j < many → (j : Int) ∈ cls
theorem more_classes {cls : List Int} {next : List (List Int)} {n many : Nat} (hl : cls.length = n) (hc : covd many cls) : many ≤ (rndS cls next n).1.length := by
  have h := rndS_ok cls next n
  have := nodup_le ((List.range many).map (fun j : Nat => (j : Int))) ((rndS cls next n).1.map fun k => k.getD 0 0) (nodup_upTo many) (fun x hx => by
    obtain ⟨j, hj, rfl⟩ := List.mem_map.1 hx
    obtain ⟨i, hi, e⟩ := List.mem_iff_getElem.1 (hc j (List.mem_range.1 hj))
    refine List.mem_map.2 ⟨_, h.all i (by omega), ?_⟩
    simp [keyAt, hi, e])
  simpa using this
structure LI (next : List (List Int)) (n L : Nat) (many : Nat) (cls : List Int) : Prop where
  ln : cls.length = n
  cov : covd many cls
  le : many ≤ n
  fin : ∃ f, 65 ≤ f + many ∧ leastF next n f many cls = L
theorem LI.end {next : List (List Int)} {n L many : Nat} {cls : List Int} (h : LI next n L many cls) (hn : n ≤ 64) (he : (rndS cls next n).1.length = many) : L = many := by
  obtain ⟨f, hf, e⟩ := h.fin
  have hle := h.le
  cases f with
  | zero => omega
  | succ f => rw [leastF, if_pos he] at e; exact e.symm
theorem LI.step {next : List (List Int)} {n L many : Nat} {cls : List Int} (h : LI next n L many cls) (hn : n ≤ 64) (he : (rndS cls next n).1.length ≠ many) : many < (rndS cls next n).1.length ∧ LI next n L (rndS cls next n).1.length (rndS cls next n).2 := by
  obtain ⟨f, hf, e⟩ := h.fin
  have hle := h.le
  have hr := rndS_ok cls next n
  have hm := more_classes (next := next) h.ln h.cov
  refine ⟨by omega, hr.ln, hr.cov, hr.kl, ?_⟩
  cases f with
  | zero => omega
  | succ f => rw [leastF, if_neg he] at e; exact ⟨f, by omega, e⟩
def cls0 (m : MachineT) (sets : List (List Int)) : List Int := sets.map fun s => if endsV m s then 1 else 0
def leastM (m : MachineT) : Nat := leastF (setsM m).2 (setsM m).1.length 65 0 (cls0 m (setsM m).1)
theorem LI.zero (m : MachineT) : LI (setsM m).2 (setsM m).1.length (leastM m) 0 (cls0 m (setsM m).1) :=
  ⟨by simp [cls0], fun j hj => absurd hj (Nat.not_lt_zero j), Nat.zero_le _, 65, Nat.le_refl _, rfl⟩
def leastV (m : MachineT) : Int × Bool := if goodM m then ((leastM m : Int), true) else (0, false)
/-- A row that is filled from the front, noughts behind. -/
def padI (xs : List Int) (n : Nat) : List Int := xs ++ List.replicate (n - xs.length) 0
theorem padI_len {xs : List Int} {n : Nat} (h : xs.length ≤ n) : (padI xs n).length = n := by simp [padI]; omega
theorem padI_nil (n : Nat) : padI [] n = List.replicate n 0 := by simp [padI]
theorem padI_all {xs : List Int} {n : Nat} (h : xs.length = n) : padI xs n = xs := by simp [padI, h]
theorem padI_set {xs : List Int} {n : Nat} (h : xs.length < n) (x : Int) : (padI xs n).set xs.length x = padI (xs ++ [x]) n := by
  unfold padI
  rw [List.set_append_right _ _ (Nat.le_refl _), Nat.sub_self, List.length_append, show n - xs.length = (n - (xs.length + 1)) + 1 by omega, List.replicate_succ, List.set_cons_zero]
  simp
theorem padI_skip {xs : List Int} {n : Nat} (h : xs.length < n) : padI xs n = padI (xs ++ [0]) n := by
  unfold padI
  rw [List.length_append, show n - xs.length = (n - (xs.length + 1)) + 1 by omega, List.replicate_succ]
  simp
end Go.Proofs.Ytiabaknmgbpmoaa.En
end
section
namespace Go.Proofs.Ytiabaknmgbpmoaa.En
open Go.RowKit
set_option linter.unusedVariables false
variable {P : Program} {nt : NT} {s s' : AS} {ops : Array Oper} {K : AS → Prop} {o : Oper} {l : List Oper} {i : Nat}
/-- As GS.step, for an operation that does not end in the slot D. -/
theorem GS.stepD (D : Nat) (hD : (o.dst == some D) = false) (hg : gd ops s o = some true) (ha : astep P nt s o = some s') (h : GS P nt ops K l (i + 1) s') : GS P nt ops K (o :: l) i s := GS.step hg ha h
end Go.Proofs.Ytiabaknmgbpmoaa.En
end
section
namespace Go.Proofs.Ytiabaknmgbpmoaa.En
open Go.RowKit
set_option linter.unusedSimpArgs false
set_option linter.unusedVariables false
set_option maxHeartbeats 8000000
theorem intss_snoc (xs : List (List Int)) (r : List Int) : intss xs ++ [[.im 1 (ints r)]] = intss (xs ++ [r]) := by simp [intss, intsC]
theorem intss_one (r : List Int) : [[AV.im 1 (ints r)]] = intss [r] := by simp [intss, intsC]
theorem ints_one (n : Int) : [[AV.v (.int .i64 n)]] = ints [n] := by simp [ints]
/-- What the search of the last equal set knows. -/
def lastQ (sets : List (List Int)) (s : List Int) (i : Nat) (a : Int) : Prop := (a = -1 ∧ ∀ j, j < i → sets[j]? ≠ some s) ∨ ∃ j : Nat, j < i ∧ a = j ∧ sets[j]? = some s
theorem lastQ_step {sets : List (List Int)} {s x : List Int} {i : Nat} {a : Int} (h : lastQ sets s i a) (hx : sets[i]? = some x) : lastQ sets s (i + 1) (if x = s then (i : Int) else a) := by
  by_cases e : x = s
  · subst e; rw [if_pos rfl]; exact .inr ⟨i, by omega, rfl, hx⟩
  · rw [if_neg e]
    rcases h with ⟨h1, h2⟩ | ⟨j, h1, h2, h3⟩
    · refine .inl ⟨h1, fun j hj => ?_⟩
      by_cases hji : j = i
      · subst hji; rw [hx]; intro g; exact e (by injection g)
      · exact h2 j (by omega)
    · exact .inr ⟨j, by omega, h2, h3⟩
theorem lastQ_end {sets : List (List Int)} (hn : sets.Nodup) {s : List Int} {a : Int} (h : lastQ sets s sets.length a) : a = plS sets s := by
  rcases h with ⟨h1, h2⟩ | ⟨j, h1, h2, h3⟩
  · rw [h1, plS_no]
    intro hm
    obtain ⟨i, hi, e⟩ := List.mem_iff_getElem.1 hm
    exact h2 i hi (by rw [List.getElem?_eq_getElem hi, e])
  · rw [h2, plS_at hn h3]
theorem lastQ_in {sets : List (List Int)} {s : List Int} {i : Nat} {a : Int} (h : lastQ sets s i a) (hi : i ≤ 100) : -1 ≤ a ∧ a ≤ 100 := by
  rcases h with ⟨h1, h2⟩ | ⟨j, h1, h2, h3⟩ <;> omega
theorem good_toks {m : MachineT} (hg : goodM m = true) : 1 ≤ m.2.1 ∧ m.2.1 ≤ 4 := by
  simp only [goodM, Bool.and_eq_true] at hg
  have := hg.1.1.2
  simpa [inR] using this
theorem l16Sets (m : MachineT) (hg : goodM m = true) (hx : m.2.2.1.length ≤ 1048576) : Pure Try.prog 65 [.ag (machineC m)] (.tu [.im 1 (intss (setsM m).1), .im 1 (intss (setsM m).2)]) := by
  refine Pure.mk (rs := [.tmp 2, .tmp 3]) (nt := 64) Try.func65 (by kernel_rfl) rfl rfl rfl (by simp) ?_
  simp only [sl, machineC]
  have hT := good_toks hg
  repeat' first
    | (refine Holds.condT ?_ ?_; (· (simp [go_sem, List.take_of_length_le] <;> with_reducible rfl)))
    | (refine Holds.condF ?_ ?_; (· (simp [go_sem, List.take_of_length_le] <;> with_reducible rfl)))
    | refine Holds.seq ?_
    | refine Holds.skip ?_
    | refine Holds.exit ?_
    | refine Holds.ret ?_
    | refine thenA_normal ?_
    | refine thenA_exit ?_
    | refine thenA_ret ?_
    | refine inB_normal ?_
    | refine inB_ret ?_
    | refine inB_here ?_
    | (refine inB_past ?_ ?_; (· exact rfl))
    | refine Holds.reg ?_
    | refine Holds.block ?_
    | refine GS.nil ?_
    | refine Gd.nil ?_
    | (refine Holds.any mixed ?_ ?_; (· kernel_rfl))
    | (refine GS.stepD 14 (s' := ?_) rfl ?_ ?_ ?_; rotate_left; (· exact rfl); (· (simp [go_sem, List.take_of_length_le] <;> with_reducible rfl)))
    | (refine GS.skip ?_ ?_ ?_; (· exact rfl); (· exact rfl))
    | (refine Gd.go (s' := ?_) ?_ ?_ ?_; rotate_left; (· exact rfl); (· (simp [go_sem, List.take_of_length_le] <;> with_reducible rfl)))
    | (refine Gd.skip ?_ ?_ ?_; (· exact rfl); (· exact rfl))
    | fail
  refine GS.frz [1] [(13, .im 1 (ints [0]))] (.cons rfl (Fz.all rfl rfl rfl rfl (ints_cl [0])) .nil) ?_
  repeat' first
    | (refine Holds.condT ?_ ?_; (· (simp [go_sem, List.take_of_length_le, frz] <;> with_reducible rfl)))
    | (refine Holds.condF ?_ ?_; (· (simp [go_sem, List.take_of_length_le, frz] <;> with_reducible rfl)))
    | refine Holds.seq ?_
    | refine Holds.skip ?_
    | refine Holds.exit ?_
    | refine Holds.ret ?_
    | refine thenA_normal ?_
    | refine thenA_exit ?_
    | refine thenA_ret ?_
    | refine inB_normal ?_
    | refine inB_ret ?_
    | refine inB_here ?_
    | (refine inB_past ?_ ?_; (· exact rfl))
    | refine Holds.reg ?_
    | refine Holds.block ?_
    | refine GS.nil ?_
    | refine Gd.nil ?_
    | (refine Holds.any mixed ?_ ?_; (· kernel_rfl))
    | (refine GS.step (s' := ?_) ?_ ?_ ?_; rotate_left; (· exact rfl); (· (simp [go_sem, List.take_of_length_le, frz] <;> with_reducible rfl)))
    | (refine GS.skip ?_ ?_ ?_; (· exact rfl); (· exact rfl))
    | (refine Gd.go (s' := ?_) ?_ ?_ ?_; rotate_left; (· exact rfl); (· (simp [go_sem, List.take_of_length_le, frz] <;> with_reducible rfl)))
    | (refine Gd.skip ?_ ?_ ?_; (· exact rfl); (· exact rfl))
    | fail
  refine Holds.niw 5 25 1 rfl ?_
  refine Holds.loop (ι := Nat × List (List Int) × List (List Int)) (fun i => ⟨[(1, .pb 0 4 0 0), (4, .own 1 1 0 i.2.1.length), (5, .own 2 1 0 i.2.2.length), (6, .v (.int .i64 i.1))], [(1, ⟨25, 1, intss i.2.1⟩), (2, ⟨25, 1, intss i.2.2⟩), (0, ⟨61, 4, [machineC m]⟩)], 3⟩)
    (fun i => SetsI m i.1 i.2.1 i.2.2) (fun i => 64 - i.1) (0, [[0]], []) (SetsI.zero m) ?_ ?_
  · exact Cov.ofn (nm [0, 2, 3]) rfl (by simp [go_sem, List.take_of_length_le, ren, ren1, ren2, okr, okr1, okr2, ChkT, ChkN, BlkN, nf, niw, frz, machineC, intss_one, show intss [] = [] from rfl]) (by simp [go_sem, List.take_of_length_le, ren, ren1, ren2, okr, okr1, okr2, ChkT, ChkN, BlkN, nf, niw, frz, machineC, intss_one, show intss [] = [] from rfl])
  rintro ⟨k, S, X⟩ hI
  dsimp only at hI ⊢
  have hfew := hI.ok.few
  have hle := hI.le
  have hln := hI.ln
  have stepk : wr64 ((k : Int) + 1) = ((k + 1 : Nat) : Int) := wr64_id (by omega) (by omega)
  repeat' first
    | (refine Holds.condT ?_ ?_; (· (simp [go_sem, List.take_of_length_le] <;> with_reducible rfl)))
    | (refine Holds.condF ?_ ?_; (· (simp [go_sem, List.take_of_length_le] <;> with_reducible rfl)))
    | refine Holds.seq ?_
    | refine Holds.skip ?_
    | refine Holds.exit ?_
    | refine Holds.ret ?_
    | refine thenA_normal ?_
    | refine thenA_exit ?_
    | refine thenA_ret ?_
    | refine inB_normal ?_
    | refine inB_ret ?_
    | refine inB_here ?_
    | (refine inB_past ?_ ?_; (· exact rfl))
    | refine Holds.reg ?_
    | refine Holds.block ?_
    | refine GS.nil ?_
    | refine Gd.nil ?_
    | (refine Holds.any mixed ?_ ?_; (· kernel_rfl))
    | (refine GS.step (s' := ?_) ?_ ?_ ?_; rotate_left; (· exact rfl); (· (simp [go_sem, List.take_of_length_le] <;> with_reducible rfl)))
    | (refine GS.skip ?_ ?_ ?_; (· exact rfl); (· exact rfl))
    | (refine Gd.go (s' := ?_) ?_ ?_ ?_; rotate_left; (· exact rfl); (· (simp [go_sem, List.take_of_length_le] <;> with_reducible rfl)))
    | (refine Gd.skip ?_ ?_ ?_; (· exact rfl); (· exact rfl))
    | fail
  refine Holds.cond rfl (fun h => ?_) (fun h => ?_)
  · have hlt : k < S.length := by simp at h; omega
    have hck : S[k]? = some S[k] := List.getElem?_eq_getElem hlt
    have hcok := hI.ok.ok _ (List.getElem_mem hlt)
    generalize S[k] = cur at hck hcok
    have hcl := okS_len hcok
    repeat' first
      | (refine Holds.condT ?_ ?_; (· (simp [go_sem, List.take_of_length_le] <;> with_reducible rfl)))
      | (refine Holds.condF ?_ ?_; (· (simp [go_sem, List.take_of_length_le] <;> with_reducible rfl)))
      | refine Holds.seq ?_
      | refine Holds.skip ?_
      | refine Holds.exit ?_
      | refine Holds.ret ?_
      | refine thenA_normal ?_
      | refine thenA_exit ?_
      | refine thenA_ret ?_
      | refine inB_normal ?_
      | refine inB_ret ?_
      | refine inB_here ?_
      | (refine inB_past ?_ ?_; (· exact rfl))
      | refine Holds.reg ?_
      | refine Holds.block ?_
      | refine GS.nil ?_
      | refine Gd.nil ?_
      | (refine Holds.any mixed ?_ ?_; (· kernel_rfl))
      | (refine GS.step (s' := ?_) ?_ ?_ ?_; rotate_left; (· exact rfl); (· (simp [go_sem, List.take_of_length_le] <;> with_reducible rfl)))
      | (refine GS.skip ?_ ?_ ?_; (· exact rfl); (· exact rfl))
      | (refine Gd.go (s' := ?_) ?_ ?_ ?_; rotate_left; (· exact rfl); (· (simp [go_sem, List.take_of_length_le] <;> with_reducible rfl)))
      | (refine Gd.skip ?_ ?_ ?_; (· exact rfl); (· exact rfl))
      | fail
    refine Holds.niw 7 3 1 rfl ?_
    refine Holds.loop (ι := Nat) (fun t => ⟨[(1, .pb 0 4 0 0), (4, .own 1 1 0 (rowS m cur S t).1.length), (5, .own 2 1 0 X.length), (6, .v (.int .i64 k)), (7, .own 3 1 0 (rowS m cur S t).2.length), (8, .v (.int .i64 t))], [(1, ⟨25, 1, intss (rowS m cur S t).1⟩), (2, ⟨25, 1, intss X⟩), (3, ⟨3, 1, ints (rowS m cur S t).2⟩), (0, ⟨61, 4, [machineC m]⟩)], 4⟩)
      (fun t => t ≤ m.2.1.toNat) (fun t => m.2.1.toNat - t) 0 (Nat.zero_le _) ?_ ?_
    · exact Cov.ofn (id) rfl (by simp [go_sem, List.take_of_length_le, ren, ren1, ren2, okr, okr1, okr2, ChkT, ChkN, BlkN, nf, niw, machineC, rowS]) (by simp [go_sem, List.take_of_length_le, ren, ren1, ren2, okr, okr1, okr2, ChkT, ChkN, BlkN, nf, niw, machineC, rowS])
    intro t ht
    have stept : wr64 ((t : Int) + 1) = ((t + 1 : Nat) : Int) := wr64_id (by omega) (by omega)
    obtain ⟨h1, h2, h3, h4, h5⟩ := rowS_ok hg cur hI.ok t
    have hnx := rowS_next m cur S t
    have hf1 := h1.few
    repeat' first
      | (refine Holds.condT ?_ ?_; (· (simp [go_sem, List.take_of_length_le, machineC] <;> with_reducible rfl)))
      | (refine Holds.condF ?_ ?_; (· (simp [go_sem, List.take_of_length_le, machineC] <;> with_reducible rfl)))
      | refine Holds.seq ?_
      | refine Holds.skip ?_
      | refine Holds.exit ?_
      | refine Holds.ret ?_
      | refine thenA_normal ?_
      | refine thenA_exit ?_
      | refine thenA_ret ?_
      | refine inB_normal ?_
      | refine inB_ret ?_
      | refine inB_here ?_
      | (refine inB_past ?_ ?_; (· exact rfl))
      | refine Holds.reg ?_
      | refine Holds.block ?_
      | refine GS.nil ?_
      | refine Gd.nil ?_
      | (refine Holds.any mixed ?_ ?_; (· kernel_rfl))
      | (refine GS.step (s' := ?_) ?_ ?_ ?_; rotate_left; (· exact rfl); (· (simp [go_sem, List.take_of_length_le, machineC] <;> with_reducible rfl)))
      | (refine GS.skip ?_ ?_ ?_; (· exact rfl); (· exact rfl))
      | (refine Gd.go (s' := ?_) ?_ ?_ ?_; rotate_left; (· exact rfl); (· (simp [go_sem, List.take_of_length_le, machineC] <;> with_reducible rfl)))
      | (refine Gd.skip ?_ ?_ ?_; (· exact rfl); (· exact rfl))
      | fail
    refine Holds.cond rfl (fun h => ?_) (fun h => ?_)
    · have hlt2 : t < m.2.1.toNat := by simp at h; omega
      simp only [colS] at hnx
      generalize hP : (rowS m cur S t).1 = S1 at *
      generalize hQ : (rowS m cur S t).2 = R1 at *
      have hc1 := h4 k cur hck
      have cn := l16Next m hg hx cur t (by omega)
      have hno := next_ok hg cur (t : Int)
      generalize nextL m cur (t : Int) = s at cn hno hnx
      have hsl := okS_len hno
      have hkl : k < S1.length := by omega
      repeat' first
        | (refine Holds.condT ?_ ?_; (· (simp [go_sem, List.take_of_length_le, get_E hc1, hc1, hkl, intsC, machineC] <;> with_reducible rfl)))
        | (refine Holds.condF ?_ ?_; (· (simp [go_sem, List.take_of_length_le, get_E hc1, hc1, hkl, intsC, machineC] <;> with_reducible rfl)))
        | refine Holds.seq ?_
        | refine Holds.skip ?_
        | refine Holds.exit ?_
        | refine Holds.ret ?_
        | refine thenA_normal ?_
        | refine thenA_exit ?_
        | refine thenA_ret ?_
        | refine inB_normal ?_
        | refine inB_ret ?_
        | refine inB_here ?_
        | (refine inB_past ?_ ?_; (· exact rfl))
        | refine Holds.reg ?_
        | refine Holds.block ?_
        | refine GS.nil ?_
        | refine Gd.nil ?_
        | (refine Holds.any mixed ?_ ?_; (· kernel_rfl))
        | (refine GS.step (s' := ?_) ?_ ?_ ?_; rotate_left; (· exact rfl); (· (simp [go_sem, List.take_of_length_le, get_E hc1, hc1, hkl, intsC, machineC] <;> with_reducible rfl)))
        | (refine GS.skip ?_ ?_ ?_; (· exact rfl); (· exact rfl))
        | (refine Gd.go (s' := ?_) ?_ ?_ ?_; rotate_left; (· exact rfl); (· (simp [go_sem, List.take_of_length_le, get_E hc1, hc1, hkl, intsC, machineC] <;> with_reducible rfl)))
        | (refine Gd.skip ?_ ?_ ?_; (· exact rfl); (· exact rfl))
        | fail
      first | refine GS.cc (cn) rfl rfl rfl rfl (by simp [go_sem, List.take_of_length_le, machineC] <;> with_reducible rfl) rfl (by simp [go_sem, List.take_of_length_le, machineC]) ?_ | refine Gd.cc (cn) rfl rfl rfl rfl (by simp [go_sem, List.take_of_length_le, machineC] <;> with_reducible rfl) rfl (by simp [go_sem, List.take_of_length_le, machineC]) ?_
      repeat' first
        | (refine Holds.condT ?_ ?_; (· (simp [go_sem, List.take_of_length_le] <;> with_reducible rfl)))
        | (refine Holds.condF ?_ ?_; (· (simp [go_sem, List.take_of_length_le] <;> with_reducible rfl)))
        | refine Holds.seq ?_
        | refine Holds.skip ?_
        | refine Holds.exit ?_
        | refine Holds.ret ?_
        | refine thenA_normal ?_
        | refine thenA_exit ?_
        | refine thenA_ret ?_
        | refine inB_normal ?_
        | refine inB_ret ?_
        | refine inB_here ?_
        | (refine inB_past ?_ ?_; (· exact rfl))
        | refine Holds.reg ?_
        | refine Holds.block ?_
        | refine GS.nil ?_
        | refine Gd.nil ?_
        | (refine Holds.any mixed ?_ ?_; (· kernel_rfl))
        | (refine GS.step (s' := ?_) ?_ ?_ ?_; rotate_left; (· exact rfl); (· (simp [go_sem, List.take_of_length_le] <;> with_reducible rfl)))
        | (refine GS.skip ?_ ?_ ?_; (· exact rfl); (· exact rfl))
        | (refine Gd.go (s' := ?_) ?_ ?_ ?_; rotate_left; (· exact rfl); (· (simp [go_sem, List.take_of_length_le] <;> with_reducible rfl)))
        | (refine Gd.skip ?_ ?_ ?_; (· exact rfl); (· exact rfl))
        | fail
      refine Holds.loop (ι := Nat × Int) (fun i => ⟨[(1, .pb 0 4 0 0), (4, .own 1 1 0 S1.length), (5, .own 2 1 0 X.length), (6, .v (.int .i64 k)), (7, .own 3 1 0 R1.length), (8, .v (.int .i64 t)), (9, .im 1 (ints s)), (10, .v (.int .i64 i.2)), (34, .own 1 1 0 S1.length), (35, .v (.int .i64 S1.length)), (36, .v (.int .i64 i.1))], [(1, ⟨25, 1, intss S1⟩), (2, ⟨25, 1, intss X⟩), (3, ⟨3, 1, ints R1⟩), (0, ⟨61, 4, [machineC m]⟩)], 4⟩)
        (fun i => i.1 ≤ S1.length ∧ lastQ S1 s i.1 i.2) (fun i => S1.length - i.1) (0, -1) ⟨Nat.zero_le _, .inl ⟨rfl, fun j hj => absurd hj (Nat.not_lt_zero j)⟩⟩ ?_ ?_
      · exact Cov.ofn (id) rfl (by simp [go_sem, List.take_of_length_le, ren, ren1, ren2, okr, okr1, okr2, ChkT, ChkN, BlkN, nf, machineC]) (by simp [go_sem, List.take_of_length_le, ren, ren1, ren2, okr, okr1, okr2, ChkT, ChkN, BlkN, nf, machineC])
      rintro ⟨i, a⟩ ⟨hi, hq⟩
      dsimp only at hi hq ⊢
      have stepi : wr64 ((i : Int) + 1) = ((i + 1 : Nat) : Int) := wr64_id (by omega) (by omega)
      repeat' first
        | (refine Holds.condT ?_ ?_; (· (simp [go_sem, List.take_of_length_le] <;> with_reducible rfl)))
        | (refine Holds.condF ?_ ?_; (· (simp [go_sem, List.take_of_length_le] <;> with_reducible rfl)))
        | refine Holds.seq ?_
        | refine Holds.skip ?_
        | refine Holds.exit ?_
        | refine Holds.ret ?_
        | refine thenA_normal ?_
        | refine thenA_exit ?_
        | refine thenA_ret ?_
        | refine inB_normal ?_
        | refine inB_ret ?_
        | refine inB_here ?_
        | (refine inB_past ?_ ?_; (· exact rfl))
        | refine Holds.reg ?_
        | refine Holds.block ?_
        | refine GS.nil ?_
        | refine Gd.nil ?_
        | (refine Holds.any mixed ?_ ?_; (· kernel_rfl))
        | (refine GS.step (s' := ?_) ?_ ?_ ?_; rotate_left; (· exact rfl); (· (simp [go_sem, List.take_of_length_le] <;> with_reducible rfl)))
        | (refine GS.skip ?_ ?_ ?_; (· exact rfl); (· exact rfl))
        | (refine Gd.go (s' := ?_) ?_ ?_ ?_; rotate_left; (· exact rfl); (· (simp [go_sem, List.take_of_length_le] <;> with_reducible rfl)))
        | (refine Gd.skip ?_ ?_ ?_; (· exact rfl); (· exact rfl))
        | fail
      refine Holds.cond rfl (fun h => ?_) (fun h => ?_)
      · have hlt3 : i < S1.length := by simp at h; omega
        have hxi : S1[i]? = some S1[i] := List.getElem?_eq_getElem hlt3
        have hxo := okS_len (h1.ok _ (List.getElem_mem hlt3))
        generalize S1[i] = x at hxi hxo
        have cs := l1Same x s (by omega)
        have hst := lastQ_step hq hxi
        repeat' first
          | (refine Holds.condT ?_ ?_; (· (simp [go_sem, List.take_of_length_le, get_E hxi, hxi, hlt3, intsC] <;> with_reducible rfl)))
          | (refine Holds.condF ?_ ?_; (· (simp [go_sem, List.take_of_length_le, get_E hxi, hxi, hlt3, intsC] <;> with_reducible rfl)))
          | refine Holds.seq ?_
          | refine Holds.skip ?_
          | refine Holds.exit ?_
          | refine Holds.ret ?_
          | refine thenA_normal ?_
          | refine thenA_exit ?_
          | refine thenA_ret ?_
          | refine inB_normal ?_
          | refine inB_ret ?_
          | refine inB_here ?_
          | (refine inB_past ?_ ?_; (· exact rfl))
          | refine Holds.reg ?_
          | refine Holds.block ?_
          | refine GS.nil ?_
          | refine Gd.nil ?_
          | (refine Holds.any mixed ?_ ?_; (· kernel_rfl))
          | (refine GS.step (s' := ?_) ?_ ?_ ?_; rotate_left; (· exact rfl); (· (simp [go_sem, List.take_of_length_le, get_E hxi, hxi, hlt3, intsC] <;> with_reducible rfl)))
          | (refine GS.skip ?_ ?_ ?_; (· exact rfl); (· exact rfl))
          | (refine Gd.go (s' := ?_) ?_ ?_ ?_; rotate_left; (· exact rfl); (· (simp [go_sem, List.take_of_length_le, get_E hxi, hxi, hlt3, intsC] <;> with_reducible rfl)))
          | (refine Gd.skip ?_ ?_ ?_; (· exact rfl); (· exact rfl))
          | fail
        first | refine GS.cc (cs) rfl rfl rfl rfl (by simp [go_sem, List.take_of_length_le] <;> with_reducible rfl) rfl (by simp [go_sem, List.take_of_length_le]) ?_ | refine Gd.cc (cs) rfl rfl rfl rfl (by simp [go_sem, List.take_of_length_le] <;> with_reducible rfl) rfl (by simp [go_sem, List.take_of_length_le]) ?_
        by_cases hxs : x = s
        · rw [if_pos hxs] at hst
          repeat' first
            | (refine Holds.condT ?_ ?_; (· (simp [go_sem, List.take_of_length_le, hxs] <;> with_reducible rfl)))
            | (refine Holds.condF ?_ ?_; (· (simp [go_sem, List.take_of_length_le, hxs] <;> with_reducible rfl)))
            | refine Holds.seq ?_
            | refine Holds.skip ?_
            | refine Holds.exit ?_
            | refine Holds.ret ?_
            | refine thenA_normal ?_
            | refine thenA_exit ?_
            | refine thenA_ret ?_
            | refine inB_normal ?_
            | refine inB_ret ?_
            | refine inB_here ?_
            | (refine inB_past ?_ ?_; (· exact rfl))
            | refine Holds.reg ?_
            | refine Holds.block ?_
            | refine GS.nil ?_
            | refine Gd.nil ?_
            | (refine Holds.any mixed ?_ ?_; (· kernel_rfl))
            | (refine GS.step (s' := ?_) ?_ ?_ ?_; rotate_left; (· exact rfl); (· (simp [go_sem, List.take_of_length_le, hxs] <;> with_reducible rfl)))
            | (refine GS.skip ?_ ?_ ?_; (· exact rfl); (· exact rfl))
            | (refine Gd.go (s' := ?_) ?_ ?_ ?_; rotate_left; (· exact rfl); (· (simp [go_sem, List.take_of_length_le, hxs] <;> with_reducible rfl)))
            | (refine Gd.skip ?_ ?_ ?_; (· exact rfl); (· exact rfl))
            | fail
          refine ⟨(i + 1, (i : Int)), ⟨by dsimp only; omega, hst⟩, by dsimp only; omega, ?_⟩
          rw [stepi]
          exact Cov.ofn (id) rfl (by simp [go_sem, List.take_of_length_le, ren, ren1, ren2, okr, okr1, okr2, ChkT, ChkN, BlkN, nf, machineC]) (by simp [go_sem, List.take_of_length_le, ren, ren1, ren2, okr, okr1, okr2, ChkT, ChkN, BlkN, nf, machineC])
        · rw [if_neg hxs] at hst
          repeat' first
            | (refine Holds.condT ?_ ?_; (· (simp [go_sem, List.take_of_length_le, hxs] <;> with_reducible rfl)))
            | (refine Holds.condF ?_ ?_; (· (simp [go_sem, List.take_of_length_le, hxs] <;> with_reducible rfl)))
            | refine Holds.seq ?_
            | refine Holds.skip ?_
            | refine Holds.exit ?_
            | refine Holds.ret ?_
            | refine thenA_normal ?_
            | refine thenA_exit ?_
            | refine thenA_ret ?_
            | refine inB_normal ?_
            | refine inB_ret ?_
            | refine inB_here ?_
            | (refine inB_past ?_ ?_; (· exact rfl))
            | refine Holds.reg ?_
            | refine Holds.block ?_
            | refine GS.nil ?_
            | refine Gd.nil ?_
            | (refine Holds.any mixed ?_ ?_; (· kernel_rfl))
            | (refine GS.step (s' := ?_) ?_ ?_ ?_; rotate_left; (· exact rfl); (· (simp [go_sem, List.take_of_length_le, hxs] <;> with_reducible rfl)))
            | (refine GS.skip ?_ ?_ ?_; (· exact rfl); (· exact rfl))
            | (refine Gd.go (s' := ?_) ?_ ?_ ?_; rotate_left; (· exact rfl); (· (simp [go_sem, List.take_of_length_le, hxs] <;> with_reducible rfl)))
            | (refine Gd.skip ?_ ?_ ?_; (· exact rfl); (· exact rfl))
            | fail
          refine ⟨(i + 1, a), ⟨by dsimp only; omega, hst⟩, by dsimp only; omega, ?_⟩
          rw [stepi]
          exact Cov.ofn (id) rfl (by simp [go_sem, List.take_of_length_le, ren, ren1, ren2, okr, okr1, okr2, ChkT, ChkN, BlkN, nf, machineC]) (by simp [go_sem, List.take_of_length_le, ren, ren1, ren2, okr, okr1, okr2, ChkT, ChkN, BlkN, nf, machineC])
      · have hle3 : i = S1.length := by simp at h; omega
        subst hle3
        have ha := lastQ_end h1.nd hq
        subst ha
        have hb1 : (S1.length + 1) * 24 ≤ 140737488355328 := by omega
        have hb2 : (R1.length + 1) * 8 ≤ 140737488355328 := by omega
        by_cases hneg : plS S1 s < 0
        · simp only [addS, atS, hneg, if_true] at hnx
          repeat' first
            | (refine Holds.condT ?_ ?_; (· (simp [go_sem, List.take_of_length_le, hneg, hb1, hb2] <;> with_reducible rfl)))
            | (refine Holds.condF ?_ ?_; (· (simp [go_sem, List.take_of_length_le, hneg, hb1, hb2] <;> with_reducible rfl)))
            | refine Holds.seq ?_
            | refine Holds.skip ?_
            | refine Holds.exit ?_
            | refine Holds.ret ?_
            | refine thenA_normal ?_
            | refine thenA_exit ?_
            | refine thenA_ret ?_
            | refine inB_normal ?_
            | refine inB_ret ?_
            | refine inB_here ?_
            | (refine inB_past ?_ ?_; (· exact rfl))
            | refine Holds.reg ?_
            | refine Holds.block ?_
            | refine GS.nil ?_
            | refine Gd.nil ?_
            | (refine Holds.any mixed ?_ ?_; (· kernel_rfl))
            | (refine GS.step (s' := ?_) ?_ ?_ ?_; rotate_left; (· exact rfl); (· (simp [go_sem, List.take_of_length_le, hneg, hb1, hb2] <;> with_reducible rfl)))
            | (refine GS.skip ?_ ?_ ?_; (· exact rfl); (· exact rfl))
            | (refine Gd.go (s' := ?_) ?_ ?_ ?_; rotate_left; (· exact rfl); (· (simp [go_sem, List.take_of_length_le, hneg, hb1, hb2] <;> with_reducible rfl)))
            | (refine Gd.skip ?_ ?_ ?_; (· exact rfl); (· exact rfl))
            | fail
          refine ⟨t + 1, by omega, by omega, ?_⟩
          rw [hnx, stept]
          exact Cov.ofn (nm [0, 6, 2, 9]) rfl (by simp [go_sem, List.take_of_length_le, ren, ren1, ren2, okr, okr1, okr2, ChkT, ChkN, BlkN, nf, machineC, intss_snoc, ints_snoc]) (by simp [go_sem, List.take_of_length_le, ren, ren1, ren2, okr, okr1, okr2, ChkT, ChkN, BlkN, nf, machineC, intss_snoc, ints_snoc])
        · simp only [addS, atS, hneg, if_false] at hnx
          repeat' first
            | (refine Holds.condT ?_ ?_; (· (simp [go_sem, List.take_of_length_le, hneg, hb1, hb2] <;> with_reducible rfl)))
            | (refine Holds.condF ?_ ?_; (· (simp [go_sem, List.take_of_length_le, hneg, hb1, hb2] <;> with_reducible rfl)))
            | refine Holds.seq ?_
            | refine Holds.skip ?_
            | refine Holds.exit ?_
            | refine Holds.ret ?_
            | refine thenA_normal ?_
            | refine thenA_exit ?_
            | refine thenA_ret ?_
            | refine inB_normal ?_
            | refine inB_ret ?_
            | refine inB_here ?_
            | (refine inB_past ?_ ?_; (· exact rfl))
            | refine Holds.reg ?_
            | refine Holds.block ?_
            | refine GS.nil ?_
            | refine Gd.nil ?_
            | (refine Holds.any mixed ?_ ?_; (· kernel_rfl))
            | (refine GS.step (s' := ?_) ?_ ?_ ?_; rotate_left; (· exact rfl); (· (simp [go_sem, List.take_of_length_le, hneg, hb1, hb2] <;> with_reducible rfl)))
            | (refine GS.skip ?_ ?_ ?_; (· exact rfl); (· exact rfl))
            | (refine Gd.go (s' := ?_) ?_ ?_ ?_; rotate_left; (· exact rfl); (· (simp [go_sem, List.take_of_length_le, hneg, hb1, hb2] <;> with_reducible rfl)))
            | (refine Gd.skip ?_ ?_ ?_; (· exact rfl); (· exact rfl))
            | fail
          refine ⟨t + 1, by omega, by omega, ?_⟩
          rw [hnx, stept]
          exact Cov.ofn (nm [0, 1, 2, 6]) rfl (by simp [go_sem, List.take_of_length_le, ren, ren1, ren2, okr, okr1, okr2, ChkT, ChkN, BlkN, nf, machineC, intss_snoc, ints_snoc]) (by simp [go_sem, List.take_of_length_le, ren, ren1, ren2, okr, okr1, okr2, ChkT, ChkN, BlkN, nf, machineC, intss_snoc, ints_snoc])
    · have hle2 : t = m.2.1.toNat := by simp at h; omega
      subst hle2
      have hst := hI.step hg hck
      have hb1 : (X.length + 1) * 24 ≤ 140737488355328 := by omega
      generalize (rowS m cur S m.2.1.toNat).1 = S1 at *
      generalize (rowS m cur S m.2.1.toNat).2 = R1 at *
      repeat' first
        | (refine Holds.condT ?_ ?_; (· (simp [go_sem, List.take_of_length_le] <;> with_reducible rfl)))
        | (refine Holds.condF ?_ ?_; (· (simp [go_sem, List.take_of_length_le] <;> with_reducible rfl)))
        | refine Holds.seq ?_
        | refine Holds.skip ?_
        | refine Holds.exit ?_
        | refine Holds.ret ?_
        | refine thenA_normal ?_
        | refine thenA_exit ?_
        | refine thenA_ret ?_
        | refine inB_normal ?_
        | refine inB_ret ?_
        | refine inB_here ?_
        | (refine inB_past ?_ ?_; (· exact rfl))
        | refine Holds.reg ?_
        | refine Holds.block ?_
        | refine GS.nil ?_
        | refine Gd.nil ?_
        | (refine Holds.any mixed ?_ ?_; (· kernel_rfl))
        | (refine GS.stepD 58 (s' := ?_) rfl ?_ ?_ ?_; rotate_left; (· exact rfl); (· (simp [go_sem, List.take_of_length_le] <;> with_reducible rfl)))
        | (refine GS.skip ?_ ?_ ?_; (· exact rfl); (· exact rfl))
        | (refine Gd.go (s' := ?_) ?_ ?_ ?_; rotate_left; (· exact rfl); (· (simp [go_sem, List.take_of_length_le] <;> with_reducible rfl)))
        | (refine Gd.skip ?_ ?_ ?_; (· exact rfl); (· exact rfl))
        | fail
      refine GS.frz [3] [(7, .im 1 (ints R1))] (.cons rfl (Fz.all rfl rfl (by simp) rfl (ints_cl _)) .nil) ?_
      repeat' first
        | (refine Holds.condT ?_ ?_; (· (simp [go_sem, List.take_of_length_le, hb1, frz] <;> with_reducible rfl)))
        | (refine Holds.condF ?_ ?_; (· (simp [go_sem, List.take_of_length_le, hb1, frz] <;> with_reducible rfl)))
        | refine Holds.seq ?_
        | refine Holds.skip ?_
        | refine Holds.exit ?_
        | refine Holds.ret ?_
        | refine thenA_normal ?_
        | refine thenA_exit ?_
        | refine thenA_ret ?_
        | refine inB_normal ?_
        | refine inB_ret ?_
        | refine inB_here ?_
        | (refine inB_past ?_ ?_; (· exact rfl))
        | refine Holds.reg ?_
        | refine Holds.block ?_
        | refine GS.nil ?_
        | refine Gd.nil ?_
        | (refine Holds.any mixed ?_ ?_; (· kernel_rfl))
        | (refine GS.step (s' := ?_) ?_ ?_ ?_; rotate_left; (· exact rfl); (· (simp [go_sem, List.take_of_length_le, hb1, frz] <;> with_reducible rfl)))
        | (refine GS.skip ?_ ?_ ?_; (· exact rfl); (· exact rfl))
        | (refine Gd.go (s' := ?_) ?_ ?_ ?_; rotate_left; (· exact rfl); (· (simp [go_sem, List.take_of_length_le, hb1, frz] <;> with_reducible rfl)))
        | (refine Gd.skip ?_ ?_ ?_; (· exact rfl); (· exact rfl))
        | fail
      refine ⟨(k + 1, S1, X ++ [R1]), hst, by dsimp only; omega, ?_⟩
      rw [stepk]
      exact Cov.ofn (nm [0, 1, 6]) rfl (by simp [go_sem, List.take_of_length_le, ren, ren1, ren2, okr, okr1, okr2, ChkT, ChkN, BlkN, nf, frz, machineC, intss_snoc]) (by simp [go_sem, List.take_of_length_le, ren, ren1, ren2, okr, okr1, okr2, ChkT, ChkN, BlkN, nf, frz, machineC, intss_snoc])
  · have hge : S.length ≤ k := by simp at h; omega
    rw [hI.end hge]
    repeat' first
      | (refine Holds.condT ?_ ?_; (· (simp [go_sem, List.take_of_length_le] <;> with_reducible rfl)))
      | (refine Holds.condF ?_ ?_; (· (simp [go_sem, List.take_of_length_le] <;> with_reducible rfl)))
      | refine Holds.seq ?_
      | refine Holds.skip ?_
      | refine Holds.exit ?_
      | refine Holds.ret ?_
      | refine thenA_normal ?_
      | refine thenA_exit ?_
      | refine thenA_ret ?_
      | refine inB_normal ?_
      | refine inB_ret ?_
      | refine inB_here ?_
      | (refine inB_past ?_ ?_; (· exact rfl))
      | refine Holds.reg ?_
      | refine Holds.block ?_
      | refine GS.nil ?_
      | refine Gd.nil ?_
      | (refine Holds.any mixed ?_ ?_; (· kernel_rfl))
      | (refine GS.step (s' := ?_) ?_ ?_ ?_; rotate_left; (· exact rfl); (· (simp [go_sem, List.take_of_length_le] <;> with_reducible rfl)))
      | (refine GS.skip ?_ ?_ ?_; (· exact rfl); (· exact rfl))
      | (refine Gd.go (s' := ?_) ?_ ?_ ?_; rotate_left; (· exact rfl); (· (simp [go_sem, List.take_of_length_le] <;> with_reducible rfl)))
      | (refine Gd.skip ?_ ?_ ?_; (· exact rfl); (· exact rfl))
      | fail
    refine Out.mk (xs := ?_) ?_ ?_ (by first | exact .inr rfl | exact .inl rfl)
    rotate_left
    · simp [go_sem, List.take_of_length_le] <;> with_reducible rfl
    exact Fz.tuL (.cons (Fz.all rfl rfl (by simp) rfl (intss_ok _)) (.cons (Fz.all rfl rfl (by simp) rfl (intss_ok _)) .nil))
end Go.Proofs.Ytiabaknmgbpmoaa.En
end
section
namespace Go.Proofs.Ytiabaknmgbpmoaa.En
open Go.RowKit
set_option linter.unusedSimpArgs false
set_option linter.unusedVariables false
section
attribute [local semireducible] G Gq Holds GS Pure Out Fn OutF
variable {P : Program} {nt : NT} {Q : Exit → AS → Prop} {s s' s1 s2 t : AS} {ops : Array Oper} {K K1 KF : AS → Prop} {i : Nat} {o : Oper} {l : List Oper} {C : Ctx} {a : Act} {w : World} {S : Nat → Prop} {Ow : Owners} {L : Names} {md : Region.Mode} {M : Nat → Bool} {ws hs : List Nat}
def okP : Kd3 → Kd3 → Bool
  | .o, _ => false
  | _, .o => false
  | .w, .h => true
  | .h, .w => true
  | .w, _ => false
  | _, .w => false
  | _, _ => true
theorem okP_spec {x y : Kd3} (h : okP x y = true) : (x = .w → y = .h) ∧ (y = .w → x = .h) ∧ x ≠ .o ∧ y ≠ .o := by
  cases x <;> cases y <;> simp_all [okP]
def kapI (md : Region.Mode) (ops : Array Oper) (ws hs : List Nat) (i : Nat) : Bool :=
  (List.range ops.size).all fun j => i == j || okP (kind ws hs i) (kind ws hs j) || depB md ops ops.size i j || depB md ops ops.size j i
theorem anyX_firstI (hK : ∀ s s', Eqv s s' → K s → K s') {i : Nat} (hkap : kapI md ops ws hs i = true) {oi : Oper} (hi : ops[i]? = some oi) :
    ∀ (fuel : Nat) (listed : Array Bool) (s s1 : AS), DC md ops listed →
      (∀ j oj, ops[j]? = some oj → j ≠ i → listed.getD j true = false → (∀ e ∈ oj.after, Region.binds md e = true → e.on ≠ i) → oi.apart ops oj = true) →
      i ∈ Region.ready md ops listed → xS P nt ops M (kind ws hs i) oi s s1 → AnyX P nt md ops ws hs M K fuel (listed.setIfInBounds i true) s1 → AnyX P nt md ops ws hs M K (fuel + 1) listed s := by
  intro fuel
  induction fuel with
  | zero =>
    intro listed s s1 _ _ hr hy H
    refine ⟨fun h => (by rw [h] at hr; cases hr), fun j hj => ?_⟩
    by_cases hji : j = i
    · subst hji; exact ⟨oi, s1, hi, hy, H⟩
    · have := ready_mono hj hji
      rw [H.1] at this
      cases this
  | succ fuel ih =>
    intro listed s s1 hdc hfree hr hy H
    refine ⟨fun h => (by rw [h] at hr; cases hr), fun j hj => ?_⟩
    by_cases hji : j = i
    · subst hji; exact ⟨oi, s1, hi, hy, H⟩
    · obtain ⟨oj, s2, hoj, hsj, hkj⟩ := H.2 j (ready_mono hj hji)
      obtain ⟨hjun, oj', hoj', hall⟩ := mem_ready.1 hj
      rw [hoj] at hoj'
      cases hoj'
      have hnot : ∀ e ∈ oj.after, Region.binds md e = true → e.on ≠ i := fun e he hb heq => by
        have h1 := hall e he hb
        rw [heq, ready_un hr] at h1
        cases h1
      obtain ⟨a1, a2, a3⟩ := Oper.apart_spec (hfree j oj hoj hji hjun hnot)
      have hjl : j < ops.size := (Array.getElem?_eq_some_iff.1 hoj).1
      have kk : (kind ws hs i = .w → kind ws hs j = .h) ∧ (kind ws hs j = .w → kind ws hs i = .h) ∧ kind ws hs i ≠ .o ∧ kind ws hs j ≠ .o := by
        simp only [kapI, List.all_eq_true] at hkap
        have := hkap j (List.mem_range.2 hjl)
        simp only [Bool.or_eq_true, beq_iff_eq] at this
        rcases this with ((h | h) | h) | h
        · exact absurd h.symm hji
        · exact okP_spec h
        · exact absurd hj (dep_not hdc (ready_un hr) _ _ h).2
        · exact absurd hr (dep_not hdc (ready_un hj) _ _ h).2
      obtain ⟨t, s2', g1, g2, g3⟩ := xS.comm kk a1 a2 a3 hy hsj
      refine ⟨oj, t, hoj, g1, ?_⟩
      have hfree' : ∀ k ok, ops[k]? = some ok → k ≠ i → (listed.setIfInBounds j true).getD k true = false →
          (∀ e ∈ ok.after, Region.binds md e = true → e.on ≠ i) → oi.apart ops ok = true := fun k ok hk hki hun hno => by
        refine hfree k ok hk hki ?_ hno
        by_cases hjk : j = k
        · subst hjk; exact hjun
        · rw [getD_set_ne true hjk] at hun; exact hun
      refine ih (listed.setIfInBounds j true) t s2' (hdc.set hj) hfree' (ready_mono hr (Ne.symm hji)) g2 ?_
      rw [Array.setIfInBounds_comm _ _ hji]
      exact AnyX.eqv hK _ _ _ _ g3 hkj
def setN : Nat → Nat → Array Bool → Array Bool
  | 0, _, x => x
  | n + 1, k, x => setN n (k + 1) (x.setIfInBounds k true)
theorem Gx.closed {k : Nat} : ∀ s s', Eqv s s' → Gx P nt ops ws hs M K k l s → Gx P nt ops ws hs M K k l s' := fun s s' e h => .eqv e.symm h
theorem Gx.nil_inv {k : Nat} (hK : ∀ s s', Eqv s s' → K s → K s') (h : Gx P nt ops ws hs M K k [] s) : K s := by
  generalize hl : ([] : List Oper) = l at h
  induction h with
  | nil h => exact h
  | step _ _ _ => cases hl
  | eqv he _ ih => exact hK _ _ he.symm (ih hl)
theorem Gx.one {k : Nat} (hK : ∀ s s', Eqv s s' → K s → K s') (h : Gx P nt ops ws hs M K k [o] s) : ∃ s', xS P nt ops M (kind ws hs k) o s s' ∧ K s' := by
  generalize hl : [o] = l at h
  induction h with
  | nil h => cases hl
  | step hx h _ => cases hl; exact ⟨_, hx, h.nil_inv hK⟩
  | eqv he _ ih =>
    obtain ⟨s', hx, hk⟩ := ih hl
    obtain ⟨t', e', hx'⟩ := hx.eqv he.symm
    exact ⟨t', hx', hK _ _ e' hk⟩
/-- The walk over some operations, ahead of what is known of the rest. -/
theorem anyX_lexB (hKF : ∀ s s', Eqv s s' → KF s → KF s') {n2 : Nat} {k : Nat} {l : List Oper} {s : AS} (h : Gx P nt ops ws hs M K1 k l s) : ∀ (listed : Array Bool), DC md ops listed → (∀ j, j < l.length → l[j]? = ops[k + j]?) →
    Region.lexFrom md ops (l.length + n2) k listed = true → (∀ i, k ≤ i → i < k + l.length → kapI md ops ws hs i = true) →
    (∀ s, K1 s → DC md ops (setN l.length k listed) → Region.lexFrom md ops n2 (k + l.length) (setN l.length k listed) = true → AnyX P nt md ops ws hs M KF n2 (setN l.length k listed) s) → AnyX P nt md ops ws hs M KF (l.length + n2) listed s := by
  induction h with
  | nil h => intro listed hdc _ hB _ hb; simpa [setN] using hb _ h hdc (by simpa [setN] using hB)
  | eqv he _ ih => intro listed hdc hl hB hk hb; exact AnyX.eqv hKF _ _ _ _ he.symm (ih listed hdc hl hB hk hb)
  | step hx _ ih =>
    rename_i k o l s s' _
    intro listed hdc hl hB hk hb
    have h0 : ops[k]? = some o := by simpa using (hl 0 (by simp)).symm
    rw [show (o :: l).length + n2 = (l.length + n2) + 1 by simp only [List.length_cons]; omega] at hB ⊢
    simp only [Region.lexFrom, Bool.and_eq_true] at hB
    obtain ⟨⟨hr, hf⟩, hB'⟩ := hB
    have hr' : k ∈ Region.ready md ops listed := by simpa using hr
    refine anyX_firstI hKF (hk k (Nat.le_refl _) (by simp)) h0 (l.length + n2) listed s s' hdc (Region.free_spec h0 hf) hr' hx (ih _ (hdc.set hr') (fun j hj => ?_) hB' (fun i h1 h2 => hk i (by omega) (by simp only [List.length_cons]; omega)) ?_)
    · have := hl (j + 1) (by simp only [List.length_cons]; omega); simpa [Nat.add_assoc, Nat.add_comm 1 j] using this
    · intro s hs' hd hB2
      refine hb s hs' hd ?_
      simp only [List.length_cons, setN]
      rw [show k + (l.length + 1) = k + 1 + l.length by omega]; exact hB2
/-- Two operations, each ahead of the other. -/
def Dia (P : Program) (nt : NT) (ops : Array Oper) (ws hs : List Nat) (M : Nat → Bool) (K : AS → Prop) (c : Nat) (oc oj : Oper) (l2 : List Oper) (s : AS) : Prop :=
  Gx P nt ops ws hs M (fun s1 => Gx P nt ops ws hs M (fun s2 => Gx P nt ops ws hs M K (c + 2) l2 s2) (c + 1) [oj] s1) c [oc] s ∧
  Gx P nt ops ws hs M (fun s1 => Gx P nt ops ws hs M (fun s2 => Gx P nt ops ws hs M K (c + 2) l2 s2) c [oc] s1) (c + 1) [oj] s
def diaB (md : Region.Mode) (ops : Array Oper) (c : Nat) : Bool :=
  let x := setN c 0 (Array.replicate ops.size false)
  (Region.ready md ops x).all (fun i => i == c || i == c + 1) && (Region.ready md ops (x.setIfInBounds c true)).all (fun i => i == c + 1) && (Region.ready md ops (x.setIfInBounds (c + 1) true)).all (fun i => i == c) &&
    (Region.ready md ops x).contains c && (Region.ready md ops (x.setIfInBounds c true)).contains (c + 1) && (Region.ready md ops (x.setIfInBounds (c + 1) true)).contains c && decide (c + 1 < ops.size)
def kapD (md : Region.Mode) (ops : Array Oper) (ws hs : List Nat) (c : Nat) : Bool := (List.range ops.size).all fun i => i == c || i == c + 1 || kapI md ops ws hs i
theorem Holds.dia {id c : Nat} {l1 l2 : List Oper} {oc oj : Oper} {y : Code} {Q' : Exit → AS → Prop} (s0 : AS) (ws hs : List Nat) (M : Nat → Bool) (hm : P.follows .mixedOrders = true) (h1 : l.take c = l1) (h2 : l.drop c = oc :: oj :: l2)
    (hB : Region.lexB .any l.toArray = true) (hD : (diaB .any l.toArray c && kapD .any l.toArray ws hs c) = true)
    (hx : Gx P nt l.toArray ws hs M (fun s => Dia P nt l.toArray ws hs M (fun s' => Cov nt.k s0 s') c oc oj l2 s) 0 l1 s) (hk : Holds P nt y Q' s0) : Holds P nt (.region id l.toArray true) (thenA (Holds P nt y Q') Q) s := by
  intro C a w S Ow L hn hR
  simp only [Bool.and_eq_true] at hD
  obtain ⟨hD, hkap⟩ := hD
  simp only [diaB, Bool.and_eq_true, List.all_eq_true, decide_eq_true_eq, Bool.or_eq_true, beq_iff_eq, List.contains_iff_mem, List.size_toArray] at hD
  obtain ⟨⟨⟨⟨⟨⟨d1, d2⟩, d3⟩, d4⟩, d5⟩, d6⟩, d7⟩ := hD
  simp only [kapD, List.all_eq_true, Bool.or_eq_true, beq_iff_eq, List.mem_range, List.size_toArray] at hkap
  simp only [Region.lexB, Bool.and_eq_true] at hB
  refine wp_region_any hm ?_
  have hlen : l.length = l1.length + (l2.length + 1 + 1) := by
    have h3 := congrArg List.length h1
    have h4 := congrArg List.length h2
    simp only [List.length_take, List.length_drop, List.length_cons] at h3 h4
    omega
  have hc : l1.length = c := by
    have h3 := congrArg List.length h1
    simp only [List.length_take] at h3
    omega
  have hl1 : ∀ j, j < l1.length → l1[j]? = l.toArray[0 + j]? := fun j hj => by
    rw [← h1, List.getElem?_take, if_pos (by omega), Nat.zero_add, List.getElem?_toArray]
  have hl2 : ∀ j, (oc :: oj :: l2)[j]? = l.toArray[c + j]? := fun j => by
    rw [← h2, List.getElem?_drop, List.getElem?_toArray]
  -- K: closed under Eqv
  let KF : AS → Prop := fun s => ∃ s1, Eqv s1 s ∧ Cov nt.k s0 s1
  have hKF : ∀ s s' : AS, Eqv s s' → KF s → KF s' := fun s s' e ⟨s1, e1, q⟩ => ⟨s1, e1.trans e, q⟩
  have mono : ∀ {K K' : AS → Prop} (hk : ∀ s, K s → K' s) {k : Nat} {l' : List Oper} {s : AS}, Gx P nt l.toArray ws hs M K k l' s → Gx P nt l.toArray ws hs M K' k l' s := by
    intro K K' hk k l' s h
    induction h with
    | nil h => exact .nil (hk _ h)
    | step hx _ ih => exact .step hx ih
    | eqv he _ ih => exact .eqv he ih
  have base : ∀ s, Dia P nt l.toArray ws hs M (fun s' => Cov nt.k s0 s') c oc oj l2 s → DC .any l.toArray (setN c 0 (Array.replicate l.length false)) →
      Region.lexFrom .any l.toArray (l2.length + 1 + 1) c (setN c 0 (Array.replicate l.length false)) = true → AnyX P nt .any l.toArray ws hs M KF (l2.length + 1 + 1) (setN c 0 (Array.replicate l.length false)) s := by
    intro s ⟨w1, w2⟩ hdc hB2
    generalize setN c 0 (Array.replicate l.length false) = x at hdc hB2 d1 d2 d3 d4 d5 d6
    have o1 : l.toArray[c]? = some oc := by simpa using (hl2 0).symm
    have o2 : l.toArray[c + 1]? = some oj := by simpa using (hl2 1).symm
    simp only [Region.lexFrom, Bool.and_eq_true] at hB2
    have hB3 := hB2.2.2
    have hdc2 := (hdc.set d4).set d5
    have rest : ∀ s, Gx P nt l.toArray ws hs M (fun s' => Cov nt.k s0 s') (c + 2) l2 s → AnyX P nt .any l.toArray ws hs M KF l2.length ((x.setIfInBounds c true).setIfInBounds (c + 1) true) s := by
      intro s hg
      have hg2 := mono (K' := KF) (fun s h => ⟨s, Eqv.refl s, h⟩) hg
      have := anyX_lexB (md := .any) (n2 := 0) hKF hg2 ((x.setIfInBounds c true).setIfInBounds (c + 1) true) hdc2 (fun j hj => by
        have := hl2 (j + 2); simpa [Nat.add_assoc, Nat.add_comm 2 j] using this) (by simpa using hB3) (fun i h1 h2 => by
          rcases hkap i (by omega) with (h | h) | h
          · omega
          · omega
          · exact h) (fun s hs' _ hB4 => ⟨by simpa [Region.lexFrom] using hB4, hs'⟩)
      simpa using this
    obtain ⟨sa, xa, ga⟩ := w1.one (fun s s' e h => Gx.closed s s' e h)
    obtain ⟨sb, xb, gb⟩ := Gx.one (fun s s' e h => Gx.closed s s' e h) ga
    obtain ⟨sc, xc, gc⟩ := w2.one (fun s s' e h => Gx.closed s s' e h)
    obtain ⟨sd, xd, gd⟩ := Gx.one (fun s s' e h => Gx.closed s s' e h) gc
    refine ⟨fun h => (by rw [h] at d4; cases d4), fun i hi => ?_⟩
    rcases d1 i hi with rfl | rfl
    · refine ⟨oc, sa, o1, xa, fun h => (by rw [h] at d5; cases d5), fun i hi => ?_⟩
      obtain rfl := d2 i hi
      exact ⟨oj, sb, o2, xb, rest sb gb⟩
    · refine ⟨oj, sc, o2, xc, fun h => (by rw [h] at d6; cases d6), fun i hi => ?_⟩
      obtain rfl := d3 i hi
      refine ⟨oc, sd, o1, xd, ?_⟩
      rw [Array.setIfInBounds_comm _ _ (by omega)]
      exact rest sd gd
  have := anyX_lexB (md := .any) (n2 := l2.length + 1 + 1) hKF hx (Array.replicate l.length false) (fun j o _ hj => by
    have : (Array.replicate l.length false).getD j false = false := by
      simp only [Array.getD_eq_getD_getElem?, Array.getElem?_replicate]; split <;> rfl
    rw [this] at hj; cases hj) hl1 (by rw [← hlen]; simpa using hB.2) (fun i h1 h2 => by
      rcases hkap i (by omega) with (h | h) | h
      · omega
      · omega
      · exact h) (by rw [hc, Nat.zero_add]; exact base)
  rw [← hlen] at this
  refine wpAny_of_anyX (K := KF) (fun s' a w S Ow L hk' hR => ?_) hn _ _ _ _ _ _ _ _ (hR.drawn (w' := { w with drawn := w.drawn + 1 }) rfl rfl rfl rfl) (by simpa using this)
  obtain ⟨s1, e, q⟩ := hk'
  exact ⟨s1, S, Ow, L, thenA_normal (Holds.cov q hk), hR.eqv e.symm⟩
/-- Calls in such a region that look at own rows and make new ones. -/
theorem FzL.sub {bl bl' : List (Nat × Blk)} {xs ys : List AV} (h : FzL bl xs ys) (e : bl = bl') : FzL bl' xs ys := e ▸ h
theorem Wr.fnd {c : Operand} {aas : Array Operand} {ts : Array TypeId} {f : FuncId} {xs cap args : List AV} {m : Nat} {outs bl' : List (Nat × Blk)} {r : AV} (hp : Fn P f 0 args [] r m outs) (hop : o.op = .call ⟨.value c, aas, ts⟩) (hg : gd ops s o = some true) (hd : okd nt.n o.dst = true)
    (hc : ev s c = some (.fn f cap)) (he : aas.toList.mapM (ev s) = some xs) (hf : FzL s.bl (xs ++ cap) args) (hom : outs.all (fun p => decide (p.1 < m)) = true)
    (hor : Ony r) (hoo : ∀ p ∈ outs, onyR p.2.xs) (hr : okr m r = true) (hren : RenB (fun n => s.nx + n) m outs bl') (hM : (bl' ++ s.bl).filter (fun p => !M p.1) = s.bl.filter fun p => !M p.1) : Wr P nt ops M s o (En.ren (fun n => s.nx + n) r) (bl' ++ s.bl) (s.nx + m) := by
  refine ⟨hM, fun tm' h' C a w S Ow L i Q K hn ho hR hK => ?_⟩
  have hev : ∀ y ∈ o.op.operands, ev ⟨tm', s.bl, s.nx⟩ y = ev s y := ev_tm (s1 := ⟨tm', s.bl, s.nx⟩) h'
  have hev' := hev
  rw [hop] at hev'
  simp only [Op.operands, Call.operands] at hev'
  exact fnd_wp (s := ⟨tm', s.bl, s.nx⟩) ho (by rw [gd_tm (s := s) h']; exact hg) hop hd (by rw [hev' _ (by simp)]; exact hc)
    (by rw [mapM_congr (g := ev s) fun y hy => hev' y (by simp at hy; simp [hy])]; exact he) hf hom hp hor hoo hr hren hn hR hK
theorem Gx.fnnd {k : Nat} {c : Operand} {aas : Array Operand} {ts : Array TypeId} {f : FuncId} {xs cap args : List AV} {m : Nat} {outs bl' : List (Nat × Blk)} {r : AV} (hp : Fn P f 0 args [] r m outs) (hk : kind ws hs k = .w) (hop : o.op = .call ⟨.value c, aas, ts⟩) (hg : gd ops s o = some true) (hd : okd nt.n o.dst = true)
    (hc : ev s c = some (.fn f cap)) (he : aas.toList.mapM (ev s) = some xs) (hf : FzL s.bl (xs ++ cap) args) (hom : outs.all (fun p => decide (p.1 < m)) = true)
    (hor : Ony r) (hoo : ∀ p ∈ outs, onyR p.2.xs) (hr : okr m r = true) (hren : RenB (fun n => s.nx + n) m outs bl') (hM : (bl' ++ s.bl).filter (fun p => !M p.1) = s.bl.filter fun p => !M p.1) (hs1 : put (aft0 s m bl') o.dst (En.ren (fun n => s.nx + n) r) = s1) (h : Gx P nt ops ws hs M K (k + 1) l s1) : Gx P nt ops ws hs M K k (o :: l) s := by
  subst hs1
  refine .step (s' := put (aft0 s m bl') o.dst (En.ren (fun n => s.nx + n) r)) ?_ h
  rw [hk]
  exact ⟨_, _, _, Wr.fnd hp hop hg hd hc he hf hom hor hoo hr hren hM, rfl⟩
theorem Gx.fnndo {k : Nat} {c : Operand} {aas : Array Operand} {ts : Array TypeId} {f : FuncId} {xs cap args : List AV} {m : Nat} {outs bl' : List (Nat × Blk)} {r : AV} (hp : Fn P f 0 args [] r m outs) (hk : kind ws hs k = .o) (hop : o.op = .call ⟨.value c, aas, ts⟩) (hg : gd ops s o = some true) (hd : okd nt.n o.dst = true)
    (hc : ev s c = some (.fn f cap)) (he : aas.toList.mapM (ev s) = some xs) (hf : FzL s.bl (xs ++ cap) args) (hom : outs.all (fun p => decide (p.1 < m)) = true)
    (hor : Ony r) (hoo : ∀ p ∈ outs, onyR p.2.xs) (hr : okr m r = true) (hren : RenB (fun n => s.nx + n) m outs bl') (hs1 : put (aft0 s m bl') o.dst (En.ren (fun n => s.nx + n) r) = s1) (h : Gx P nt ops ws hs M K (k + 1) l s1) : Gx P nt ops ws hs M K k (o :: l) s := by
  subst hs1
  refine .step (s' := put (aft0 s m bl') o.dst (En.ren (fun n => s.nx + n) r)) ?_ h
  rw [hk]
  exact ⟨_, _, _, Wr.fnd (M := fun _ => true) hp hop hg hd hc he hf hom hor hoo hr hren (hid_all _ _), rfl⟩
end
end Go.Proofs.Ytiabaknmgbpmoaa.En
end
section
namespace Go.Proofs.Ytiabaknmgbpmoaa.En
open Go.RowKit
set_option linter.unusedSimpArgs false
set_option linter.unusedVariables false
set_option maxHeartbeats 4000000
theorem intssO_one (r : List Int) : [[AV.ow 3 1 (ints r)]] = intssO [r] := by simp [intssO, intsO1]
theorem oAt (xs : List (List Int)) (r : List AV) : (intssO xs ++ [r])[xs.length]? = some r := by simp
theorem oSnoc (xs : List (List Int)) (r : List AV) (q : List Int) : (intssO xs ++ [r]).set xs.length [.ow 3 1 (ints q)] = intssO (xs ++ [q]) := by
  have h : (intssO xs).length = xs.length := intssO_len xs
  rw [List.set_append_right _ _ (by omega), h, Nat.sub_self]; simp [intssO, intsO1]
theorem oApp (xs : List (List Int)) (q : List Int) : intssO xs ++ [[.ow 3 1 (ints q)]] = intssO (xs ++ [q]) := by simp [intssO, intsO1]
theorem oSet (xs : List (List Int)) {i : Nat} {q : List Int} (h : xs[i]? = some q) : (intssO xs).set i [.ow 3 1 (ints q)] = intssO xs := by
  obtain ⟨hi, e⟩ := List.getElem?_eq_some_iff.1 h
  subst e
  refine List.ext_getElem? fun k => ?_
  by_cases hk : i = k
  · subst hk; simp [List.getElem?_set, hi, intsO1]
  · simp [List.getElem?_set, hk]
theorem oPut (xs : List (List Int)) (i : Nat) (q : List Int) : (intssO xs).set i [.ow 3 1 (ints q)] = intssO (xs.set i q) := by simp [intssO, intsO1, List.map_set]
theorem oGet {xs : List (List Int)} {i : Nat} {q : List Int} (h : xs[i]? = some q) : (intssO xs)[i]? = some [.ow 3 1 (ints q)] := by simp [h, intsO1]
theorem Fz.pbM {bl : List (Nat × Blk)} {n sz : Nat} {k : Blk} {row ys : List AV} (hk : lb bl n = some k) (hx : k.xs = [row]) (hz : k.sz = sz) (h : FzL bl row ys) : Fz bl (.pb n sz 0 0) (.pi ys) := by
  subst hz
  exact .pb n 0 0 k row ys hk (by rw [hx]; rfl) (by rw [List.drop_zero]; exact Nat.le_of_eq h.len) (fun q x y h1 h2 => h.get q x y (by simpa using h1) h2)
theorem indexFuncIntS (g : FuncId) (cap : List AV) (p : (List Int) → Bool) (xs : List (List Int)) (hx : xs.length < 4611686018427387904) (hcap : cap.all cl1 = true) (hg : ∀ x ∈ xs, Pure Try.prog g (.im 1 (ints x) :: cap) (.v (.bool (p x)))) : Pure Try.prog 72 [.im 1 (intss xs), .fn g cap] (.v (.int .i64 (fstP p xs 0))) := by
  refine Pure.mk (rs := [.tmp 4]) (nt := 19) Try.func72 (by kernel_rfl) rfl rfl rfl (by simp) ?_
  simp only [sl]
  repeat' first
    | refine Holds.seq ?_
    | refine Holds.skip ?_
    | refine Holds.exit ?_
    | refine Holds.ret ?_
    | refine thenA_normal ?_
    | refine thenA_exit ?_
    | refine thenA_ret ?_
    | refine inB_normal ?_
    | refine inB_ret ?_
    | refine inB_here ?_
    | (refine inB_past ?_ ?_; (· exact rfl))
    | refine Holds.reg ?_
    | refine Holds.block ?_
    | refine GS.nil ?_
    | (refine GS.step (s' := ?_) ?_ ?_ ?_; rotate_left; (· exact rfl); (· (simp [go_sem, List.take_of_length_le] <;> with_reducible rfl)))
    | (refine GS.skip ?_ ?_ ?_; (· exact rfl); (· exact rfl))
    | fail
  refine Holds.loop (ι := Nat) (fun i => ⟨[(0, .im 1 (intss xs)), (1, .fn g cap), (7, .v (.int .i64 xs.length)), (8, .v (.int .i64 i))], [], 0⟩) (fun i => i ≤ xs.length ∧ ∀ j, j < i → ∀ x, xs[j]? = some x → p x = false) (fun i => xs.length - i) 0 ⟨Nat.zero_le _, fun j hj => absurd hj (Nat.not_lt_zero j)⟩ ?_ ?_
  · exact Cov.ofn id rfl (by simp [go_sem, ren, ren1, okr, okr1, ChkT, okr1_cap hcap, ren1_cap hcap]) (by simp [ChkN])
  rintro i ⟨hi, hno⟩
  repeat' first
    | refine Holds.seq ?_
    | refine Holds.skip ?_
    | refine Holds.exit ?_
    | refine Holds.ret ?_
    | refine thenA_normal ?_
    | refine thenA_exit ?_
    | refine thenA_ret ?_
    | refine inB_normal ?_
    | refine inB_ret ?_
    | refine inB_here ?_
    | (refine inB_past ?_ ?_; (· exact rfl))
    | refine Holds.reg ?_
    | refine Holds.block ?_
    | refine GS.nil ?_
    | (refine GS.step (s' := ?_) ?_ ?_ ?_; rotate_left; (· exact rfl); (· (simp [go_sem, List.take_of_length_le] <;> with_reducible rfl)))
    | (refine GS.skip ?_ ?_ ?_; (· exact rfl); (· exact rfl))
    | fail
  refine Holds.cond rfl (fun hl => ?_) (fun hl => ?_)
  · have hlt : i < xs.length := by simpa using hl
    have hxi : xs[i]? = some xs[i] := List.getElem?_eq_getElem hlt
    have hgi := hg _ (List.getElem_mem hlt)
    repeat' first
      | refine Holds.seq ?_
      | refine Holds.skip ?_
      | refine Holds.exit ?_
      | refine Holds.ret ?_
      | refine thenA_normal ?_
      | refine thenA_exit ?_
      | refine thenA_ret ?_
      | refine inB_normal ?_
      | refine inB_ret ?_
      | refine inB_here ?_
      | (refine inB_past ?_ ?_; (· exact rfl))
      | refine Holds.reg ?_
      | refine Holds.block ?_
      | refine GS.nil ?_
      | (refine GS.step (s' := ?_) ?_ ?_ ?_; rotate_left; (· exact rfl); (· (simp [go_sem, List.take_of_length_le, hxi , intsC] <;> with_reducible rfl)))
      | (refine GS.skip ?_ ?_ ?_; (· exact rfl); (· exact rfl))
      | fail
    refine GS.cc (hgi) rfl rfl rfl rfl (by simp [go_sem, List.take_of_length_le, hcap, all_cl1 hcap , intsC] <;> with_reducible rfl) rfl (by simp [go_sem, List.take_of_length_le, hcap, all_cl1 hcap , intsC]) ?_
    repeat' first
      | refine Holds.seq ?_
      | refine Holds.skip ?_
      | refine Holds.exit ?_
      | refine Holds.ret ?_
      | refine thenA_normal ?_
      | refine thenA_exit ?_
      | refine thenA_ret ?_
      | refine inB_normal ?_
      | refine inB_ret ?_
      | refine inB_here ?_
      | (refine inB_past ?_ ?_; (· exact rfl))
      | refine Holds.reg ?_
      | refine Holds.block ?_
      | refine GS.nil ?_
      | (refine GS.step (s' := ?_) ?_ ?_ ?_; rotate_left; (· exact rfl); (· (simp [go_sem, List.take_of_length_le] <;> with_reducible rfl)))
      | (refine GS.skip ?_ ?_ ?_; (· exact rfl); (· exact rfl))
      | fail
    refine Holds.cond rfl (fun hl => ?_) (fun hl => ?_)
    · rw [fstP_at xs i 0 hxi hl hno, Nat.zero_add]
      repeat' first
        | refine Holds.seq ?_
        | refine Holds.skip ?_
        | refine Holds.exit ?_
        | refine Holds.ret ?_
        | refine thenA_normal ?_
        | refine thenA_exit ?_
        | refine thenA_ret ?_
        | refine inB_normal ?_
        | refine inB_ret ?_
        | refine inB_here ?_
        | (refine inB_past ?_ ?_; (· exact rfl))
        | refine Holds.reg ?_
        | refine Holds.block ?_
        | refine GS.nil ?_
        | (refine GS.step (s' := ?_) ?_ ?_ ?_; rotate_left; (· exact rfl); (· (simp [go_sem, List.take_of_length_le] <;> with_reducible rfl)))
        | (refine GS.skip ?_ ?_ ?_; (· exact rfl); (· exact rfl))
        | fail
      refine Out.mk (xs := ?_) ?_ ?_ (by first | exact .inr rfl | exact .inl rfl)
      rotate_left
      · simp [go_sem, List.take_of_length_le] <;> with_reducible rfl
      exact .v _
    · repeat' first
        | refine Holds.seq ?_
        | refine Holds.skip ?_
        | refine Holds.exit ?_
        | refine Holds.ret ?_
        | refine thenA_normal ?_
        | refine thenA_exit ?_
        | refine thenA_ret ?_
        | refine inB_normal ?_
        | refine inB_ret ?_
        | refine inB_here ?_
        | (refine inB_past ?_ ?_; (· exact rfl))
        | refine Holds.reg ?_
        | refine Holds.block ?_
        | refine GS.nil ?_
        | (refine GS.step (s' := ?_) ?_ ?_ ?_; rotate_left; (· exact rfl); (· (simp [go_sem, List.take_of_length_le] <;> with_reducible rfl)))
        | (refine GS.skip ?_ ?_ ?_; (· exact rfl); (· exact rfl))
        | fail
      refine ⟨i + 1, ⟨by omega, fun j hj x hxj => ?_⟩, by omega, ?_⟩
      · by_cases e : j = i
        · subst e; rw [hxi] at hxj; cases hxj; exact hl
        · exact hno j (by omega) x hxj
      rw [wr64_id (by omega) (by omega)]
      exact Cov.ofn id rfl (by simp [go_sem, ren, ren1, okr, okr1, ChkT, okr1_cap hcap, ren1_cap hcap]) (by simp [ChkN])
  · have hle : i = xs.length := by
      have : ¬ i < xs.length := by simpa using hl
      omega
    rw [fstP_no xs 0 fun j x hj => hno j (by have := (List.getElem?_eq_some_iff.1 hj).1; omega) x hj]
    repeat' first
      | refine Holds.seq ?_
      | refine Holds.skip ?_
      | refine Holds.exit ?_
      | refine Holds.ret ?_
      | refine thenA_normal ?_
      | refine thenA_exit ?_
      | refine thenA_ret ?_
      | refine inB_normal ?_
      | refine inB_ret ?_
      | refine inB_here ?_
      | (refine inB_past ?_ ?_; (· exact rfl))
      | refine Holds.reg ?_
      | refine Holds.block ?_
      | refine GS.nil ?_
      | (refine GS.step (s' := ?_) ?_ ?_ ?_; rotate_left; (· exact rfl); (· (simp [go_sem, List.take_of_length_le] <;> with_reducible rfl)))
      | (refine GS.skip ?_ ?_ ?_; (· exact rfl); (· exact rfl))
      | fail
    refine Out.mk (xs := ?_) ?_ ?_ (by first | exact .inr rfl | exact .inl rfl)
    rotate_left
    · simp [go_sem, List.take_of_length_le] <;> with_reducible rfl
    exact .v _
end Go.Proofs.Ytiabaknmgbpmoaa.En
end
section
namespace Go.Proofs.Ytiabaknmgbpmoaa.En
open Go.RowKit
set_option linter.unusedSimpArgs false
set_option linter.unusedVariables false
set_option maxHeartbeats 8000000
theorem sets1 (o s : List Int) (ho : o.length < 4611686018427387904) : Pure Try.prog 112 [.im 1 (ints o), .pi [.im 1 (ints s)]] (.v (.bool (decide (o = s)))) := by
  refine Pure.mk (rs := [.tmp 3]) (nt := 7) Try.func112 (by kernel_rfl) rfl rfl rfl (by simp) ?_
  simp only [sl]
  have c := equalInts o s ho
  repeat' first
    | (refine Holds.condT ?_ ?_; (· (simp [go_sem, List.take_of_length_le] <;> with_reducible rfl)))
    | (refine Holds.condF ?_ ?_; (· (simp [go_sem, List.take_of_length_le] <;> with_reducible rfl)))
    | refine Holds.seq ?_
    | refine Holds.skip ?_
    | refine Holds.exit ?_
    | refine Holds.ret ?_
    | refine thenA_normal ?_
    | refine thenA_exit ?_
    | refine thenA_ret ?_
    | refine inB_normal ?_
    | refine inB_ret ?_
    | refine inB_here ?_
    | (refine inB_past ?_ ?_; (· exact rfl))
    | refine Holds.reg ?_
    | refine Holds.block ?_
    | refine GS.nil ?_
    | (refine GS.step (s' := ?_) ?_ ?_ ?_; rotate_left; (· exact rfl); (· (simp [go_sem, List.take_of_length_le] <;> with_reducible rfl)))
    | (refine GS.skip ?_ ?_ ?_; (· exact rfl); (· exact rfl))
    | fail
  refine GS.cc (c) rfl rfl rfl rfl (by simp [go_sem, List.take_of_length_le] <;> with_reducible rfl) rfl (by simp [go_sem, List.take_of_length_le]) ?_
  repeat' first
    | (refine Holds.condT ?_ ?_; (· (simp [go_sem, List.take_of_length_le] <;> with_reducible rfl)))
    | (refine Holds.condF ?_ ?_; (· (simp [go_sem, List.take_of_length_le] <;> with_reducible rfl)))
    | refine Holds.seq ?_
    | refine Holds.skip ?_
    | refine Holds.exit ?_
    | refine Holds.ret ?_
    | refine thenA_normal ?_
    | refine thenA_exit ?_
    | refine thenA_ret ?_
    | refine inB_normal ?_
    | refine inB_ret ?_
    | refine inB_here ?_
    | (refine inB_past ?_ ?_; (· exact rfl))
    | refine Holds.reg ?_
    | refine Holds.block ?_
    | refine GS.nil ?_
    | (refine GS.step (s' := ?_) ?_ ?_ ?_; rotate_left; (· exact rfl); (· (simp [go_sem, List.take_of_length_le] <;> with_reducible rfl)))
    | (refine GS.skip ?_ ?_ ?_; (· exact rfl); (· exact rfl))
    | fail
  refine Out.mk (xs := ?_) ?_ ?_ (by first | exact .inr rfl | exact .inl rfl)
  rotate_left
  · simp [go_sem, List.take_of_length_le] <;> with_reducible rfl
  exact .v _
theorem implSets (m : MachineT) (hg : goodM m = true) (hx : m.2.2.1.length ≤ 1048576) : Fn Try.prog 68 0 [.ag (machineC m)] [] (.tu [.own 0 1 0 (setsM m).1.length, .own 1 1 0 (setsM m).2.length]) 2 [(0, ⟨25, 1, intssO (setsM m).1⟩), (1, ⟨25, 1, intssO (setsM m).2⟩)] := by
  refine Fn.mk (rs := [.tmp 2, .tmp 3]) (nt := 55) Try.func68 (by kernel_rfl) rfl rfl rfl (by simp) ?_
  simp only [sl, machineC]
  have hT := good_toks hg
  repeat' first
    | (refine Holds.condT ?_ ?_; (· (simp [go_sem, List.take_of_length_le] <;> with_reducible rfl)))
    | (refine Holds.condF ?_ ?_; (· (simp [go_sem, List.take_of_length_le] <;> with_reducible rfl)))
    | refine Holds.seq ?_
    | refine Holds.skip ?_
    | refine Holds.exit ?_
    | refine Holds.ret ?_
    | refine thenA_normal ?_
    | refine thenA_exit ?_
    | refine thenA_ret ?_
    | refine inB_normal ?_
    | refine inB_ret ?_
    | refine inB_here ?_
    | (refine inB_past ?_ ?_; (· exact rfl))
    | refine Holds.reg ?_
    | refine Holds.block ?_
    | refine GS.nil ?_
    | refine Gd.nil ?_
    | (refine Holds.any mixed ?_ ?_; (· kernel_rfl))
    | (refine GS.step (s' := ?_) ?_ ?_ ?_; rotate_left; (· exact rfl); (· (simp [go_sem, List.take_of_length_le] <;> with_reducible rfl)))
    | (refine GS.skip ?_ ?_ ?_; (· exact rfl); (· exact rfl))
    | (refine Gd.go (s' := ?_) ?_ ?_ ?_; rotate_left; (· exact rfl); (· (simp [go_sem, List.take_of_length_le] <;> with_reducible rfl)))
    | (refine Gd.skip ?_ ?_ ?_; (· exact rfl); (· exact rfl))
    | fail
  refine Holds.loop (ι := Nat × List (List Int) × List (List Int)) (fun i => ⟨[(1, .pb 0 4 0 0), (4, .own 1 1 0 i.2.1.length), (5, .own 2 1 0 i.2.2.length), (6, .v (.int .i64 i.1))], [(1, ⟨25, 1, intssO i.2.1⟩), (2, ⟨25, 1, intssO i.2.2⟩), (0, ⟨61, 4, [machineC m]⟩)], 3⟩)
    (fun i => SetsI m i.1 i.2.1 i.2.2) (fun i => 64 - i.1) (0, [[0]], []) (SetsI.zero m) ?_ ?_
  · refine Cov.trans ?_ (Cov.close 2 0 0 rfl rfl rfl rfl rfl rfl rfl (by simp [nf]))
    simp only [rm, st, List.set_set]
    exact Cov.ofn (nm [0, 2, 3]) rfl (by simp [go_sem, List.take_of_length_le, ren, ren1, ren2, okr, okr1, okr2, ChkT, ChkN, BlkN, nf, machineC, intssO, intsO1, ints]) (by simp [go_sem, List.take_of_length_le, ren, ren1, ren2, okr, okr1, okr2, ChkT, ChkN, BlkN, nf, machineC, intssO, intsO1, ints])
  rintro ⟨k, S, X⟩ hI
  dsimp only at hI ⊢
  have hfew := hI.ok.few
  have hle := hI.le
  have hln := hI.ln
  have stepk : wr64 ((k : Int) + 1) = ((k + 1 : Nat) : Int) := wr64_id (by omega) (by omega)
  repeat' first
    | (refine Holds.condT ?_ ?_; (· (simp [go_sem, List.take_of_length_le] <;> with_reducible rfl)))
    | (refine Holds.condF ?_ ?_; (· (simp [go_sem, List.take_of_length_le] <;> with_reducible rfl)))
    | refine Holds.seq ?_
    | refine Holds.skip ?_
    | refine Holds.exit ?_
    | refine Holds.ret ?_
    | refine thenA_normal ?_
    | refine thenA_exit ?_
    | refine thenA_ret ?_
    | refine inB_normal ?_
    | refine inB_ret ?_
    | refine inB_here ?_
    | (refine inB_past ?_ ?_; (· exact rfl))
    | refine Holds.reg ?_
    | refine Holds.block ?_
    | refine GS.nil ?_
    | refine Gd.nil ?_
    | (refine Holds.any mixed ?_ ?_; (· kernel_rfl))
    | (refine GS.step (s' := ?_) ?_ ?_ ?_; rotate_left; (· exact rfl); (· (simp [go_sem, List.take_of_length_le] <;> with_reducible rfl)))
    | (refine GS.skip ?_ ?_ ?_; (· exact rfl); (· exact rfl))
    | (refine Gd.go (s' := ?_) ?_ ?_ ?_; rotate_left; (· exact rfl); (· (simp [go_sem, List.take_of_length_le] <;> with_reducible rfl)))
    | (refine Gd.skip ?_ ?_ ?_; (· exact rfl); (· exact rfl))
    | fail
  refine Holds.cond rfl (fun h => ?_) (fun h => ?_)
  · have hlt : k < S.length := by simp at h; omega
    have hck : S[k]? = some S[k] := List.getElem?_eq_getElem hlt
    have hcok := hI.ok.ok _ (List.getElem_mem hlt)
    generalize S[k] = cur at hck hcok
    have hcl := okS_len hcok
    repeat' first
      | (refine Holds.condT ?_ ?_; (· (simp [go_sem, List.take_of_length_le, machineC] <;> with_reducible rfl)))
      | (refine Holds.condF ?_ ?_; (· (simp [go_sem, List.take_of_length_le, machineC] <;> with_reducible rfl)))
      | refine Holds.seq ?_
      | refine Holds.skip ?_
      | refine Holds.exit ?_
      | refine Holds.ret ?_
      | refine thenA_normal ?_
      | refine thenA_exit ?_
      | refine thenA_ret ?_
      | refine inB_normal ?_
      | refine inB_ret ?_
      | refine inB_here ?_
      | (refine inB_past ?_ ?_; (· exact rfl))
      | refine Holds.reg ?_
      | refine Holds.block ?_
      | refine GS.nil ?_
      | refine Gd.nil ?_
      | (refine Holds.any mixed ?_ ?_; (· kernel_rfl))
      | (refine GS.step (s' := ?_) ?_ ?_ ?_; rotate_left; (· exact rfl); (· (simp [go_sem, List.take_of_length_le, machineC] <;> with_reducible rfl)))
      | (refine GS.skip ?_ ?_ ?_; (· exact rfl); (· exact rfl))
      | (refine Gd.go (s' := ?_) ?_ ?_ ?_; rotate_left; (· exact rfl); (· (simp [go_sem, List.take_of_length_le, machineC] <;> with_reducible rfl)))
      | (refine Gd.skip ?_ ?_ ?_; (· exact rfl); (· exact rfl))
      | fail
    refine Holds.loop (ι := Nat) (fun t => ⟨[(1, .pb 0 4 0 0), (4, .own 1 1 0 (rowS m cur S t).1.length), (5, .own 2 1 0 X.length), (6, .v (.int .i64 k)), (7, .own 3 1 0 (rowS m cur S t).2.length), (22, .v (.int .i64 m.2.1)), (23, .v (.int .i64 t))], [(1, ⟨25, 1, intssO (rowS m cur S t).1⟩), (2, ⟨25, 1, intssO X⟩), (3, ⟨3, 1, ints (rowS m cur S t).2⟩), (0, ⟨61, 4, [machineC m]⟩)], 4⟩)
      (fun t => t ≤ m.2.1.toNat) (fun t => m.2.1.toNat - t) 0 (Nat.zero_le _) ?_ ?_
    · exact Cov.ofn (id) rfl (by simp [go_sem, List.take_of_length_le, ren, ren1, ren2, okr, okr1, okr2, ChkT, ChkN, BlkN, nf, machineC, rowS, show ints [] = [] from rfl]) (by simp [go_sem, List.take_of_length_le, ren, ren1, ren2, okr, okr1, okr2, ChkT, ChkN, BlkN, nf, machineC, rowS, show ints [] = [] from rfl])
    intro t ht
    have stept : wr64 ((t : Int) + 1) = ((t + 1 : Nat) : Int) := wr64_id (by omega) (by omega)
    obtain ⟨h1, h2, h3, h4, h5⟩ := rowS_ok hg cur hI.ok t
    have hnx := rowS_next m cur S t
    have hf1 := h1.few
    repeat' first
      | (refine Holds.condT ?_ ?_; (· (simp [go_sem, List.take_of_length_le, machineC] <;> with_reducible rfl)))
      | (refine Holds.condF ?_ ?_; (· (simp [go_sem, List.take_of_length_le, machineC] <;> with_reducible rfl)))
      | refine Holds.seq ?_
      | refine Holds.skip ?_
      | refine Holds.exit ?_
      | refine Holds.ret ?_
      | refine thenA_normal ?_
      | refine thenA_exit ?_
      | refine thenA_ret ?_
      | refine inB_normal ?_
      | refine inB_ret ?_
      | refine inB_here ?_
      | (refine inB_past ?_ ?_; (· exact rfl))
      | refine Holds.reg ?_
      | refine Holds.block ?_
      | refine GS.nil ?_
      | refine Gd.nil ?_
      | (refine Holds.any mixed ?_ ?_; (· kernel_rfl))
      | (refine GS.step (s' := ?_) ?_ ?_ ?_; rotate_left; (· exact rfl); (· (simp [go_sem, List.take_of_length_le, machineC] <;> with_reducible rfl)))
      | (refine GS.skip ?_ ?_ ?_; (· exact rfl); (· exact rfl))
      | (refine Gd.go (s' := ?_) ?_ ?_ ?_; rotate_left; (· exact rfl); (· (simp [go_sem, List.take_of_length_le, machineC] <;> with_reducible rfl)))
      | (refine Gd.skip ?_ ?_ ?_; (· exact rfl); (· exact rfl))
      | fail
    refine Holds.cond rfl (fun h => ?_) (fun h => ?_)
    · have hlt2 : t < m.2.1.toNat := by simp at h; omega
      simp only [colS] at hnx
      generalize hP : (rowS m cur S t).1 = S1 at *
      generalize hQ : (rowS m cur S t).2 = R1 at *
      have hc1 := h4 k cur hck
      have hkl : k < S1.length := by omega
      have cn := implNext m hg hx cur t (by omega)
      have hno := next_ok hg cur (t : Int)
      generalize nextL m cur (t : Int) = s at cn hno hnx
      have hsl := okS_len hno
      refine Holds.open 1 k 0 rfl (oGet hc1) rfl rfl ?_
      repeat' first
        | (refine Holds.condT ?_ ?_; (· (simp [go_sem, List.take_of_length_le] <;> with_reducible rfl)))
        | (refine Holds.condF ?_ ?_; (· (simp [go_sem, List.take_of_length_le] <;> with_reducible rfl)))
        | refine Holds.seq ?_
        | refine Holds.skip ?_
        | refine Holds.exit ?_
        | refine Holds.ret ?_
        | refine thenA_normal ?_
        | refine thenA_exit ?_
        | refine thenA_ret ?_
        | refine inB_normal ?_
        | refine inB_ret ?_
        | refine inB_here ?_
        | (refine inB_past ?_ ?_; (· exact rfl))
        | refine Holds.reg ?_
        | refine Holds.block ?_
        | refine GS.nil ?_
        | refine Gd.nil ?_
        | (refine GS.step (s' := ?_) ?_ ?_ ?_; rotate_left; (· exact rfl); (· (simp [go_sem, List.take_of_length_le] <;> with_reducible rfl)))
        | (refine GS.skip ?_ ?_ ?_; (· exact rfl); (· exact rfl))
        | (refine Gd.go (s' := ?_) ?_ ?_ ?_; rotate_left; (· exact rfl); (· (simp [go_sem, List.take_of_length_le] <;> with_reducible rfl)))
        | (refine Gd.skip ?_ ?_ ?_; (· exact rfl); (· exact rfl))
        | fail
      refine Holds.dia (c := 6) (⟨[(1, .pb 0 4 0 0), (4, .own 1 1 0 S1.length), (5, .own 2 1 0 X.length), (6, .v (.int .i64 k)), (7, .own 3 1 0 R1.length), (8, .v (.int .i64 t)), (9, .pb 4 1 0 0), (22, .v (.int .i64 m.2.1)), (23, .v (.int .i64 t))], [(1, ⟨25, 1, intssO S1⟩), (2, ⟨25, 1, intssO X⟩), (3, ⟨3, 1, ints R1⟩), (4, ⟨25, 1, [[.own 5 1 0 s.length]]⟩), (5, ⟨3, 1, ints s⟩), (0, ⟨61, 4, [machineC m]⟩)], 6⟩) [6, 7, 1008] [0, 1, 2, 3, 4, 5] (fun n => decide (5 ≤ n)) mixed (by exact rfl) (by exact rfl) ?_ ?_ ?_ ?_
      · kernel_rfl
      · kernel_rfl
      all_goals (try show Gx _ _ _ _ _ _ _ 0 [_, _, _, _, _, _] _)
      · repeat' first
          | (refine Holds.condT ?_ ?_; (· (simp [go_sem, List.take_of_length_le, hkl, machineC] <;> with_reducible rfl)))
          | (refine Holds.condF ?_ ?_; (· (simp [go_sem, List.take_of_length_le, hkl, machineC] <;> with_reducible rfl)))
          | refine Holds.seq ?_
          | refine Holds.skip ?_
          | refine Holds.exit ?_
          | refine Holds.ret ?_
          | refine thenA_normal ?_
          | refine thenA_exit ?_
          | refine thenA_ret ?_
          | refine inB_normal ?_
          | refine inB_ret ?_
          | refine inB_here ?_
          | (refine inB_past ?_ ?_; (· exact rfl))
          | refine Holds.reg ?_
          | refine Holds.block ?_
          | refine GS.nil ?_
          | refine Gd.nil ?_
          | (refine Holds.any mixed ?_ ?_; (· kernel_rfl))
          | (refine GS.step (s' := ?_) ?_ ?_ ?_; rotate_left; (· exact rfl); (· (simp [go_sem, List.take_of_length_le, hkl, machineC] <;> with_reducible rfl)))
          | (refine GS.skip ?_ ?_ ?_; (· exact rfl); (· exact rfl))
          | (refine Gd.go (s' := ?_) ?_ ?_ ?_; rotate_left; (· exact rfl); (· (simp [go_sem, List.take_of_length_le, hkl, machineC] <;> with_reducible rfl)))
          | (refine Gd.skip ?_ ?_ ?_; (· exact rfl); (· exact rfl))
          | refine Gx.nil ?_
          | (refine Gx.go (s' := ?_) rfl ?_ ?_ ?_; rotate_left; (· exact rfl); (· (simp [go_sem, List.take_of_length_le, hkl, machineC] <;> with_reducible rfl)))
          | (refine Gx.skip rfl ?_ ?_ ?_; (· exact rfl); (· exact rfl))
          | (refine Gx.skipO rfl ?_ ?_ ?_; (· exact rfl); (· exact rfl))
          | (refine Gx.wo (s' := ?_) rfl ?_ ?_ ?_; rotate_left; (· exact rfl); (· (simp [go_sem, List.take_of_length_le, hkl, machineC] <;> with_reducible rfl)))
          | (refine Gx.skipW rfl ?_ ?_ ?_; (· exact rfl); (· exact rfl))
          | (refine Gx.skipH rfl ?_ ?_ ?_; (· exact rfl); (· exact rfl))
          | (refine Gx.hid (r := ?_) rfl ?_ ?_ ?_ ?_; rotate_left; (· exact rfl); (· exact rfl); (· (simp [go_sem, List.take_of_length_le, hkl, machineC] <;> with_reducible rfl)))
          | (refine Gx.wr (s' := ?_) rfl ?_ ?_ ?_ ?_; rotate_left; (· exact rfl); (· (simp [go_sem, List.take_of_length_le, hkl, machineC] <;> with_reducible rfl)); (· (simp [go_sem, List.take_of_length_le, hkl, machineC])))
          | fail
        refine And.intro ?_ ?_
        · first | refine GS.fnnd (cn) rfl rfl rfl rfl (by simp [go_sem, List.take_of_length_le, ren, ren1, ren2, okr, okr1, okr2, List.range_succ, nf, machineC] <;> with_reducible rfl) (by exact (.cons (Fz.cl rfl) (.cons (Fz.all rfl rfl (by simp) rfl (ints_cl _)) (.cons (.v _) .nil)))) (by simp) (by simp [go_sem, List.take_of_length_le, ren, ren1, ren2, okr, okr1, okr2, List.range_succ, nf, machineC]) (by simp [go_sem, List.take_of_length_le, ren, ren1, ren2, okr, okr1, okr2, List.range_succ, nf, machineC]) rfl (.nfr (by simp) .nil) (by simp [go_sem, List.take_of_length_le, ren, ren1, ren2, okr, okr1, okr2, List.range_succ, nf, machineC] <;> with_reducible rfl) ?_ | refine Gx.fnnd (cn) rfl rfl rfl rfl rfl (by simp [go_sem, List.take_of_length_le, ren, ren1, ren2, okr, okr1, okr2, List.range_succ, nf, machineC] <;> with_reducible rfl) (by exact (.cons (Fz.cl rfl) (.cons (Fz.all rfl rfl (by simp) rfl (ints_cl _)) (.cons (.v _) .nil)))) (by simp) (by simp [go_sem, List.take_of_length_le, ren, ren1, ren2, okr, okr1, okr2, List.range_succ, nf, machineC]) (by simp [go_sem, List.take_of_length_le, ren, ren1, ren2, okr, okr1, okr2, List.range_succ, nf, machineC]) rfl (.nfr (by simp) .nil) (by simp [go_sem, List.take_of_length_le, ren, ren1, ren2, okr, okr1, okr2, List.range_succ, nf, machineC]) (by simp [go_sem, List.take_of_length_le, ren, ren1, ren2, okr, okr1, okr2, List.range_succ, nf, machineC] <;> with_reducible rfl) ?_ | refine Gx.fnndo (cn) rfl rfl rfl rfl rfl (by simp [go_sem, List.take_of_length_le, ren, ren1, ren2, okr, okr1, okr2, List.range_succ, nf, machineC] <;> with_reducible rfl) (by exact (.cons (Fz.cl rfl) (.cons (Fz.all rfl rfl (by simp) rfl (ints_cl _)) (.cons (.v _) .nil)))) (by simp) (by simp [go_sem, List.take_of_length_le, ren, ren1, ren2, okr, okr1, okr2, List.range_succ, nf, machineC]) (by simp [go_sem, List.take_of_length_le, ren, ren1, ren2, okr, okr1, okr2, List.range_succ, nf, machineC]) rfl (.nfr (by simp) .nil) (by simp [go_sem, List.take_of_length_le, ren, ren1, ren2, okr, okr1, okr2, List.range_succ, nf, machineC] <;> with_reducible rfl) ?_
          repeat' first
            | (refine Holds.condT ?_ ?_; (· (simp [go_sem, List.take_of_length_le] <;> with_reducible rfl)))
            | (refine Holds.condF ?_ ?_; (· (simp [go_sem, List.take_of_length_le] <;> with_reducible rfl)))
            | refine Holds.seq ?_
            | refine Holds.skip ?_
            | refine Holds.exit ?_
            | refine Holds.ret ?_
            | refine thenA_normal ?_
            | refine thenA_exit ?_
            | refine thenA_ret ?_
            | refine inB_normal ?_
            | refine inB_ret ?_
            | refine inB_here ?_
            | (refine inB_past ?_ ?_; (· exact rfl))
            | refine Holds.reg ?_
            | refine Holds.block ?_
            | refine GS.nil ?_
            | refine Gd.nil ?_
            | (refine Holds.any mixed ?_ ?_; (· kernel_rfl))
            | (refine GS.step (s' := ?_) ?_ ?_ ?_; rotate_left; (· exact rfl); (· (simp [go_sem, List.take_of_length_le] <;> with_reducible rfl)))
            | (refine GS.skip ?_ ?_ ?_; (· exact rfl); (· exact rfl))
            | (refine Gd.go (s' := ?_) ?_ ?_ ?_; rotate_left; (· exact rfl); (· (simp [go_sem, List.take_of_length_le] <;> with_reducible rfl)))
            | (refine Gd.skip ?_ ?_ ?_; (· exact rfl); (· exact rfl))
            | refine Gx.nil ?_
            | (refine Gx.go (s' := ?_) rfl ?_ ?_ ?_; rotate_left; (· exact rfl); (· (simp [go_sem, List.take_of_length_le] <;> with_reducible rfl)))
            | (refine Gx.skip rfl ?_ ?_ ?_; (· exact rfl); (· exact rfl))
            | (refine Gx.skipO rfl ?_ ?_ ?_; (· exact rfl); (· exact rfl))
            | (refine Gx.wo (s' := ?_) rfl ?_ ?_ ?_; rotate_left; (· exact rfl); (· (simp [go_sem, List.take_of_length_le] <;> with_reducible rfl)))
            | (refine Gx.skipW rfl ?_ ?_ ?_; (· exact rfl); (· exact rfl))
            | (refine Gx.skipH rfl ?_ ?_ ?_; (· exact rfl); (· exact rfl))
            | (refine Gx.hid (r := ?_) rfl ?_ ?_ ?_ ?_; rotate_left; (· exact rfl); (· exact rfl); (· (simp [go_sem, List.take_of_length_le] <;> with_reducible rfl)))
            | (refine Gx.wr (s' := ?_) rfl ?_ ?_ ?_ ?_; rotate_left; (· exact rfl); (· (simp [go_sem, List.take_of_length_le] <;> with_reducible rfl)); (· (simp [go_sem, List.take_of_length_le])))
            | fail
          refine Cov.trans ?_ (Cov.close 1 k 0 rfl (set_get (oGet hc1)) rfl rfl rfl rfl (by simp) (by simp))
          simp only [rm, st, List.set_set]
          exact Cov.ofn (nm [0, 1, 2, 3, 6, 5]) rfl (by simp [go_sem, List.take_of_length_le, ren, ren1, ren2, okr, okr1, okr2, ChkT, ChkN, BlkN, nf, machineC, oSet S1 hc1]) (by simp [go_sem, List.take_of_length_le, ren, ren1, ren2, okr, okr1, okr2, ChkT, ChkN, BlkN, nf, machineC, oSet S1 hc1])
        · repeat' first
            | (refine Holds.condT ?_ ?_; (· (simp [go_sem, List.take_of_length_le] <;> with_reducible rfl)))
            | (refine Holds.condF ?_ ?_; (· (simp [go_sem, List.take_of_length_le] <;> with_reducible rfl)))
            | refine Holds.seq ?_
            | refine Holds.skip ?_
            | refine Holds.exit ?_
            | refine Holds.ret ?_
            | refine thenA_normal ?_
            | refine thenA_exit ?_
            | refine thenA_ret ?_
            | refine inB_normal ?_
            | refine inB_ret ?_
            | refine inB_here ?_
            | (refine inB_past ?_ ?_; (· exact rfl))
            | refine Holds.reg ?_
            | refine Holds.block ?_
            | refine GS.nil ?_
            | refine Gd.nil ?_
            | (refine Holds.any mixed ?_ ?_; (· kernel_rfl))
            | (refine GS.step (s' := ?_) ?_ ?_ ?_; rotate_left; (· exact rfl); (· (simp [go_sem, List.take_of_length_le] <;> with_reducible rfl)))
            | (refine GS.skip ?_ ?_ ?_; (· exact rfl); (· exact rfl))
            | (refine Gd.go (s' := ?_) ?_ ?_ ?_; rotate_left; (· exact rfl); (· (simp [go_sem, List.take_of_length_le] <;> with_reducible rfl)))
            | (refine Gd.skip ?_ ?_ ?_; (· exact rfl); (· exact rfl))
            | refine Gx.nil ?_
            | (refine Gx.go (s' := ?_) rfl ?_ ?_ ?_; rotate_left; (· exact rfl); (· (simp [go_sem, List.take_of_length_le] <;> with_reducible rfl)))
            | (refine Gx.skip rfl ?_ ?_ ?_; (· exact rfl); (· exact rfl))
            | (refine Gx.skipO rfl ?_ ?_ ?_; (· exact rfl); (· exact rfl))
            | (refine Gx.wo (s' := ?_) rfl ?_ ?_ ?_; rotate_left; (· exact rfl); (· (simp [go_sem, List.take_of_length_le] <;> with_reducible rfl)))
            | (refine Gx.skipW rfl ?_ ?_ ?_; (· exact rfl); (· exact rfl))
            | (refine Gx.skipH rfl ?_ ?_ ?_; (· exact rfl); (· exact rfl))
            | (refine Gx.hid (r := ?_) rfl ?_ ?_ ?_ ?_; rotate_left; (· exact rfl); (· exact rfl); (· (simp [go_sem, List.take_of_length_le] <;> with_reducible rfl)))
            | (refine Gx.wr (s' := ?_) rfl ?_ ?_ ?_ ?_; rotate_left; (· exact rfl); (· (simp [go_sem, List.take_of_length_le] <;> with_reducible rfl)); (· (simp [go_sem, List.take_of_length_le])))
            | fail
          first | refine GS.fnnd (cn) rfl rfl rfl rfl (by simp [go_sem, List.take_of_length_le, ren, ren1, ren2, okr, okr1, okr2, List.range_succ, nf, machineC] <;> with_reducible rfl) (by exact (.cons (Fz.cl rfl) (.cons (Fz.all rfl rfl (by simp) rfl (ints_cl _)) (.cons (.v _) .nil)))) (by simp) (by simp [go_sem, List.take_of_length_le, ren, ren1, ren2, okr, okr1, okr2, List.range_succ, nf, machineC]) (by simp [go_sem, List.take_of_length_le, ren, ren1, ren2, okr, okr1, okr2, List.range_succ, nf, machineC]) rfl (.nfr (by simp) .nil) (by simp [go_sem, List.take_of_length_le, ren, ren1, ren2, okr, okr1, okr2, List.range_succ, nf, machineC] <;> with_reducible rfl) ?_ | refine Gx.fnnd (cn) rfl rfl rfl rfl rfl (by simp [go_sem, List.take_of_length_le, ren, ren1, ren2, okr, okr1, okr2, List.range_succ, nf, machineC] <;> with_reducible rfl) (by exact (.cons (Fz.cl rfl) (.cons (Fz.all rfl rfl (by simp) rfl (ints_cl _)) (.cons (.v _) .nil)))) (by simp) (by simp [go_sem, List.take_of_length_le, ren, ren1, ren2, okr, okr1, okr2, List.range_succ, nf, machineC]) (by simp [go_sem, List.take_of_length_le, ren, ren1, ren2, okr, okr1, okr2, List.range_succ, nf, machineC]) rfl (.nfr (by simp) .nil) (by simp [go_sem, List.take_of_length_le, ren, ren1, ren2, okr, okr1, okr2, List.range_succ, nf, machineC]) (by simp [go_sem, List.take_of_length_le, ren, ren1, ren2, okr, okr1, okr2, List.range_succ, nf, machineC] <;> with_reducible rfl) ?_ | refine Gx.fnndo (cn) rfl rfl rfl rfl rfl (by simp [go_sem, List.take_of_length_le, ren, ren1, ren2, okr, okr1, okr2, List.range_succ, nf, machineC] <;> with_reducible rfl) (by exact (.cons (Fz.cl rfl) (.cons (Fz.all rfl rfl (by simp) rfl (ints_cl _)) (.cons (.v _) .nil)))) (by simp) (by simp [go_sem, List.take_of_length_le, ren, ren1, ren2, okr, okr1, okr2, List.range_succ, nf, machineC]) (by simp [go_sem, List.take_of_length_le, ren, ren1, ren2, okr, okr1, okr2, List.range_succ, nf, machineC]) rfl (.nfr (by simp) .nil) (by simp [go_sem, List.take_of_length_le, ren, ren1, ren2, okr, okr1, okr2, List.range_succ, nf, machineC] <;> with_reducible rfl) ?_
          repeat' first
            | (refine Holds.condT ?_ ?_; (· (simp [go_sem, List.take_of_length_le] <;> with_reducible rfl)))
            | (refine Holds.condF ?_ ?_; (· (simp [go_sem, List.take_of_length_le] <;> with_reducible rfl)))
            | refine Holds.seq ?_
            | refine Holds.skip ?_
            | refine Holds.exit ?_
            | refine Holds.ret ?_
            | refine thenA_normal ?_
            | refine thenA_exit ?_
            | refine thenA_ret ?_
            | refine inB_normal ?_
            | refine inB_ret ?_
            | refine inB_here ?_
            | (refine inB_past ?_ ?_; (· exact rfl))
            | refine Holds.reg ?_
            | refine Holds.block ?_
            | refine GS.nil ?_
            | refine Gd.nil ?_
            | (refine Holds.any mixed ?_ ?_; (· kernel_rfl))
            | (refine GS.step (s' := ?_) ?_ ?_ ?_; rotate_left; (· exact rfl); (· (simp [go_sem, List.take_of_length_le] <;> with_reducible rfl)))
            | (refine GS.skip ?_ ?_ ?_; (· exact rfl); (· exact rfl))
            | (refine Gd.go (s' := ?_) ?_ ?_ ?_; rotate_left; (· exact rfl); (· (simp [go_sem, List.take_of_length_le] <;> with_reducible rfl)))
            | (refine Gd.skip ?_ ?_ ?_; (· exact rfl); (· exact rfl))
            | refine Gx.nil ?_
            | (refine Gx.go (s' := ?_) rfl ?_ ?_ ?_; rotate_left; (· exact rfl); (· (simp [go_sem, List.take_of_length_le] <;> with_reducible rfl)))
            | (refine Gx.skip rfl ?_ ?_ ?_; (· exact rfl); (· exact rfl))
            | (refine Gx.skipO rfl ?_ ?_ ?_; (· exact rfl); (· exact rfl))
            | (refine Gx.wo (s' := ?_) rfl ?_ ?_ ?_; rotate_left; (· exact rfl); (· (simp [go_sem, List.take_of_length_le] <;> with_reducible rfl)))
            | (refine Gx.skipW rfl ?_ ?_ ?_; (· exact rfl); (· exact rfl))
            | (refine Gx.skipH rfl ?_ ?_ ?_; (· exact rfl); (· exact rfl))
            | (refine Gx.hid (r := ?_) rfl ?_ ?_ ?_ ?_; rotate_left; (· exact rfl); (· exact rfl); (· (simp [go_sem, List.take_of_length_le] <;> with_reducible rfl)))
            | (refine Gx.wr (s' := ?_) rfl ?_ ?_ ?_ ?_; rotate_left; (· exact rfl); (· (simp [go_sem, List.take_of_length_le] <;> with_reducible rfl)); (· (simp [go_sem, List.take_of_length_le])))
            | fail
          refine Cov.trans ?_ (Cov.close 1 k 0 rfl (set_get (oGet hc1)) rfl rfl rfl rfl (by simp) (by simp))
          simp only [rm, st, List.set_set]
          exact Cov.ofn (nm [0, 1, 2, 3, 5, 6]) rfl (by simp [go_sem, List.take_of_length_le, ren, ren1, ren2, okr, okr1, okr2, ChkT, ChkN, BlkN, nf, machineC, oSet S1 hc1]) (by simp [go_sem, List.take_of_length_le, ren, ren1, ren2, okr, okr1, okr2, ChkT, ChkN, BlkN, nf, machineC, oSet S1 hc1])
      have ci := indexFuncIntS 112 [.pi [.im 1 (ints s)]] (fun o => decide (o = s)) S1 (by omega) rfl (fun x hx => sets1 x s (by have := okS_len (h1.ok x hx); omega))
      rw [show fstP (fun o => decide (o = s)) S1 0 = plS S1 s from rfl] at ci
      repeat' first
        | (refine Holds.condT ?_ ?_; (· (simp [go_sem, List.take_of_length_le] <;> with_reducible rfl)))
        | (refine Holds.condF ?_ ?_; (· (simp [go_sem, List.take_of_length_le] <;> with_reducible rfl)))
        | refine Holds.seq ?_
        | refine Holds.skip ?_
        | refine Holds.exit ?_
        | refine Holds.ret ?_
        | refine thenA_normal ?_
        | refine thenA_exit ?_
        | refine thenA_ret ?_
        | refine inB_normal ?_
        | refine inB_ret ?_
        | refine inB_here ?_
        | (refine inB_past ?_ ?_; (· exact rfl))
        | refine Holds.reg ?_
        | refine Holds.block ?_
        | refine GS.nil ?_
        | refine Gd.nil ?_
        | (refine Holds.any mixed ?_ ?_; (· kernel_rfl))
        | (refine GS.step (s' := ?_) ?_ ?_ ?_; rotate_left; (· exact rfl); (· (simp [go_sem, List.take_of_length_le] <;> with_reducible rfl)))
        | (refine GS.skip ?_ ?_ ?_; (· exact rfl); (· exact rfl))
        | (refine Gd.go (s' := ?_) ?_ ?_ ?_; rotate_left; (· exact rfl); (· (simp [go_sem, List.take_of_length_le] <;> with_reducible rfl)))
        | (refine Gd.skip ?_ ?_ ?_; (· exact rfl); (· exact rfl))
        | refine Gx.nil ?_
        | (refine Gx.go (s' := ?_) rfl ?_ ?_ ?_; rotate_left; (· exact rfl); (· (simp [go_sem, List.take_of_length_le] <;> with_reducible rfl)))
        | (refine Gx.skip rfl ?_ ?_ ?_; (· exact rfl); (· exact rfl))
        | (refine Gx.skipO rfl ?_ ?_ ?_; (· exact rfl); (· exact rfl))
        | (refine Gx.wo (s' := ?_) rfl ?_ ?_ ?_; rotate_left; (· exact rfl); (· (simp [go_sem, List.take_of_length_le] <;> with_reducible rfl)))
        | (refine Gx.skipW rfl ?_ ?_ ?_; (· exact rfl); (· exact rfl))
        | (refine Gx.skipH rfl ?_ ?_ ?_; (· exact rfl); (· exact rfl))
        | (refine Gx.hid (r := ?_) rfl ?_ ?_ ?_ ?_; rotate_left; (· exact rfl); (· exact rfl); (· (simp [go_sem, List.take_of_length_le] <;> with_reducible rfl)))
        | (refine Gx.wr (s' := ?_) rfl ?_ ?_ ?_ ?_; rotate_left; (· exact rfl); (· (simp [go_sem, List.take_of_length_le] <;> with_reducible rfl)); (· (simp [go_sem, List.take_of_length_le])))
        | fail
      first | refine GS.cd (ci) rfl rfl rfl rfl (by simp [go_sem, List.take_of_length_le] <;> with_reducible rfl) rfl (by exact .cons (fz_intssO _ rfl rfl) (.cons (Fz.fnL (.cons (Fz.pbM rfl rfl rfl (.cons (Fz.all rfl rfl (by simp) rfl (ints_cl _)) .nil)) .nil)) .nil)) rfl ?_ | refine Gd.cd (ci) rfl rfl rfl rfl (by simp [go_sem, List.take_of_length_le] <;> with_reducible rfl) rfl (by exact .cons (fz_intssO _ rfl rfl) (.cons (Fz.fnL (.cons (Fz.pbM rfl rfl rfl (.cons (Fz.all rfl rfl (by simp) rfl (ints_cl _)) .nil)) .nil)) .nil)) rfl ?_ | refine Gx.cd (ci) rfl rfl rfl rfl rfl (by simp [go_sem, List.take_of_length_le] <;> with_reducible rfl) rfl (by exact .cons (fz_intssO _ rfl rfl) (.cons (Fz.fnL (.cons (Fz.pbM rfl rfl rfl (.cons (Fz.all rfl rfl (by simp) rfl (ints_cl _)) .nil)) .nil)) .nil)) rfl ?_
      have hb1 : (S1.length + 1) * 24 ≤ 140737488355328 := by omega
      have hb2 : (R1.length + 1) * 8 ≤ 140737488355328 := by omega
      by_cases hneg : plS S1 s < 0
      · simp only [addS, atS, hneg, if_true] at hnx
        repeat' first
          | (refine Holds.condT ?_ ?_; (· (simp [go_sem, List.take_of_length_le, hneg, hb1, hb2] <;> with_reducible rfl)))
          | (refine Holds.condF ?_ ?_; (· (simp [go_sem, List.take_of_length_le, hneg, hb1, hb2] <;> with_reducible rfl)))
          | refine Holds.seq ?_
          | refine Holds.skip ?_
          | refine Holds.exit ?_
          | refine Holds.ret ?_
          | refine thenA_normal ?_
          | refine thenA_exit ?_
          | refine thenA_ret ?_
          | refine inB_normal ?_
          | refine inB_ret ?_
          | refine inB_here ?_
          | (refine inB_past ?_ ?_; (· exact rfl))
          | refine Holds.reg ?_
          | refine Holds.block ?_
          | refine GS.nil ?_
          | refine Gd.nil ?_
          | (refine Holds.any mixed ?_ ?_; (· kernel_rfl))
          | (refine GS.step (s' := ?_) ?_ ?_ ?_; rotate_left; (· exact rfl); (· (simp [go_sem, List.take_of_length_le, hneg, hb1, hb2] <;> with_reducible rfl)))
          | (refine GS.skip ?_ ?_ ?_; (· exact rfl); (· exact rfl))
          | (refine Gd.go (s' := ?_) ?_ ?_ ?_; rotate_left; (· exact rfl); (· (simp [go_sem, List.take_of_length_le, hneg, hb1, hb2] <;> with_reducible rfl)))
          | (refine Gd.skip ?_ ?_ ?_; (· exact rfl); (· exact rfl))
          | refine Gx.nil ?_
          | (refine Gx.go (s' := ?_) rfl ?_ ?_ ?_; rotate_left; (· exact rfl); (· (simp [go_sem, List.take_of_length_le, hneg, hb1, hb2] <;> with_reducible rfl)))
          | (refine Gx.skip rfl ?_ ?_ ?_; (· exact rfl); (· exact rfl))
          | (refine Gx.skipO rfl ?_ ?_ ?_; (· exact rfl); (· exact rfl))
          | (refine Gx.wo (s' := ?_) rfl ?_ ?_ ?_; rotate_left; (· exact rfl); (· (simp [go_sem, List.take_of_length_le, hneg, hb1, hb2] <;> with_reducible rfl)))
          | (refine Gx.skipW rfl ?_ ?_ ?_; (· exact rfl); (· exact rfl))
          | (refine Gx.skipH rfl ?_ ?_ ?_; (· exact rfl); (· exact rfl))
          | (refine Gx.hid (r := ?_) rfl ?_ ?_ ?_ ?_; rotate_left; (· exact rfl); (· exact rfl); (· (simp [go_sem, List.take_of_length_le, hneg, hb1, hb2] <;> with_reducible rfl)))
          | (refine Gx.wr (s' := ?_) rfl ?_ ?_ ?_ ?_; rotate_left; (· exact rfl); (· (simp [go_sem, List.take_of_length_le, hneg, hb1, hb2] <;> with_reducible rfl)); (· (simp [go_sem, List.take_of_length_le, hneg, hb1, hb2])))
          | fail
        refine ⟨t + 1, by omega, by omega, ?_⟩
        rw [hnx, stept]
        refine Cov.trans ?_ (Cov.close 8 S1.length 0 rfl (oAt S1 _) rfl rfl rfl rfl (by simp) (by simp))
        simp only [rm, st, List.set_set]
        exact Cov.ofn (nm [0, 8, 2, 11]) rfl (by simp [go_sem, List.take_of_length_le, ren, ren1, ren2, okr, okr1, okr2, ChkT, ChkN, BlkN, nf, machineC, oSnoc, oApp, ints_snoc]) (by simp [go_sem, List.take_of_length_le, ren, ren1, ren2, okr, okr1, okr2, ChkT, ChkN, BlkN, nf, machineC, oSnoc, oApp, ints_snoc])
      · simp only [addS, atS, hneg, if_false] at hnx
        repeat' first
          | (refine Holds.condT ?_ ?_; (· (simp [go_sem, List.take_of_length_le, hneg, hb1, hb2] <;> with_reducible rfl)))
          | (refine Holds.condF ?_ ?_; (· (simp [go_sem, List.take_of_length_le, hneg, hb1, hb2] <;> with_reducible rfl)))
          | refine Holds.seq ?_
          | refine Holds.skip ?_
          | refine Holds.exit ?_
          | refine Holds.ret ?_
          | refine thenA_normal ?_
          | refine thenA_exit ?_
          | refine thenA_ret ?_
          | refine inB_normal ?_
          | refine inB_ret ?_
          | refine inB_here ?_
          | (refine inB_past ?_ ?_; (· exact rfl))
          | refine Holds.reg ?_
          | refine Holds.block ?_
          | refine GS.nil ?_
          | refine Gd.nil ?_
          | (refine Holds.any mixed ?_ ?_; (· kernel_rfl))
          | (refine GS.step (s' := ?_) ?_ ?_ ?_; rotate_left; (· exact rfl); (· (simp [go_sem, List.take_of_length_le, hneg, hb1, hb2] <;> with_reducible rfl)))
          | (refine GS.skip ?_ ?_ ?_; (· exact rfl); (· exact rfl))
          | (refine Gd.go (s' := ?_) ?_ ?_ ?_; rotate_left; (· exact rfl); (· (simp [go_sem, List.take_of_length_le, hneg, hb1, hb2] <;> with_reducible rfl)))
          | (refine Gd.skip ?_ ?_ ?_; (· exact rfl); (· exact rfl))
          | refine Gx.nil ?_
          | (refine Gx.go (s' := ?_) rfl ?_ ?_ ?_; rotate_left; (· exact rfl); (· (simp [go_sem, List.take_of_length_le, hneg, hb1, hb2] <;> with_reducible rfl)))
          | (refine Gx.skip rfl ?_ ?_ ?_; (· exact rfl); (· exact rfl))
          | (refine Gx.skipO rfl ?_ ?_ ?_; (· exact rfl); (· exact rfl))
          | (refine Gx.wo (s' := ?_) rfl ?_ ?_ ?_; rotate_left; (· exact rfl); (· (simp [go_sem, List.take_of_length_le, hneg, hb1, hb2] <;> with_reducible rfl)))
          | (refine Gx.skipW rfl ?_ ?_ ?_; (· exact rfl); (· exact rfl))
          | (refine Gx.skipH rfl ?_ ?_ ?_; (· exact rfl); (· exact rfl))
          | (refine Gx.hid (r := ?_) rfl ?_ ?_ ?_ ?_; rotate_left; (· exact rfl); (· exact rfl); (· (simp [go_sem, List.take_of_length_le, hneg, hb1, hb2] <;> with_reducible rfl)))
          | (refine Gx.wr (s' := ?_) rfl ?_ ?_ ?_ ?_; rotate_left; (· exact rfl); (· (simp [go_sem, List.take_of_length_le, hneg, hb1, hb2] <;> with_reducible rfl)); (· (simp [go_sem, List.take_of_length_le, hneg, hb1, hb2])))
          | fail
        refine ⟨t + 1, by omega, by omega, ?_⟩
        rw [hnx, stept]
        exact Cov.ofn (nm [0, 1, 2, 8]) rfl (by simp [go_sem, List.take_of_length_le, ren, ren1, ren2, okr, okr1, okr2, ChkT, ChkN, BlkN, nf, machineC, ints_snoc]) (by simp [go_sem, List.take_of_length_le, ren, ren1, ren2, okr, okr1, okr2, ChkT, ChkN, BlkN, nf, machineC, ints_snoc])
    · have hle2 : t = m.2.1.toNat := by simp at h; omega
      subst hle2
      have hst := hI.step hg hck
      have hb1 : (X.length + 1) * 24 ≤ 140737488355328 := by omega
      generalize (rowS m cur S m.2.1.toNat).1 = S1 at *
      generalize (rowS m cur S m.2.1.toNat).2 = R1 at *
      repeat' first
        | (refine Holds.condT ?_ ?_; (· (simp [go_sem, List.take_of_length_le, hb1] <;> with_reducible rfl)))
        | (refine Holds.condF ?_ ?_; (· (simp [go_sem, List.take_of_length_le, hb1] <;> with_reducible rfl)))
        | refine Holds.seq ?_
        | refine Holds.skip ?_
        | refine Holds.exit ?_
        | refine Holds.ret ?_
        | refine thenA_normal ?_
        | refine thenA_exit ?_
        | refine thenA_ret ?_
        | refine inB_normal ?_
        | refine inB_ret ?_
        | refine inB_here ?_
        | (refine inB_past ?_ ?_; (· exact rfl))
        | refine Holds.reg ?_
        | refine Holds.block ?_
        | refine GS.nil ?_
        | refine Gd.nil ?_
        | (refine Holds.any mixed ?_ ?_; (· kernel_rfl))
        | (refine GS.step (s' := ?_) ?_ ?_ ?_; rotate_left; (· exact rfl); (· (simp [go_sem, List.take_of_length_le, hb1] <;> with_reducible rfl)))
        | (refine GS.skip ?_ ?_ ?_; (· exact rfl); (· exact rfl))
        | (refine Gd.go (s' := ?_) ?_ ?_ ?_; rotate_left; (· exact rfl); (· (simp [go_sem, List.take_of_length_le, hb1] <;> with_reducible rfl)))
        | (refine Gd.skip ?_ ?_ ?_; (· exact rfl); (· exact rfl))
        | refine Gx.nil ?_
        | (refine Gx.go (s' := ?_) rfl ?_ ?_ ?_; rotate_left; (· exact rfl); (· (simp [go_sem, List.take_of_length_le, hb1] <;> with_reducible rfl)))
        | (refine Gx.skip rfl ?_ ?_ ?_; (· exact rfl); (· exact rfl))
        | (refine Gx.skipO rfl ?_ ?_ ?_; (· exact rfl); (· exact rfl))
        | (refine Gx.wo (s' := ?_) rfl ?_ ?_ ?_; rotate_left; (· exact rfl); (· (simp [go_sem, List.take_of_length_le, hb1] <;> with_reducible rfl)))
        | (refine Gx.skipW rfl ?_ ?_ ?_; (· exact rfl); (· exact rfl))
        | (refine Gx.skipH rfl ?_ ?_ ?_; (· exact rfl); (· exact rfl))
        | (refine Gx.hid (r := ?_) rfl ?_ ?_ ?_ ?_; rotate_left; (· exact rfl); (· exact rfl); (· (simp [go_sem, List.take_of_length_le, hb1] <;> with_reducible rfl)))
        | (refine Gx.wr (s' := ?_) rfl ?_ ?_ ?_ ?_; rotate_left; (· exact rfl); (· (simp [go_sem, List.take_of_length_le, hb1] <;> with_reducible rfl)); (· (simp [go_sem, List.take_of_length_le, hb1])))
        | fail
      refine ⟨(k + 1, S1, X ++ [R1]), hst, by dsimp only; omega, ?_⟩
      rw [stepk]
      refine Cov.trans ?_ (Cov.close 6 X.length 0 rfl (oAt X _) rfl rfl rfl rfl (by simp) (by simp))
      simp only [rm, st, List.set_set]
      exact Cov.ofn (nm [0, 1, 6]) rfl (by simp [go_sem, List.take_of_length_le, ren, ren1, ren2, okr, okr1, okr2, ChkT, ChkN, BlkN, nf, machineC, oSnoc, oApp]) (by simp [go_sem, List.take_of_length_le, ren, ren1, ren2, okr, okr1, okr2, ChkT, ChkN, BlkN, nf, machineC, oSnoc, oApp])
  · have hge : S.length ≤ k := by simp at h; omega
    rw [hI.end hge]
    repeat' first
      | (refine Holds.condT ?_ ?_; (· (simp [go_sem, List.take_of_length_le] <;> with_reducible rfl)))
      | (refine Holds.condF ?_ ?_; (· (simp [go_sem, List.take_of_length_le] <;> with_reducible rfl)))
      | refine Holds.seq ?_
      | refine Holds.skip ?_
      | refine Holds.exit ?_
      | refine Holds.ret ?_
      | refine thenA_normal ?_
      | refine thenA_exit ?_
      | refine thenA_ret ?_
      | refine inB_normal ?_
      | refine inB_ret ?_
      | refine inB_here ?_
      | (refine inB_past ?_ ?_; (· exact rfl))
      | refine Holds.reg ?_
      | refine Holds.block ?_
      | refine GS.nil ?_
      | refine Gd.nil ?_
      | (refine Holds.any mixed ?_ ?_; (· kernel_rfl))
      | (refine GS.step (s' := ?_) ?_ ?_ ?_; rotate_left; (· exact rfl); (· (simp [go_sem, List.take_of_length_le] <;> with_reducible rfl)))
      | (refine GS.skip ?_ ?_ ?_; (· exact rfl); (· exact rfl))
      | (refine Gd.go (s' := ?_) ?_ ?_ ?_; rotate_left; (· exact rfl); (· (simp [go_sem, List.take_of_length_le] <;> with_reducible rfl)))
      | (refine Gd.skip ?_ ?_ ?_; (· exact rfl); (· exact rfl))
      | refine Gx.nil ?_
      | (refine Gx.go (s' := ?_) rfl ?_ ?_ ?_; rotate_left; (· exact rfl); (· (simp [go_sem, List.take_of_length_le] <;> with_reducible rfl)))
      | (refine Gx.skip rfl ?_ ?_ ?_; (· exact rfl); (· exact rfl))
      | (refine Gx.skipO rfl ?_ ?_ ?_; (· exact rfl); (· exact rfl))
      | (refine Gx.wo (s' := ?_) rfl ?_ ?_ ?_; rotate_left; (· exact rfl); (· (simp [go_sem, List.take_of_length_le] <;> with_reducible rfl)))
      | (refine Gx.skipW rfl ?_ ?_ ?_; (· exact rfl); (· exact rfl))
      | (refine Gx.skipH rfl ?_ ?_ ?_; (· exact rfl); (· exact rfl))
      | (refine Gx.hid (r := ?_) rfl ?_ ?_ ?_ ?_; rotate_left; (· exact rfl); (· exact rfl); (· (simp [go_sem, List.take_of_length_le] <;> with_reducible rfl)))
      | (refine Gx.wr (s' := ?_) rfl ?_ ?_ ?_ ?_; rotate_left; (· exact rfl); (· (simp [go_sem, List.take_of_length_le] <;> with_reducible rfl)); (· (simp [go_sem, List.take_of_length_le])))
      | fail
    refine OutF.mkn (xs := ?_) (nm [1, 2]) ?_ ?_ ?_ ?_ ?_ (by first | exact .inr rfl | exact .inl rfl)
    rotate_left
    · simp [go_sem, List.take_of_length_le] <;> with_reducible rfl
    · simp [go_sem, List.take_of_length_le, ren, ren1, ren2, okr, okr1, okr2, ChkN, BlkN, List.range_succ, nf]
    · simp [go_sem, List.take_of_length_le, ren, ren1, ren2, okr, okr1, okr2, ChkN, BlkN, List.range_succ, nf]
    · simp [go_sem, List.take_of_length_le, ren, ren1, ren2, okr, okr1, okr2, ChkN, BlkN, List.range_succ, nf]
    · rfl
end Go.Proofs.Ytiabaknmgbpmoaa.En
end
section
namespace Go.Proofs.Ytiabaknmgbpmoaa.En
open Go.RowKit
set_option linter.unusedSimpArgs false
set_option linter.unusedVariables false
set_option maxHeartbeats 8000000
theorem setsV_len (m : MachineT) : (wtL wIntS (setsV m).1 ≤ 1000 ∧ (setsV m).1.length ≤ 64 ∧ wtL wIntS (setsV m).2.1 ≤ 1000 ∧ (setsV m).2.1.length ≤ 64) ∧ (∀ e ∈ (setsV m).1, e.length ≤ 6) ∧ ∀ e ∈ (setsV m).2.1, e.length ≤ 6 := by
  unfold setsV
  cases hg : goodM m with
  | false => simp [wtL]
  | true =>
    have h := setsM_ok hg
    have hT := good_toks hg
    have h1 := h.ok.few
    have h2 : ∀ e ∈ (setsM m).1, e.length ≤ 6 := fun e he => okS_len (h.ok.ok e he)
    have h3 : ∀ e ∈ (setsM m).2, e.length ≤ 6 := fun e he => by have := (h.rows e he).1; omega
    have h4 := h.ln
    have w1 := wtL_boundX (w := wIntS) (c := 6) (xs := (setsM m).1) (fun x hx => by simp only [wIntS, wtL_w1]; exact h2 x hx)
    have w2 := wtL_boundX (w := wIntS) (c := 6) (xs := (setsM m).2) (fun x hx => by simp only [wIntS, wtL_w1]; exact h3 x hx)
    simp only [if_true]
    exact ⟨⟨by omega, h1, by omega, by omega⟩, h2, h3⟩
theorem specSetsOf (m : MachineT) (hx : m.2.2.1.length ≤ 1048576) (hs : ∀ e ∈ m.2.2.1, e.length < 4611686018427387904) (hy : m.2.2.2.length ≤ 1048576) : Pure Try.prog 26 [.ag (machineC m)] (.tu [.im 1 (intss (setsV m).1), .im 1 (intss (setsV m).2.1), .v (.bool (setsV m).2.2)]) := by
  refine Pure.mk (rs := [.tmp 2, .tmp 3, .tmp 4]) (nt := 17) Try.func26 (by kernel_rfl) rfl rfl rfl (by simp) ?_
  simp only [sl, machineC]
  have c1 := specGoodX m (by omega) hs (by omega)
  simp only [machineC] at c1
  unfold setsV
  repeat' first
    | (refine Holds.condT ?_ ?_; (· (simp [go_sem, List.take_of_length_le] <;> with_reducible rfl)))
    | (refine Holds.condF ?_ ?_; (· (simp [go_sem, List.take_of_length_le] <;> with_reducible rfl)))
    | refine Holds.seq ?_
    | refine Holds.skip ?_
    | refine Holds.exit ?_
    | refine Holds.ret ?_
    | refine thenA_normal ?_
    | refine thenA_exit ?_
    | refine thenA_ret ?_
    | refine inB_normal ?_
    | refine inB_ret ?_
    | refine inB_here ?_
    | (refine inB_past ?_ ?_; (· exact rfl))
    | refine Holds.reg ?_
    | refine Holds.block ?_
    | refine GS.nil ?_
    | (refine GS.step (s' := ?_) ?_ ?_ ?_; rotate_left; (· exact rfl); (· (simp [go_sem, List.take_of_length_le] <;> with_reducible rfl)))
    | (refine GS.skip ?_ ?_ ?_; (· exact rfl); (· exact rfl))
    | fail
  cases hg : goodM m with
  | false =>
    rw [hg] at c1
    refine GS.cc (c1) rfl rfl rfl rfl (by simp [go_sem, List.take_of_length_le] <;> with_reducible rfl) rfl (by simp [go_sem, List.take_of_length_le]) ?_
    repeat' first
      | (refine Holds.condT ?_ ?_; (· (simp [go_sem, List.take_of_length_le] <;> with_reducible rfl)))
      | (refine Holds.condF ?_ ?_; (· (simp [go_sem, List.take_of_length_le] <;> with_reducible rfl)))
      | refine Holds.seq ?_
      | refine Holds.skip ?_
      | refine Holds.exit ?_
      | refine Holds.ret ?_
      | refine thenA_normal ?_
      | refine thenA_exit ?_
      | refine thenA_ret ?_
      | refine inB_normal ?_
      | refine inB_ret ?_
      | refine inB_here ?_
      | (refine inB_past ?_ ?_; (· exact rfl))
      | refine Holds.reg ?_
      | refine Holds.block ?_
      | refine GS.nil ?_
      | (refine GS.step (s' := ?_) ?_ ?_ ?_; rotate_left; (· exact rfl); (· (simp [go_sem, List.take_of_length_le] <;> with_reducible rfl)))
      | (refine GS.skip ?_ ?_ ?_; (· exact rfl); (· exact rfl))
      | fail
    refine Out.mk (xs := ?_) ?_ ?_ (by first | exact .inr rfl | exact .inl rfl)
    rotate_left
    · simp [go_sem, List.take_of_length_le] <;> with_reducible rfl
    exact Fz.tuL (.cons (.nl 1) (.cons (.nl 1) (.cons (.v _) .nil)))
  | true =>
    rw [hg] at c1
    have c2 := l16Sets m hg hx
    simp only [machineC] at c2
    refine GS.cc (c1) rfl rfl rfl rfl (by simp [go_sem, List.take_of_length_le] <;> with_reducible rfl) rfl (by simp [go_sem, List.take_of_length_le]) ?_
    repeat' first
      | (refine Holds.condT ?_ ?_; (· (simp [go_sem, List.take_of_length_le] <;> with_reducible rfl)))
      | (refine Holds.condF ?_ ?_; (· (simp [go_sem, List.take_of_length_le] <;> with_reducible rfl)))
      | refine Holds.seq ?_
      | refine Holds.skip ?_
      | refine Holds.exit ?_
      | refine Holds.ret ?_
      | refine thenA_normal ?_
      | refine thenA_exit ?_
      | refine thenA_ret ?_
      | refine inB_normal ?_
      | refine inB_ret ?_
      | refine inB_here ?_
      | (refine inB_past ?_ ?_; (· exact rfl))
      | refine Holds.reg ?_
      | refine Holds.block ?_
      | refine GS.nil ?_
      | (refine GS.step (s' := ?_) ?_ ?_ ?_; rotate_left; (· exact rfl); (· (simp [go_sem, List.take_of_length_le] <;> with_reducible rfl)))
      | (refine GS.skip ?_ ?_ ?_; (· exact rfl); (· exact rfl))
      | fail
    refine GS.cc (c2) rfl rfl rfl rfl (by simp [go_sem, List.take_of_length_le] <;> with_reducible rfl) rfl (by simp [go_sem, List.take_of_length_le]) ?_
    repeat' first
      | (refine Holds.condT ?_ ?_; (· (simp [go_sem, List.take_of_length_le] <;> with_reducible rfl)))
      | (refine Holds.condF ?_ ?_; (· (simp [go_sem, List.take_of_length_le] <;> with_reducible rfl)))
      | refine Holds.seq ?_
      | refine Holds.skip ?_
      | refine Holds.exit ?_
      | refine Holds.ret ?_
      | refine thenA_normal ?_
      | refine thenA_exit ?_
      | refine thenA_ret ?_
      | refine inB_normal ?_
      | refine inB_ret ?_
      | refine inB_here ?_
      | (refine inB_past ?_ ?_; (· exact rfl))
      | refine Holds.reg ?_
      | refine Holds.block ?_
      | refine GS.nil ?_
      | (refine GS.step (s' := ?_) ?_ ?_ ?_; rotate_left; (· exact rfl); (· (simp [go_sem, List.take_of_length_le] <;> with_reducible rfl)))
      | (refine GS.skip ?_ ?_ ?_; (· exact rfl); (· exact rfl))
      | fail
    refine Out.mk (xs := ?_) ?_ ?_ (by first | exact .inr rfl | exact .inl rfl)
    rotate_left
    · simp [go_sem, List.take_of_length_le] <;> with_reducible rfl
    exact Fz.tuL (.cons (.im _ _) (.cons (.im _ _) (.cons (.v _) .nil)))
theorem implSetsOf (m : MachineT) (hx : m.2.2.1.length ≤ 1048576) (hs : ∀ e ∈ m.2.2.1, e.length < 4611686018427387904) (hy : m.2.2.2.length ≤ 1048576) : Fn Try.prog 28 0 [.ag (machineC m)] [] (.tu [.own 0 1 0 (setsV m).1.length, .own 1 1 0 (setsV m).2.1.length, .v (.bool (setsV m).2.2)]) 2 [(0, ⟨25, 1, intssO (setsV m).1⟩), (1, ⟨25, 1, intssO (setsV m).2.1⟩)] := by
  refine Fn.mk (rs := [.tmp 2, .tmp 3, .tmp 4]) (nt := 17) Try.func28 (by kernel_rfl) rfl rfl rfl (by simp) ?_
  simp only [sl, machineC]
  have c1 := implGoodX m (by omega) hs (by omega)
  simp only [machineC] at c1
  unfold setsV
  repeat' first
    | (refine Holds.condT ?_ ?_; (· (simp [go_sem, List.take_of_length_le] <;> with_reducible rfl)))
    | (refine Holds.condF ?_ ?_; (· (simp [go_sem, List.take_of_length_le] <;> with_reducible rfl)))
    | refine Holds.seq ?_
    | refine Holds.skip ?_
    | refine Holds.exit ?_
    | refine Holds.ret ?_
    | refine thenA_normal ?_
    | refine thenA_exit ?_
    | refine thenA_ret ?_
    | refine inB_normal ?_
    | refine inB_ret ?_
    | refine inB_here ?_
    | (refine inB_past ?_ ?_; (· exact rfl))
    | refine Holds.reg ?_
    | refine Holds.block ?_
    | refine GS.nil ?_
    | (refine GS.step (s' := ?_) ?_ ?_ ?_; rotate_left; (· exact rfl); (· (simp [go_sem, List.take_of_length_le] <;> with_reducible rfl)))
    | (refine GS.skip ?_ ?_ ?_; (· exact rfl); (· exact rfl))
    | fail
  cases hg : goodM m with
  | false =>
    rw [hg] at c1
    refine GS.cc (c1) rfl rfl rfl rfl (by simp [go_sem, List.take_of_length_le] <;> with_reducible rfl) rfl (by simp [go_sem, List.take_of_length_le]) ?_
    repeat' first
      | (refine Holds.condT ?_ ?_; (· (simp [go_sem, List.take_of_length_le] <;> with_reducible rfl)))
      | (refine Holds.condF ?_ ?_; (· (simp [go_sem, List.take_of_length_le] <;> with_reducible rfl)))
      | refine Holds.seq ?_
      | refine Holds.skip ?_
      | refine Holds.exit ?_
      | refine Holds.ret ?_
      | refine thenA_normal ?_
      | refine thenA_exit ?_
      | refine thenA_ret ?_
      | refine inB_normal ?_
      | refine inB_ret ?_
      | refine inB_here ?_
      | (refine inB_past ?_ ?_; (· exact rfl))
      | refine Holds.reg ?_
      | refine Holds.block ?_
      | refine GS.nil ?_
      | (refine GS.step (s' := ?_) ?_ ?_ ?_; rotate_left; (· exact rfl); (· (simp [go_sem, List.take_of_length_le] <;> with_reducible rfl)))
      | (refine GS.skip ?_ ?_ ?_; (· exact rfl); (· exact rfl))
      | fail
    refine OutF.cov (Cov.niw (t := 2) 25 1 rfl) (OutF.cov (Cov.niw (t := 3) 25 1 rfl) ?_)
    refine OutF.mkn (xs := ?_) (nm [1, 2]) ?_ ?_ ?_ ?_ ?_ (by first | exact .inr rfl | exact .inl rfl)
    rotate_left
    · simp [go_sem, List.take_of_length_le, niw, intssO] <;> with_reducible rfl
    · simp [go_sem, List.take_of_length_le, ren, ren1, ren2, okr, okr1, okr2, ChkN, BlkN, List.range_succ, nf, niw, intssO]
    · simp [go_sem, List.take_of_length_le, ren, ren1, ren2, okr, okr1, okr2, ChkN, BlkN, List.range_succ, nf, niw, intssO]
    · simp [go_sem, List.take_of_length_le, ren, ren1, ren2, okr, okr1, okr2, ChkN, BlkN, List.range_succ, nf, niw, intssO]
    · rfl
  | true =>
    rw [hg] at c1
    have c2 := implSets m hg hx
    simp only [machineC] at c2
    refine GS.cc (c1) rfl rfl rfl rfl (by simp [go_sem, List.take_of_length_le] <;> with_reducible rfl) rfl (by simp [go_sem, List.take_of_length_le]) ?_
    repeat' first
      | (refine Holds.condT ?_ ?_; (· (simp [go_sem, List.take_of_length_le] <;> with_reducible rfl)))
      | (refine Holds.condF ?_ ?_; (· (simp [go_sem, List.take_of_length_le] <;> with_reducible rfl)))
      | refine Holds.seq ?_
      | refine Holds.skip ?_
      | refine Holds.exit ?_
      | refine Holds.ret ?_
      | refine thenA_normal ?_
      | refine thenA_exit ?_
      | refine thenA_ret ?_
      | refine inB_normal ?_
      | refine inB_ret ?_
      | refine inB_here ?_
      | (refine inB_past ?_ ?_; (· exact rfl))
      | refine Holds.reg ?_
      | refine Holds.block ?_
      | refine GS.nil ?_
      | (refine GS.step (s' := ?_) ?_ ?_ ?_; rotate_left; (· exact rfl); (· (simp [go_sem, List.take_of_length_le] <;> with_reducible rfl)))
      | (refine GS.skip ?_ ?_ ?_; (· exact rfl); (· exact rfl))
      | fail
    refine GS.fnn [] (c2) rfl rfl rfl rfl (by simp [go_sem, List.take_of_length_le, ren, ren1, ren2, okr, okr1, okr2, ChkN, BlkN, List.range_succ, nf] <;> with_reducible rfl) (by simp [go_sem, List.take_of_length_le, ren, ren1, ren2, okr, okr1, okr2, ChkN, BlkN, List.range_succ, nf]) (by simp [go_sem, List.take_of_length_le, ren, ren1, ren2, okr, okr1, okr2, ChkN, BlkN, List.range_succ, nf]) (by simp [List.range_succ, lb]) (ChkN.toB (by simp [go_sem, List.take_of_length_le, ren, ren1, ren2, okr, okr1, okr2, ChkN, BlkN, List.range_succ, nf])) (by decide) (by simp) rfl (.nfr (by simp) (.nfr (by simp) .nil)) (by simp [go_sem, List.take_of_length_le, ren, ren1, ren2, okr, okr1, okr2, ChkN, BlkN, List.range_succ, nf] <;> with_reducible rfl) ?_
    repeat' first
      | (refine Holds.condT ?_ ?_; (· (simp [go_sem, List.take_of_length_le] <;> with_reducible rfl)))
      | (refine Holds.condF ?_ ?_; (· (simp [go_sem, List.take_of_length_le] <;> with_reducible rfl)))
      | refine Holds.seq ?_
      | refine Holds.skip ?_
      | refine Holds.exit ?_
      | refine Holds.ret ?_
      | refine thenA_normal ?_
      | refine thenA_exit ?_
      | refine thenA_ret ?_
      | refine inB_normal ?_
      | refine inB_ret ?_
      | refine inB_here ?_
      | (refine inB_past ?_ ?_; (· exact rfl))
      | refine Holds.reg ?_
      | refine Holds.block ?_
      | refine GS.nil ?_
      | (refine GS.step (s' := ?_) ?_ ?_ ?_; rotate_left; (· exact rfl); (· (simp [go_sem, List.take_of_length_le] <;> with_reducible rfl)))
      | (refine GS.skip ?_ ?_ ?_; (· exact rfl); (· exact rfl))
      | fail
    refine OutF.mkn (xs := ?_) (nm [1, 2]) ?_ ?_ ?_ ?_ ?_ (by first | exact .inr rfl | exact .inl rfl)
    rotate_left
    · simp [go_sem, List.take_of_length_le] <;> with_reducible rfl
    · simp [go_sem, List.take_of_length_le, ren, ren1, ren2, okr, okr1, okr2, ChkN, BlkN, List.range_succ, nf]
    · simp [go_sem, List.take_of_length_le, ren, ren1, ren2, okr, okr1, okr2, ChkN, BlkN, List.range_succ, nf]
    · simp [go_sem, List.take_of_length_le, ren, ren1, ren2, okr, okr1, okr2, ChkN, BlkN, List.range_succ, nf]
    · rfl
end Go.Proofs.Ytiabaknmgbpmoaa.En
end
