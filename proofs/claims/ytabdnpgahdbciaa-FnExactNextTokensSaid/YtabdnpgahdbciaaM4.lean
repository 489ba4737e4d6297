/- Own words and walks of this claim, part 4: what the program's functions compute, for all the arguments that are named; no further conditions. -/
import Derived.Shelf.Sort.Plain
import Derived.Shelf.Slices.In.SortNone
import Derived.Test.YtabdnpgahdbciaaProg
import Derived.Test.YtabdnpgahdbciaaM2
import Derived.Shelf.Slices.CompactI
import Derived.Test.YtabdnpgahdbciaaM3
section
namespace Go.Proofs.Ytabdnpgahdbciaa.En
open Go.RowKit Go.Shelf
set_option linter.unusedVariables false
def sort189_ren : Go.Shelf.Ren := ⟨fun | 189 => 52 | 125 => 80 | 257 => 87 | 128 => 110 | 129 => 111 | 294 => 113 | 295 => 114 | 296 => 115 | 297 => 116 | 298 => 117 | 299 => 118 | 216 => 119 | 300 => 120 | 301 => 121 | 328 => 128 | 329 => 124 | 330 => 125 | 331 => 129 | 332 => 130 | 215 => 112 | 343 => 132 | n => n, fun | 28 => 25 | 3 => 3 | 46 => 97 | 0 => 0 | 51 => 118 | 53 => 120 | 4 => 4 | 183 => 112 | 182 => 111 | 131 => 37 | 5 => 5 | 9 => 9 | 218 => 125 | 222 => 129 | 228 => 133 | 229 => 134 | n => n, fun n => n⟩
theorem sort189 : Go.Proofs.Lays.n189 Try.prog sort189_ren where
  mixed := by kernel_rfl
  f125 := Try.func80.trans (congrArg some (by kernel_rfl))
  f128 := Try.func110.trans (congrArg some (by kernel_rfl))
  f129 := Try.func111.trans (congrArg some (by kernel_rfl))
  f189 := Try.func52.trans (congrArg some (by kernel_rfl))
  f215 := Try.func112.trans (congrArg some (by kernel_rfl))
  f216 := Try.func119.trans (congrArg some (by kernel_rfl))
  f257 := Try.func87.trans (congrArg some (by kernel_rfl))
  f294 := Try.func113.trans (congrArg some (by kernel_rfl))
  f295 := Try.func114.trans (congrArg some (by kernel_rfl))
  f296 := Try.func115.trans (congrArg some (by kernel_rfl))
  f297 := Try.func116.trans (congrArg some (by kernel_rfl))
  f298 := Try.func117.trans (congrArg some (by kernel_rfl))
  f299 := Try.func118.trans (congrArg some (by kernel_rfl))
  f300 := Try.func120.trans (congrArg some (by kernel_rfl))
  f301 := Try.func121.trans (congrArg some (by kernel_rfl))
  f328 := Try.func128.trans (congrArg some (by kernel_rfl))
  f329 := Try.func124.trans (congrArg some (by kernel_rfl))
  f330 := Try.func125.trans (congrArg some (by kernel_rfl))
  f331 := Try.func129.trans (congrArg some (by kernel_rfl))
  f332 := Try.func130.trans (congrArg some (by kernel_rfl))
  f343 := Try.func132.trans (congrArg some (by kernel_rfl))
  t0 := Try.underlying0
  a0 := Try.isAgg0
  z0 := Try.sizeOf0
  v0 := Try.zeroValue0
  t3 := Try.underlying3
  a3 := Try.isAgg3
  z3 := Try.sizeOf3
  v3 := Try.zeroValue3
  t4 := Try.underlying4
  a4 := Try.isAgg4
  z4 := Try.sizeOf4
  v4 := Try.zeroValue4
  t5 := Try.underlying5
  a5 := Try.isAgg5
  z5 := Try.sizeOf5
  v5 := Try.zeroValue5
  t9 := Try.underlying9
  a9 := Try.isAgg9
  z9 := Try.sizeOf9
  v9 := Try.zeroValue9
  t28 := Try.underlying25
  a28 := Try.isAgg25
  z28 := Try.sizeOf25
  v28 := Try.zeroValue25
  t46 := Try.underlying97
  a46 := Try.isAgg97
  z46 := Try.sizeOf97
  v46 := Try.zeroValue97
  t51 := Try.underlying118
  a51 := Try.isAgg118
  z51 := Try.sizeOf118
  v51 := Try.zeroValue118
  t53 := Try.underlying120
  a53 := Try.isAgg120
  z53 := Try.sizeOf120
  v53 := Try.zeroValue120
  t131 := Try.underlying37
  a131 := Try.isAgg37
  z131 := Try.sizeOf37
  v131 := Try.zeroValue37
  t182 := Try.underlying111
  a182 := Try.isAgg111
  z182 := Try.sizeOf111
  v182 := Try.zeroValue111
  t183 := Try.underlying112
  a183 := Try.isAgg112
  z183 := Try.sizeOf112
  v183 := Try.zeroValue112
  t218 := Try.underlying125
  a218 := Try.isAgg125
  z218 := Try.sizeOf125
  v218 := Try.zeroValue125
  t222 := Try.underlying129
  a222 := Try.isAgg129
  z222 := Try.sizeOf129
  v222 := Try.zeroValue129
  t228 := Try.underlying133
  a228 := Try.isAgg133
  z228 := Try.sizeOf133
  v228 := Try.zeroValue133
  t229 := Try.underlying134
  a229 := Try.isAgg134
  z229 := Try.sizeOf134
  v229 := Try.zeroValue134
end Go.Proofs.Ytabdnpgahdbciaa.En
end
section
namespace Go.Proofs.Ytabdnpgahdbciaa.En
open Go.RowKit Go.Shelf Go.Sort
set_option linter.unusedSimpArgs false
set_option linter.unusedVariables false
def sorted (xs : List Int) : List Int := xs.mergeSort fun x y => decide (x ≤ y)
@[simp] theorem sorted_len (xs : List Int) : (sorted xs).length = xs.length := by simp [sorted]
theorem ints_row {xs : List Int} {j : Nat} {row : List AV} (h : (ints xs)[j]? = some row) : ∃ x, xs[j]? = some x ∧ row = [.v (.int .i64 x)] := by
  rw [ints_get] at h
  simp only [Option.map_eq_some_iff] at h
  obtain ⟨x, h1, h2⟩ := h
  exact ⟨x, h1, h2.symm⟩
theorem blk_sorted {w w' : World} {S : Nat → Prop} {Ow : Owners} {L : Names} {n : Nat} {t : TypeId} {xs ys : List Int} {b o cap : Nat} (hl : ys.length = xs.length) (hB : BlkRep w S Ow L n ⟨t, 1, ints xs⟩ (some (b, o, cap)))
    (hh : ∀ cs fr, w.heap[b]? = some (.cells cs t fr) → w'.heap[b]? = some (.cells (putCells (Value.int .i64) o ys.toArray cs) t fr)) : BlkRep w' S Ow L n ⟨t, 1, ints ys⟩ (some (b, o, cap)) := by
  obtain ⟨hO, cs, us, hc, hs, hle, hrow, hcell, hrep⟩ := hB
  simp only [ints_len, Nat.mul_one] at hs hle hrow hcell hrep
  refine ⟨hO, putCells (Value.int .i64) o ys.toArray cs, fun j _ => .int .i64 (ys.getD j 0), hh _ _ hc, by simp [putCells, hs], by simp only [ints_len]; omega, ?_, ?_, ?_⟩
  · intro j row hj
    obtain ⟨x, _, rfl⟩ := ints_row hj
    rfl
  · intro j row i x hj hi
    obtain ⟨y, hy, rfl⟩ := ints_row hj
    have hlt := (List.getElem?_eq_some_iff.1 hy).1
    have hi0 : i = 0 := by
      have := (List.getElem?_eq_some_iff.1 hi).1
      simp at this; exact this
    subst hi0
    have hlt2 : o + j < cs.size := by omega
    simp only [Nat.mul_one, Nat.add_zero, putCells, Array.getElem?_mapIdx, Array.getElem?_eq_getElem hlt2, Option.map_some, Option.some.injEq, List.size_toArray]
    rw [if_pos ⟨by omega, by omega⟩, show o + j - o = j by omega]
    simp [List.getD_eq_getElem?_getD, hlt]
  · intro j row i x hj hi
    obtain ⟨y, hy, rfl⟩ := ints_row hj
    have hi0 : i = 0 := by
      have := (List.getElem?_eq_some_iff.1 hi).1
      simp at this; exact this
    subst hi0
    simp only [List.getElem?_cons_zero, Option.some.injEq] at hi
    subst hi
    dsimp only
    rw [show ys.getD j 0 = y by rw [List.getD_eq_getElem?_getD, hy]; rfl]
    exact .v _ rfl
theorem sortInts (xs : List Int) (hx : xs.length < 4611686018427387904) : Fn Try.prog 52 1 [.own 0 1 0 xs.length] [(0, ⟨3, 1, ints xs⟩)] (.tu []) 1 [(0, ⟨3, 1, ints (sorted xs)⟩)] := by
  unfold Fn
  refine ⟨⟨_, Try.func52, by kernel_rfl, by kernel_rfl⟩, fun W X S Ow L us hR hl hrep => ?_⟩
  obtain ⟨u, rfl⟩ : ∃ u, us = [u] := by
    match us, hl with
    | [u], _ => exact ⟨u, rfl⟩
  have hu := hrep 0 _ u rfl rfl
  have same : xs.length = 0 → (Calls Try.prog 52 [u].toArray W fun e w' => e = Ending.returned (Value.tuple #[]) ∧ w' = W) → Calls Try.prog 52 [u].toArray W fun e w' => ∃ v, e = .returned v ∧ ∃ S' Ow' L', RelX ⟨W, X, S, ⟨0, 1⟩, fixOf 1 L⟩ ⟨[], [(0, ⟨3, 1, ints (sorted xs)⟩)], 1⟩ a0 w' S' Ow' L' ∧ Rep w' S' Ow' L' [0] (.tu []) v := by
    intro h0 hc cs
    obtain ⟨e, w', fr, ⟨rfl, rfl⟩, rest⟩ := hc cs
    have hx0 : xs = [] := List.length_eq_zero_iff.1 h0
    subst hx0
    rw [show sorted [] = [] by simp [sorted]]
    exact ⟨_, _, fr, ⟨_, rfl, S, Ow, L, hR, .tu [] [] rfl (fun i x u hx hu => by simp at hx)⟩, rest⟩
  have hn : ∀ (p : Option Addr) (cap : Nat), Calls Try.prog 52 #[.slice p 0 cap] W fun e w' => e = Ending.returned (Value.tuple #[]) ∧ w' = W := fun p cap => Any.slices_Sort_int_none sort189 p cap W
  rcases own_inv hu with ⟨b, o, cap, hL, hle, rfl⟩ | ⟨b, o, cap, ad, hL, hoff, hlen, rfl⟩ | ⟨hL, _, hlen, A, rfl⟩ | hL
  · obtain ⟨loc, hl0, hB⟩ := hR.blk 0 _ rfl
    rw [hL] at hl0
    cases hl0
    have hB' := hB
    obtain ⟨hO, cs, us, hc, hs, hle', hrow, hcell, hrep'⟩ := hB'
    simp only [ints_len, Nat.mul_one] at hs hle'
    have hblk : b < W.heap.size := (Array.getElem?_eq_some_iff.1 hc).1
    have hH : Go.Sort.Holds (Value.int .i64) W b o xs.toArray := by
      intro j hj
      have hj' : j < xs.length := by simpa using hj
      have hxj : (ints xs)[j]? = some [.v (.int .i64 xs[j])] := by simp [hj']
      have h1 := hcell j _ 0 _ hxj rfl
      have h2 := hrep' j _ 0 _ hxj rfl
      have h3 : us j 0 = .int .i64 xs[j] := by clear h1; generalize us j 0 = q at h2 ⊢; cases h2; rfl
      simp only [Nat.mul_one, Nat.add_zero] at h1
      refine ⟨?_, ?_⟩
      · simp only [World.cell?, hc, Option.isSome_none, Bool.false_eq_true, if_false, h1, h3]
        simp [hj']
      · simp [World.frozen?, hc]
    have hcall := Any.slices_Sort_int sort189 b o cap xs W hH hblk hx
    intro cs'
    obtain ⟨e, w', fr, ⟨rfl, n, os, rfl⟩, rest⟩ := hcall cs'
    refine ⟨_, Go.Sort.grow (putRow (Value.int .i64) (Go.Sort.ahead W n) b o (sorted xs).toArray) os, fr, ⟨_, rfl, S, Ow, L, ?_, .tu [] [] rfl (fun i x u hx hu => by simp at hx)⟩, ?_⟩
    · have h1 := hR.drawn (w' := Go.Sort.ahead W n) rfl rfl rfl rfl
      have h2 := h1.write 0 _ ⟨3, 1, ints (sorted xs)⟩ b o cap hL rfl (putRow (Value.int .i64) (Go.Sort.ahead W n) b o (sorted xs).toArray) rfl rfl rfl (by simp [putRow, mapBlock]) (fun c hcb => by simp [putRow, mapBlock, Array.getElem?_modify, Ne.symm hcb])
        (fun hB1 _ => blk_sorted (by simp) hB1 (fun cs2 fr2 h2 => by have h3 : W.heap[b]? = _ := h2; simp [putRow, mapBlock, Array.getElem?_modify, h3, onCells]))
      refine h2.grown ⟨⟨rfl, rfl, rfl, by simp [Go.Sort.grow], fun k hk => ?_⟩, Nat.le_refl _⟩
      exact Array.getElem?_append_left hk
    · simp only [Nat.add_zero, Nat.mul_one, Nat.sub_zero]
      exact rest
  · exact same (by omega) (by have := hn (some ad) 0; simpa [hlen] using this)
  · exact same (by omega) (by have := hn A 0; simpa [hlen] using this)
  · obtain ⟨loc, hl0, hB⟩ := hR.blk 0 _ rfl
    rw [hL] at hl0
    cases hl0
end Go.Proofs.Ytabdnpgahdbciaa.En
end
section
namespace Go.Proofs.Ytabdnpgahdbciaa.En
open Go.RowKit Go.Shelf
set_option linter.unusedVariables false
def compact20_ren : Go.Shelf.Ren := ⟨fun | 20 => 53 | n => n, fun | 22 => 25 | 3 => 3 | 4 => 4 | 0 => 0 | n => n, fun n => n⟩
theorem compact20 : Go.Proofs.Lays2.n20 Try.prog compact20_ren where
  mixed := by kernel_rfl
  f20 := Try.func53.trans (congrArg some (by kernel_rfl))
  t0 := Try.underlying0
  a0 := Try.isAgg0
  z0 := Try.sizeOf0
  v0 := Try.zeroValue0
  t3 := Try.underlying3
  a3 := Try.isAgg3
  z3 := Try.sizeOf3
  v3 := Try.zeroValue3
  t4 := Try.underlying4
  a4 := Try.isAgg4
  z4 := Try.sizeOf4
  v4 := Try.zeroValue4
  t22 := Try.underlying25
  a22 := Try.isAgg25
  z22 := Try.sizeOf25
  v22 := Try.zeroValue25
  i3 := by kernel_rfl
end Go.Proofs.Ytabdnpgahdbciaa.En
end
section
namespace Go.Proofs.Ytabdnpgahdbciaa.En
open Go.RowKit Go.Shelf Go.Sort
set_option linter.unusedSimpArgs false
set_option linter.unusedVariables false
def compacted (xs : List Int) : List Int := Go.Lib.compact xs
theorem compacted_len (xs : List Int) : (compacted xs).length ≤ xs.length := by
  unfold compacted Go.Lib.compact Go.Lib.compactUpTo
  rw [List.length_map]
  exact Nat.le_trans (List.length_filter_le _ _) (by simp)
theorem blk_prefix {w : World} {S : Nat → Prop} {Ow : Owners} {L : Names} {n : Nat} {t : TypeId} {xs ys : List Int} {loc : Loc} (hl : ys.length ≤ xs.length) (hp : ∀ j, j < ys.length → ys[j]? = xs[j]?) (hB : BlkRep w S Ow L n ⟨t, 1, ints xs⟩ loc) : BlkRep w S Ow L n ⟨t, 1, ints ys⟩ loc := by
  cases loc with
  | none =>
    have h0 : ints xs = [] := hB
    have h1 : xs = [] := by simpa [ints] using h0
    subst h1
    have h2 : ys = [] := List.length_eq_zero_iff.1 (by simpa using hl)
    subst h2
    exact rfl
  | some l =>
    obtain ⟨b, o, cap⟩ := l
    obtain ⟨hO, cs, us, hc, hs, hle, hrow, hcell, hrep⟩ := hB
    have up : ∀ (j : Nat) (row : List AV), (ints ys)[j]? = some row → (ints xs)[j]? = some row := by
      intro j row hj
      obtain ⟨x, hx, rfl⟩ := ints_row hj
      rw [ints_get, ← hp j (List.getElem?_eq_some_iff.1 hx).1, hx]; rfl
    refine ⟨hO, cs, us, hc, hs, ?_, fun j row hj => hrow j row (up j row hj), fun j row i x hj hi => hcell j row i x (up j row hj) hi, fun j row i x hj hi => hrep j row i x (up j row hj) hi⟩
    have : (ints xs).length ≤ cap := hle
    simp only [ints_len] at this ⊢; omega
theorem put_rel {W : World} {S : Nat → Prop} {Ow : Owners} {L : Names} {t : TypeId} {xs ys zs : List Int} {b o cap : Nat} {C : Ctx} (hR : RelX C ⟨[], [(0, ⟨t, 1, ints xs⟩)], 1⟩ a0 W S Ow L) (hL : L 0 = .at (some (b, o, cap))) (hz : zs.length = xs.length) (hy : ys.length ≤ zs.length) (hp : ∀ j, j < ys.length → ys[j]? = zs[j]?) (n : Nat) :
    RelX C ⟨[], [(0, ⟨t, 1, ints ys⟩)], 1⟩ a0 (putRow (Value.int .i64) (Go.Sort.ahead W n) b o zs.toArray) S Ow L := by
  have h1 := hR.drawn (w' := Go.Sort.ahead W n) rfl rfl rfl rfl
  exact h1.write 0 _ ⟨t, 1, ints ys⟩ b o cap hL rfl (putRow (Value.int .i64) (Go.Sort.ahead W n) b o zs.toArray) rfl rfl rfl (by simp [putRow, mapBlock]) (fun c hcb => by simp [putRow, mapBlock, Array.getElem?_modify, Ne.symm hcb])
    (fun hB1 _ => blk_prefix hy hp (blk_sorted hz hB1 (fun cs2 fr2 h2 => by have h3 : W.heap[b]? = _ := h2; simp [putRow, mapBlock, Array.getElem?_modify, h3, onCells])))
set_option maxHeartbeats 1000000 in
theorem compactInts (xs : List Int) (hx : xs.length < 4611686018427387904) : Fn Try.prog 53 1 [.own 0 1 0 xs.length] [(0, ⟨3, 1, ints xs⟩)] (.own 0 1 0 (compacted xs).length) 1 [(0, ⟨3, 1, ints (compacted xs)⟩)] := by
  have hcl := compacted_len xs
  unfold Fn
  refine ⟨⟨_, Try.func53, by kernel_rfl, by kernel_rfl⟩, fun W X S Ow L us hR hl hrep => ?_⟩
  obtain ⟨u, rfl⟩ : ∃ u, us = [u] := by
    match us, hl with
    | [u], _ => exact ⟨u, rfl⟩
  have hu := hrep 0 _ u rfl rfl
  have same : xs.length = 0 → (Calls Try.prog 53 [u].toArray W fun e w' => e = Ending.returned u ∧ w' = W) → Calls Try.prog 53 [u].toArray W fun e w' => ∃ v, e = .returned v ∧ ∃ S' Ow' L', RelX ⟨W, X, S, ⟨0, 1⟩, fixOf 1 L⟩ ⟨[], [(0, ⟨3, 1, ints (compacted xs)⟩)], 1⟩ a0 w' S' Ow' L' ∧ Rep w' S' Ow' L' [0] (.own 0 1 0 (compacted xs).length) v := by
    intro h0 hc cs
    obtain ⟨e, w', fr, ⟨rfl, rfl⟩, rest⟩ := hc cs
    have hx0 : xs = [] := List.length_eq_zero_iff.1 h0
    subst hx0
    rw [show compacted [] = [] from rfl]
    exact ⟨_, _, fr, ⟨_, rfl, S, Ow, L, hR, hu⟩, rest⟩
  have hn : ∀ (p : Option Addr) (cap : Nat), Calls Try.prog 53 #[.slice p 0 cap] W fun e w' => e = Ending.returned (.slice p 0 cap) ∧ w' = W := fun p cap => Any.slices_Compact_int_empty compact20 p cap W
  rcases own_inv hu with ⟨b, o, cap, hL, hle, rfl⟩ | ⟨b, o, cap, ad, hL, hoff, hlen, rfl⟩ | ⟨hL, _, hlen, A, rfl⟩ | hL
  · obtain ⟨loc, hl0, hB⟩ := hR.blk 0 _ rfl
    rw [hL] at hl0
    cases hl0
    have hB' := hB
    obtain ⟨hO, cs, us, hc, hs, hle', hrow, hcell, hrep'⟩ := hB'
    simp only [ints_len, Nat.mul_one] at hs hle'
    have hblk : b < W.heap.size := (Array.getElem?_eq_some_iff.1 hc).1
    have hH : Go.Sort.Holds (Value.int .i64) W b o xs.toArray := by
      intro j hj
      have hj' : j < xs.length := by simpa using hj
      have hxj : (ints xs)[j]? = some [.v (.int .i64 xs[j])] := by simp [hj']
      have h1 := hcell j _ 0 _ hxj rfl
      have h2 := hrep' j _ 0 _ hxj rfl
      have h3 : us j 0 = .int .i64 xs[j] := by clear h1; generalize us j 0 = q at h2 ⊢; cases h2; rfl
      simp only [Nat.mul_one, Nat.add_zero] at h1
      refine ⟨?_, ?_⟩
      · simp only [World.cell?, hc, Option.isSome_none, Bool.false_eq_true, if_false, h1, h3]
        simp [hj']
      · simp [World.frozen?, hc]
    have hcall := Any.slices_Compact_int compact20 b o cap xs W hH (by omega) (by omega)
    intro cs'
    obtain ⟨e, w', fr, ⟨he, n, hw⟩, rest⟩ := hcall cs'
    have he' : e = Ending.returned (.slice (some ⟨b, o, none⟩) (compacted xs).length cap) := he
    have hw' : w' = putRow (Value.int .i64) (Go.Sort.ahead W n) b o (compacted xs ++ List.replicate (xs.length - (compacted xs).length) 0).toArray := hw
    clear he hw
    have hlen2 : (compacted xs ++ List.replicate (xs.length - (compacted xs).length) 0).length = xs.length := by rw [List.length_append, List.length_replicate]; omega
    have hpre : ∀ j, j < (compacted xs).length → (compacted xs)[j]? = (compacted xs ++ List.replicate (xs.length - (compacted xs).length) 0)[j]? := fun j hj => (List.getElem?_append_left hj).symm
    generalize compacted xs ++ List.replicate (xs.length - (compacted xs).length) 0 = zs at hw' hlen2 hpre
    generalize compacted xs = ys at he' hpre hcl ⊢
    subst he' hw'
    have h4 := put_rel hR hL hlen2 (by omega) hpre n
    have h5 := Rep.own (w := putRow (Value.int .i64) (Go.Sort.ahead W n) b o zs.toArray) (S := S) (Ow := Ow) (L := L) (p := [0]) 0 1 0 ys.length b o cap hL (by omega)
    simp only [Nat.add_zero, Nat.mul_one, Nat.sub_zero] at h5 ⊢
    exact ⟨_, _, fr, ⟨_, rfl, S, Ow, L, h4, h5⟩, rest⟩
  · exact same (by omega) (by have := hn (some ad) 0; simpa [hlen] using this)
  · exact same (by omega) (by have := hn A 0; simpa [hlen] using this)
  · obtain ⟨loc, hl0, hB⟩ := hR.blk 0 _ rfl
    rw [hL] at hl0
    cases hl0
end Go.Proofs.Ytabdnpgahdbciaa.En
end
section
namespace Go.Proofs.Ytabdnpgahdbciaa.En
open Go.RowKit
set_option linter.unusedSimpArgs false
set_option linter.unusedVariables false
def putL : List Int → Int → List Int
  | [], n => [n]
  | x :: xs, n => if x < n then x :: putL xs n else if x = n then x :: xs else n :: x :: xs
theorem putL_mem (n z : Int) : ∀ l : List Int, z ∈ putL l n ↔ z = n ∨ z ∈ l
  | [] => by simp [putL]
  | x :: xs => by
    have ih := putL_mem n z xs
    unfold putL
    split
    · simp only [List.mem_cons, ih]
      constructor
      · rintro (h | h | h) <;> simp [h]
      · rintro (h | h | h) <;> simp [h]
    · split
      · rename_i h; subst h
        simp only [List.mem_cons]
        constructor
        · intro h; exact .inr h
        · rintro (h | h)
          · exact .inl h
          · exact h
      · simp only [List.mem_cons]
theorem putL_incr (n : Int) : ∀ l : List Int, l.Pairwise (· < ·) → (putL l n).Pairwise (· < ·)
  | [], _ => by simp [putL]
  | x :: xs, h => by
    have ih := putL_incr n xs (List.pairwise_cons.1 h).2
    have hx := (List.pairwise_cons.1 h).1
    unfold putL
    split
    · rename_i hl
      refine List.pairwise_cons.2 ⟨fun z hz => ?_, ih⟩
      rcases (putL_mem n z xs).1 hz with e | e
      · omega
      · exact hx z e
    · split
      · exact h
      · rename_i h1 h2
        refine List.pairwise_cons.2 ⟨fun z hz => ?_, h⟩
        rcases List.mem_cons.1 hz with e | e
        · omega
        · have := hx z e; omega
theorem incr_ext : ∀ {a b : List Int}, a.Pairwise (· < ·) → b.Pairwise (· < ·) → (∀ z, z ∈ a ↔ z ∈ b) → a = b
  | [], [], _, _, _ => rfl
  | [], y :: b, _, _, h => by have := (h y).2 (by simp); cases this
  | x :: a, [], _, _, h => by have := (h x).1 (by simp); cases this
  | x :: a, y :: b, ha, hb, h => by
    have ha1 := (List.pairwise_cons.1 ha).1
    have hb1 := (List.pairwise_cons.1 hb).1
    have hxy : x = y := by
      rcases List.mem_cons.1 ((h x).1 (by simp)) with e | e
      · exact e
      · have h1 := hb1 x e
        rcases List.mem_cons.1 ((h y).2 (by simp)) with e2 | e2
        · exact e2.symm
        · have h2 := ha1 y e2; omega
    subst hxy
    rw [incr_ext (List.pairwise_cons.1 ha).2 (List.pairwise_cons.1 hb).2 fun z => ?_]
    constructor
    · intro hz
      rcases List.mem_cons.1 ((h z).1 (List.mem_cons_of_mem _ hz)) with e | e
      · have := ha1 z hz; omega
      · exact e
    · intro hz
      rcases List.mem_cons.1 ((h z).2 (List.mem_cons_of_mem _ hz)) with e | e
      · have := hb1 z hz; omega
      · exact e
theorem foldl_put : ∀ (xs l : List Int), l.Pairwise (· < ·) → (xs.foldl putL l).Pairwise (· < ·) ∧ ∀ z, z ∈ xs.foldl putL l ↔ z ∈ l ∨ z ∈ xs
  | [], l, h => ⟨h, fun z => by simp⟩
  | x :: xs, l, h => by
    obtain ⟨h1, h2⟩ := foldl_put xs (putL l x) (putL_incr x l h)
    refine ⟨h1, fun z => ?_⟩
    rw [List.foldl_cons, h2 z, putL_mem, List.mem_cons]
    constructor
    · rintro ((h | h) | h) <;> simp [h]
    · rintro (h | h | h) <;> simp [h]
theorem upTo_incr (d : Array Int) (hd : ∀ i j, i ≤ j → j < d.size → d[i]! ≤ d[j]!) : ∀ m, m ≤ d.size → (Go.Lib.compactUpTo d m).Pairwise (· < ·) ∧ (∀ z, z ∈ Go.Lib.compactUpTo d m ↔ ∃ j, j < m ∧ d[j]! = z)
  | 0, _ => ⟨by simp [Go.Lib.compactUpTo], fun z => by simp [Go.Lib.compactUpTo]⟩
  | m + 1, hm => by
    obtain ⟨h1, h2⟩ := upTo_incr d hd m (by omega)
    rw [Go.Lib.compactUpTo_succ]
    by_cases hk : Go.Lib.keeps d m = true
    · rw [if_pos hk]
      refine ⟨List.pairwise_append.2 ⟨h1, by simp, fun z hz y hy => ?_⟩, fun z => ?_⟩
      · obtain ⟨j, hj, rfl⟩ := (h2 z).1 hz
        simp only [List.mem_singleton] at hy
        subst hy
        have hne : d[m]! ≠ d[m - 1]! := by
          simp only [Go.Lib.keeps, decide_eq_true_eq] at hk
          rcases hk with e | e
          · omega
          · exact e
        have a1 := hd j (m - 1) (by omega) (by omega)
        have a2 := hd (m - 1) m (by omega) (by omega)
        omega
      · rw [List.mem_append, h2 z, List.mem_singleton]
        constructor
        · rintro (⟨j, hj, e⟩ | e)
          · exact ⟨j, by omega, e⟩
          · exact ⟨m, by omega, e.symm⟩
        · rintro ⟨j, hj, e⟩
          by_cases hjm : j = m
          · subst hjm; exact .inr e.symm
          · exact .inl ⟨j, by omega, e⟩
    · rw [if_neg hk, List.append_nil]
      refine ⟨h1, fun z => ?_⟩
      rw [h2 z]
      have hme : m ≠ 0 ∧ d[m]! = d[m - 1]! := by
        simp only [Go.Lib.keeps, decide_eq_true_eq] at hk
        refine ⟨fun e => hk (.inl e), ?_⟩
        by_cases e : d[m]! = d[m - 1]!
        · exact e
        · exact absurd (.inr e) hk
      constructor
      · rintro ⟨j, hj, e⟩
        exact ⟨j, by omega, e⟩
      · rintro ⟨j, hj, e⟩
        by_cases hjm : j = m
        · subst hjm; exact ⟨j - 1, by omega, by rw [← hme.2, e]⟩
        · exact ⟨j, by omega, e⟩
theorem bangI (l : List Int) (i : Nat) (h : i < l.length) : l.toArray[i]! = l[i] := by
  rw [getElem!_pos _ i (by simpa using h)]; simp
theorem sorted_le (xs : List Int) (i j : Nat) (hij : i ≤ j) (hj : j < (sorted xs).toArray.size) : (sorted xs).toArray[i]! ≤ (sorted xs).toArray[j]! := by
  have hp : (sorted xs).Pairwise (fun a b => decide (a ≤ b) = true) := List.pairwise_mergeSort (fun a b c h1 h2 => by simp at *; omega) (fun a b => by simp; omega) xs
  have hj' : j < (sorted xs).length := by simpa using hj
  have hi' : i < (sorted xs).length := by omega
  have e1 : (sorted xs).toArray[i]! = (sorted xs)[i] := bangI _ _ hi'
  have e2 : (sorted xs).toArray[j]! = (sorted xs)[j] := bangI _ _ hj'
  rw [e1, e2]
  by_cases h : i = j
  · subst h; omega
  · have := List.pairwise_iff_getElem.1 hp i j hi' hj' (by omega)
    simpa using this
theorem compacted_sorted (xs : List Int) : compacted (sorted xs) = xs.foldl putL [] := by
  obtain ⟨h1, h2⟩ := upTo_incr (sorted xs).toArray (sorted_le xs) (sorted xs).length (by simp)
  obtain ⟨h3, h4⟩ := foldl_put xs [] List.Pairwise.nil
  refine incr_ext h1 h3 fun z => ?_
  rw [h4 z]
  refine (h2 z).trans ?_
  have hm : z ∈ sorted xs ↔ z ∈ xs := by simp [sorted, List.mem_mergeSort]
  constructor
  · rintro ⟨j, hj, e⟩
    refine .inr (hm.1 ?_)
    have : (sorted xs).toArray[j]! = (sorted xs)[j] := bangI _ _ hj
    rw [← e, this]
    exact List.getElem_mem hj
  · rintro (h | h)
    · cases h
    · obtain ⟨j, hj, e⟩ := List.mem_iff_getElem.1 (hm.2 h)
      exact ⟨j, hj, by rw [← e]; exact bangI _ _ hj⟩
end Go.Proofs.Ytabdnpgahdbciaa.En
end
section
namespace Go.Proofs.Ytabdnpgahdbciaa.En
open Go.RowKit
set_option linter.unusedSimpArgs false
set_option linter.unusedVariables false
set_option maxHeartbeats 8000000
theorem putL_split (n : Int) : ∀ (l : List Int) (k : Nat), k ≤ l.length → (∀ j, j < k → ∀ x, l[j]? = some x → x < n) → putL l n = l.take k ++ putL (l.drop k) n
  | l, 0, _, _ => by simp
  | [], k + 1, h, _ => by simp at h
  | x :: xs, k + 1, h, hp => by
    have hx : x < n := hp 0 (by omega) x (by simp)
    have ih := putL_split n xs k (by simpa using h) (fun j hj y hy => hp (j + 1) (by omega) y (by simpa using hy))
    rw [List.take_succ_cons, List.drop_succ_cons, putL, if_pos hx, ih]; rfl
theorem ints_all (l : List Int) (P : List AV → Prop) : (∀ x, x ∈ ints l → P x) ↔ ∀ n, n ∈ l → P [.v (.int .i64 n)] := by simp [ints]
theorem l1Put (l : List Int) (n : Int) (hl : l.length ≤ 4000000) : Pure Try.prog 50 [.im 1 (ints l), .v (.int .i64 n)] (.im 1 (ints (putL l n))) := by
  refine Pure.mk (rs := [.tmp 4]) (nt := 48) Try.func50 (by kernel_rfl) rfl rfl rfl (by simp) ?_
  simp only [sl]
  repeat' first | (refine Holds.condT ?_ ?_; (· (simp [go_sem, List.take_of_length_le] <;> with_reducible rfl))) | (refine Holds.condF ?_ ?_; (· (simp [go_sem, List.take_of_length_le] <;> with_reducible rfl))) | refine Holds.seq ?_ | refine Holds.skip ?_ | refine Holds.exit ?_ | refine Holds.ret ?_ | refine thenA_normal ?_ | refine thenA_exit ?_ | refine thenA_ret ?_ | refine inB_normal ?_ | refine inB_ret ?_ | refine inB_here ?_ | (refine inB_past ?_ ?_; (· exact rfl)) | refine Holds.reg ?_ | refine Holds.block ?_ | refine GS.nil ?_ | (refine GS.step (s' := ?_) ?_ ?_ ?_; rotate_left; (· exact rfl); (· (simp [go_sem, List.take_of_length_le] <;> with_reducible rfl))) | (refine GS.skip ?_ ?_ ?_; (· exact rfl); (· exact rfl)) | fail
  refine Holds.loop (ι := Nat) (fun k => ⟨[(0, .im 1 (ints l)), (1, .v (.int .i64 n)), (5, .v (.int .i64 k))], [], 0⟩) (fun k => k ≤ l.length ∧ ∀ j, j < k → ∀ x, l[j]? = some x → x < n) (fun k => l.length - k) 0 ⟨Nat.zero_le _, fun j hj => absurd hj (Nat.not_lt_zero j)⟩ ?_ ?_
  · exact Cov.ofn (id) rfl (by simp [go_sem, List.take_of_length_le, ren, ren1, ren2, okr, okr1, okr2, ChkT, ChkN, BlkN, nf]) (by simp [go_sem, List.take_of_length_le, ren, ren1, ren2, okr, okr1, okr2, ChkT, ChkN, BlkN, nf])
  rintro k ⟨hk, hall⟩
  have stepk : wr64 ((k : Int) + 1) = ((k + 1 : Nat) : Int) := wr64_id (by omega) (by omega)
  have hsp := putL_split n l k hk hall
  have htk : (ints l).take k = ints (l.take k) := by simp [ints, List.map_take]
  have hdk : (ints l).drop k = ints (l.drop k) := by simp [ints, List.map_drop]
  have hi00 : (List.length l - k) = (l.drop k).length := by simp
  by_cases hlt : k < l.length
  · have hxi : l[k]? = some l[k] := List.getElem?_eq_getElem hlt
    have hdr : l.drop k = l[k] :: l.drop (k + 1) := List.drop_eq_getElem_cons hlt
    by_cases hx : l[k] < n
    · repeat' first | (refine Holds.condT ?_ ?_; (· (simp [go_sem, List.take_of_length_le, hlt, hx] <;> with_reducible rfl))) | (refine Holds.condF ?_ ?_; (· (simp [go_sem, List.take_of_length_le, hlt, hx] <;> with_reducible rfl))) | refine Holds.seq ?_ | refine Holds.skip ?_ | refine Holds.exit ?_ | refine Holds.ret ?_ | refine thenA_normal ?_ | refine thenA_exit ?_ | refine thenA_ret ?_ | refine inB_normal ?_ | refine inB_ret ?_ | refine inB_here ?_ | (refine inB_past ?_ ?_; (· exact rfl)) | refine Holds.reg ?_ | refine Holds.block ?_ | refine GS.nil ?_ | (refine GS.step (s' := ?_) ?_ ?_ ?_; rotate_left; (· exact rfl); (· (simp [go_sem, List.take_of_length_le, hlt, hx] <;> with_reducible rfl))) | (refine GS.skip ?_ ?_ ?_; (· exact rfl); (· exact rfl)) | fail
      refine ⟨k + 1, ⟨by omega, fun j hj y hy => ?_⟩, by omega, ?_⟩
      · by_cases e : j = k
        · subst e; rw [hxi] at hy; cases hy; exact hx
        · exact hall j (by omega) y hy
      rw [stepk]
      exact Cov.ofn (id) rfl (by simp [go_sem, List.take_of_length_le, ren, ren1, ren2, okr, okr1, okr2, ChkT, ChkN, BlkN, nf]) (by simp [go_sem, List.take_of_length_le, ren, ren1, ren2, okr, okr1, okr2, ChkT, ChkN, BlkN, nf])
    · by_cases he : l[k] = n
      · have hv : putL l n = l := by
          rw [hsp, hdr, putL, if_neg hx, if_pos he, ← hdr, List.take_append_drop]
        have he' : (l[k] == n) = true := by simp [he]
        rw [hv]
        repeat' first | (refine Holds.condT ?_ ?_; (· (simp [go_sem, List.take_of_length_le, hlt, hx, he'] <;> with_reducible rfl))) | (refine Holds.condF ?_ ?_; (· (simp [go_sem, List.take_of_length_le, hlt, hx, he'] <;> with_reducible rfl))) | refine Holds.seq ?_ | refine Holds.skip ?_ | refine Holds.exit ?_ | refine Holds.ret ?_ | refine thenA_normal ?_ | refine thenA_exit ?_ | refine thenA_ret ?_ | refine inB_normal ?_ | refine inB_ret ?_ | refine inB_here ?_ | (refine inB_past ?_ ?_; (· exact rfl)) | refine Holds.reg ?_ | refine Holds.block ?_ | refine GS.nil ?_ | (refine GS.step (s' := ?_) ?_ ?_ ?_; rotate_left; (· exact rfl); (· (simp [go_sem, List.take_of_length_le, hlt, hx, he'] <;> with_reducible rfl))) | (refine GS.skip ?_ ?_ ?_; (· exact rfl); (· exact rfl)) | fail
        refine Out.mk (xs := ?_) ?_ ?_ (by first | exact .inr rfl | exact .inl rfl)
        rotate_left
        · simp [go_sem, List.take_of_length_le] <;> with_reducible rfl
        exact .im _ _
      · have hv : ints (putL l n) = ints (l.take k) ++ [.v (.int .i64 n)] :: ints (l.drop k) := by
          rw [hsp, hdr, putL, if_neg hx, if_neg he]; simp [ints]
        have he' : (l[k] == n) = false := by simp [he]
        have hm : min k l.length = k := Nat.min_eq_left hk
        have hb1 : k * 8 ≤ 140737488355328 := by omega
        have hb2 : (k + 1) * 8 ≤ 140737488355328 := by omega
        have hb3 : (k + 1 + (l.length - k)) * 8 ≤ 140737488355328 := by omega
        rw [hv]
        repeat' first | (refine Holds.condT ?_ ?_; (· (simp [go_sem, List.take_of_length_le, hlt, hx, he', htk, hdk, hk, hm, hb1, hb2, hb3, ints_all] <;> with_reducible rfl))) | (refine Holds.condF ?_ ?_; (· (simp [go_sem, List.take_of_length_le, hlt, hx, he', htk, hdk, hk, hm, hb1, hb2, hb3, ints_all] <;> with_reducible rfl))) | refine Holds.seq ?_ | refine Holds.skip ?_ | refine Holds.exit ?_ | refine Holds.ret ?_ | refine thenA_normal ?_ | refine thenA_exit ?_ | refine thenA_ret ?_ | refine inB_normal ?_ | refine inB_ret ?_ | refine inB_here ?_ | (refine inB_past ?_ ?_; (· exact rfl)) | refine Holds.reg ?_ | refine Holds.block ?_ | refine GS.nil ?_ | (refine GS.step (s' := ?_) ?_ ?_ ?_; rotate_left; (· exact rfl); (· (simp [go_sem, List.take_of_length_le, hlt, hx, he', htk, hdk, hk, hm, hb1, hb2, hb3, ints_all] <;> with_reducible rfl))) | (refine GS.skip ?_ ?_ ?_; (· exact rfl); (· exact rfl)) | fail
        refine Out.mk (xs := ?_) ?_ ?_ (by first | exact .inr rfl | exact .inl rfl)
        rotate_left
        · simp [go_sem, List.take_of_length_le] <;> with_reducible rfl
        exact Fz.all rfl rfl (by simp; omega) rfl (by rw [← hv]; exact ints_cl _)
  · have hke : k = l.length := by omega
    subst hke
    have hv : ints (putL l n) = ints l ++ [[.v (.int .i64 n)]] := by
      rw [hsp, List.take_length, List.drop_length]; simp [ints, putL]
    have hb1 : l.length * 8 ≤ 140737488355328 := by omega
    have hb2 : (l.length + 1) * 8 ≤ 140737488355328 := by omega
    have hnl : ¬ l.length < l.length := by omega
    rw [List.take_length] at htk
    rw [List.drop_length] at hdk
    rw [hv]
    repeat' first | (refine Holds.condT ?_ ?_; (· (simp [go_sem, List.take_of_length_le, hnl, htk, hdk, hb1, hb2, ints_all] <;> with_reducible rfl))) | (refine Holds.condF ?_ ?_; (· (simp [go_sem, List.take_of_length_le, hnl, htk, hdk, hb1, hb2, ints_all] <;> with_reducible rfl))) | refine Holds.seq ?_ | refine Holds.skip ?_ | refine Holds.exit ?_ | refine Holds.ret ?_ | refine thenA_normal ?_ | refine thenA_exit ?_ | refine thenA_ret ?_ | refine inB_normal ?_ | refine inB_ret ?_ | refine inB_here ?_ | (refine inB_past ?_ ?_; (· exact rfl)) | refine Holds.reg ?_ | refine Holds.block ?_ | refine GS.nil ?_ | (refine GS.step (s' := ?_) ?_ ?_ ?_; rotate_left; (· exact rfl); (· (simp [go_sem, List.take_of_length_le, hnl, htk, hdk, hb1, hb2, ints_all] <;> with_reducible rfl))) | (refine GS.skip ?_ ?_ ?_; (· exact rfl); (· exact rfl)) | fail
    refine Out.mk (xs := ?_) ?_ ?_ (by first | exact .inr rfl | exact .inl rfl)
    rotate_left
    · simp [go_sem, List.take_of_length_le] <;> with_reducible rfl
    exact Fz.all rfl rfl (by simp) rfl (by rw [← hv]; exact ints_cl _)
end Go.Proofs.Ytabdnpgahdbciaa.En
end
section
namespace Go.Proofs.Ytabdnpgahdbciaa.En
open Go.RowKit
set_option linter.unusedSimpArgs false
set_option linter.unusedVariables false
def intc (xs : List Int) : List AV := xs.map fun n => .v (.int .i64 n)
@[simp] theorem intc_len (xs : List Int) : (intc xs).length = xs.length := by simp [intc]
@[simp] theorem intc_get (xs : List Int) (i : Nat) : (intc xs)[i]? = (xs[i]?).map fun n => .v (.int .i64 n) := by simp [intc]
@[simp] theorem intc_gE (xs : List Int) (i : Nat) (h : i < (intc xs).length) : (intc xs)[i] = .v (.int .i64 (xs[i]'(by simpa using h))) := by simp [intc]
@[simp] theorem intc_set (xs : List Int) (i : Nat) (n : Int) : (intc xs).set i (.v (.int .i64 n)) = intc (xs.set i n) := by simp [intc, List.map_set]
@[simp] theorem nfc_intc (xs : List Int) : nfc (intc xs) := fun x hx => by
  simp only [intc, List.mem_map] at hx
  obtain ⟨n, _, rfl⟩ := hx
  rfl
def gB (B : List Int) (x : Int) : Int := B.getD x.toNat 0
def stI (B : List Int) (n x : Int) : Int := if x < 0 ∨ n = 0 then n else if gB B x = 0 then 0 else n + gB B x
def stS (B : List Int) (n x : Int) : Int := if 0 ≤ x ∧ gB B x = 0 then -1000000 else if 0 ≤ x then n + gB B x else n
def sumB (B : List Int) (c : Int) (right : List Int) : Int := right.foldl (stI B) c
def sumS (B : List Int) (c : Int) (right : List Int) : Int := right.foldl (stS B) c
theorem gB_in {B : List Int} {V : Int} (h : ∀ b ∈ B, 0 ≤ b ∧ b ≤ V) (hV : 0 ≤ V) (x : Int) : 0 ≤ gB B x ∧ gB B x ≤ V := by
  unfold gB
  by_cases hx : x.toNat < B.length
  · rw [List.getD_eq_getElem?_getD, List.getElem?_eq_getElem hx]
    exact h _ (List.getElem_mem hx)
  · rw [List.getD_eq_getElem?_getD, List.getElem?_eq_none (by omega)]
    exact ⟨Int.le_refl 0, hV⟩
theorem sums (B : List Int) (V c : Int) (h : ∀ b ∈ B, 0 ≤ b ∧ b ≤ V) (hV : 0 ≤ V) (hV1 : V ≤ 136500) : ∀ (r : List Int) (t : Nat) (n s : Int), t + r.length ≤ 4 → n ≤ c + V * t → ((0 < n ∧ s = n) ∨ (n = 0 ∧ s ≤ -1000000 + V * t)) →
    r.foldl (stI B) n ≤ c + V * (t + r.length : Nat) ∧ ((0 < r.foldl (stI B) n ∧ r.foldl (stS B) s = r.foldl (stI B) n) ∨ (r.foldl (stI B) n = 0 ∧ r.foldl (stS B) s ≤ -1000000 + V * 4)) := by
  intro r
  induction r with
  | nil =>
    intro t n s ht hn hr
    refine ⟨by simpa using hn, ?_⟩
    rcases hr with hr | ⟨h1, h2⟩
    · exact .inl hr
    · refine .inr ⟨h1, ?_⟩
      have : V * t ≤ V * 4 := Int.mul_le_mul_of_nonneg_left (by simp at ht; omega) hV
      simp only [List.foldl_nil]; omega
  | cons x r ih =>
    intro t n s ht hn hr
    obtain ⟨g0, g1⟩ := gB_in h hV x
    simp only [List.length_cons] at ht
    have e : V * ((t + 1 : Nat) : Int) = V * t + V := by rw [Int.natCast_add, Int.mul_add]; simp
    have key := ih (t + 1) (stI B n x) (stS B s x) (by omega) (by rw [e]; unfold stI; split; · omega
                                                                  · split <;> omega) (by
      rw [e]
      have e4 : V * (t : Int) ≤ 136500 * 4 := by
        have h1 : V * (t : Int) ≤ 136500 * (t : Int) := Int.mul_le_mul_of_nonneg_right hV1 (by omega)
        omega
      have e5 : 0 ≤ V * (t : Int) := Int.mul_nonneg hV (by omega)
      unfold stI stS
      rcases hr with ⟨h1, rfl⟩ | ⟨rfl, h2⟩
      · by_cases hx : x < 0
        · rw [if_pos (.inl hx), if_neg (by omega), if_neg (by omega)]; exact .inl ⟨h1, rfl⟩
        · rw [if_neg (by omega)]
          by_cases hg : gB B x = 0
          · rw [if_pos hg, if_pos ⟨by omega, hg⟩]; right; omega
          · rw [if_neg hg, if_neg (by omega), if_pos (by omega)]; left; omega
      · rw [if_pos (.inr rfl)]
        by_cases hx : 0 ≤ x
        · by_cases hg : gB B x = 0
          · rw [if_pos ⟨hx, hg⟩]; right; omega
          · rw [if_neg (by omega), if_pos hx]; right; omega
        · rw [if_neg (by omega), if_neg hx]; right; omega)
    rw [List.foldl_cons, List.foldl_cons, List.length_cons, show t + (r.length + 1) = t + 1 + r.length by omega]
    exact key
def VV : Nat → Int
  | 0 => 0
  | m + 1 => 100 + 4 * VV m
theorem VV_nonneg : ∀ m, 0 ≤ VV m
  | 0 => Int.le_refl 0
  | m + 1 => by have := VV_nonneg m; unfold VV; omega
theorem VV_le : ∀ m, VV m ≤ VV (m + 1) := fun m => by have := VV_nonneg m; show VV m ≤ 100 + 4 * VV m; omega
theorem VV_mono {a b : Nat} (h : a ≤ b) : VV a ≤ VV b := by
  induction h with
  | refl => exact Int.le_refl _
  | step _ ih => exact Int.le_trans ih (VV_le _)
theorem VV_six {m : Nat} (h : m ≤ 6) : VV m ≤ 136500 := Int.le_trans (VV_mono h) (by decide)
def nz (B : List Int) : Nat := B.countP (fun b => decide (b ≠ 0))
def tot : List Int → Int
  | [] => 0
  | x :: xs => x + tot xs
theorem tot_set : ∀ (B : List Int) (k : Nat) (s : Int) (h : k < B.length), tot (B.set k s) = tot B - B[k] + s
  | [], k, s, h => by simp at h
  | x :: xs, 0, s, h => by simp [tot]; omega
  | x :: xs, k + 1, s, h => by
    have := tot_set xs k s (by simpa using h)
    simp only [List.set_cons_succ, tot, List.getElem_cons_succ, this]; omega
theorem tot_in (V : Int) : ∀ (B : List Int), (∀ b ∈ B, 0 ≤ b ∧ b ≤ V) → 0 ≤ tot B ∧ tot B ≤ V * B.length
  | [], _ => by simp [tot]
  | x :: xs, h => by
    have h1 := h x (.head _)
    have h2 := tot_in V xs fun b hb => h b (.tail _ hb)
    rw [List.length_cons, Int.natCast_add, Int.mul_add]
    simp only [tot]
    omega
theorem nz_le (B : List Int) : nz B ≤ B.length := List.countP_le_length
theorem nz_set (B : List Int) (k : Nat) (s : Int) (h : k < B.length) (hs : s ≠ 0) : nz (B.set k s) = nz B + if B[k] = 0 then 1 else 0 := by
  unfold nz
  rw [List.countP_set h]
  by_cases hk : B[k] = 0
  · simp [hk, hs]
  · have hp : 0 < List.countP (fun b => decide (b ≠ 0)) B := List.countP_pos_iff.2 ⟨_, List.getElem_mem h, by simpa using hk⟩
    have e1 : decide (B[k] ≠ 0) = true := by simpa using hk
    have e2 : decide (s ≠ 0) = true := by simpa using hs
    rw [e1, e2, if_neg hk]
    simp only [if_true]
    omega
structure InvB (nons : Nat) (B : List Int) : Prop where
  len : B.length = 6
  low : ∀ b ∈ B, 0 ≤ b
  up : ∀ b ∈ B, b ≤ VV (nz B)
  out : ∀ k, nons ≤ k → B.getD k 0 = 0
theorem InvB.all {nons : Nat} {B : List Int} (h : InvB nons B) : ∀ b ∈ B, 0 ≤ b ∧ b ≤ VV (nz B) := fun b hb => ⟨h.low b hb, h.up b hb⟩
theorem InvB.nz6 {nons : Nat} {B : List Int} (h : InvB nons B) : nz B ≤ 6 := by have := nz_le B; rw [h.len] at this; exact this
def muB (B : List Int) : Nat := (6 - nz B) * 10000000 + (tot B).toNat
theorem InvB.set {nons : Nat} {B : List Int} (h : InvB nons B) {k : Nat} (hk : k < nons) (hn : nons ≤ 6) {s : Int} (hs0 : 0 < s) (hs : s ≤ 100 + 4 * VV (nz B)) (hb : B.getD k 0 = 0 ∨ s < B.getD k 0) : InvB nons (B.set k s) ∧ muB (B.set k s) < muB B := by
  have hkl : k < B.length := by rw [h.len]; omega
  have hg : B.getD k 0 = B[k] := by simp [hkl]
  rw [hg] at hb
  have hk0 := h.low _ (List.getElem_mem hkl)
  have hk1 := h.up _ (List.getElem_mem hkl)
  have hnz := nz_set B k s hkl (by omega)
  have ht := tot_set B k s hkl
  have hnn := VV_nonneg (nz B)
  have h6 := h.nz6
  have htl := tot_in (VV (nz B)) B h.all
  have hinv : InvB nons (B.set k s) := by
    refine ⟨by simpa using h.len, fun b hbm => ?_, fun b hbm => ?_, fun j hj => ?_⟩
    · rcases List.mem_or_eq_of_mem_set hbm with g | g
      · exact h.low b g
      · rw [g]; omega
    · rcases List.mem_or_eq_of_mem_set hbm with g | g
      · exact Int.le_trans (h.up b g) (VV_mono (by rw [hnz]; omega))
      · rw [hnz, g]
        split
        · exact hs
        · rename_i g
          have : s < B[k] := hb.resolve_left g
          simp only [Nat.add_zero]; omega
    · have := h.out j hj
      rw [List.getD_eq_getElem?_getD, List.getElem?_set_ne (by omega), ← List.getD_eq_getElem?_getD]
      exact this
  refine ⟨hinv, ?_⟩
  have h62 := hinv.nz6
  have hnew := (tot_in _ _ hinv.all).1
  rw [ht] at hnew
  unfold muB
  rw [hnz, ht]
  rw [hnz] at h62
  have hv6 := VV_six h6
  have hs2 : s ≤ 1000000 := by omega
  split
  · rename_i g
    rw [if_pos g] at h62
    rw [g]
    have : (6 - nz B) = (6 - (nz B + 1)) + 1 := by omega
    rw [this, Nat.add_mul]
    omega
  · rename_i g
    have : s < B[k] := hb.resolve_left g
    simp only [Nat.add_zero]
    omega
def stepB (p : List Int × Bool) (rc : RuleT × Int) : List Int × Bool :=
  if 0 < sumB p.1 rc.2 rc.1.2 ∧ (gB p.1 rc.1.1 = 0 ∨ sumB p.1 rc.2 rc.1.2 < gB p.1 rc.1.1) then (p.1.set rc.1.1.toNat (sumB p.1 rc.2 rc.1.2), true) else p
def roundB (rs : List (RuleT × Int)) (B : List Int) : List Int × Bool := rs.foldl stepB (B, false)
def iterB (rs : List (RuleT × Int)) : Nat → List Int → List Int
  | 0, B => B
  | n + 1, B => if (roundB rs B).2 then iterB rs n (roundB rs B).1 else (roundB rs B).1
def zeroB : List Int := [0, 0, 0, 0, 0, 0]
def fuelB : Nat := muB zeroB + 1
def bestB (rs : List (RuleT × Int)) : List Int := iterB rs fuelB zeroB
theorem InvB.zero (nons : Nat) : InvB nons zeroB := ⟨rfl, fun b hb => by simp [zeroB] at hb; omega, fun b hb => by simp [zeroB] at hb; have := VV_nonneg (nz zeroB); omega, fun k _ => by
  unfold zeroB
  match k with
  | 0 | 1 | 2 | 3 | 4 | 5 => rfl
  | k + 6 => rfl⟩
def okRC (nons : Nat) (rc : RuleT × Int) : Prop := 0 ≤ rc.1.1 ∧ rc.1.1 < nons ∧ rc.1.2.length ≤ 4 ∧ (∀ x ∈ rc.1.2, x < nons) ∧ 1 ≤ rc.2 ∧ rc.2 ≤ 100
theorem sum_facts {nons : Nat} {B : List Int} (h : InvB nons B) {rc : RuleT × Int} (hr : okRC nons rc) : sumB B rc.2 rc.1.2 ≤ 100 + 4 * VV (nz B) ∧ ((0 < sumB B rc.2 rc.1.2 ∧ sumS B rc.2 rc.1.2 = sumB B rc.2 rc.1.2) ∨ (sumB B rc.2 rc.1.2 = 0 ∧ sumS B rc.2 rc.1.2 ≤ 0)) := by
  obtain ⟨_, _, h3, _, h5, h6⟩ := hr
  have hv6 := VV_six h.nz6
  have hnn := VV_nonneg (nz B)
  have := sums B (VV (nz B)) rc.2 h.all hnn hv6 rc.1.2 0 rc.2 rc.2 (by omega) (by simp) (.inl ⟨by omega, rfl⟩)
  have e : VV (nz B) * ((0 + rc.1.2.length : Nat) : Int) ≤ VV (nz B) * 4 := Int.mul_le_mul_of_nonneg_left (by omega) hnn
  refine ⟨by unfold sumB; omega, ?_⟩
  rcases this.2 with g | ⟨g1, g2⟩
  · exact .inl g
  · refine .inr ⟨g1, ?_⟩
    unfold sumS
    omega
theorem InvB.stepB {nons : Nat} (hn : nons ≤ 6) {p : List Int × Bool} (h : InvB nons p.1) {rc : RuleT × Int} (hr : okRC nons rc) : InvB nons (En.stepB p rc).1 ∧ muB (En.stepB p rc).1 ≤ muB p.1 ∧ ((En.stepB p rc).2 = true → p.2 = true ∨ muB (En.stepB p rc).1 < muB p.1) := by
  unfold En.stepB
  split
  · rename_i hc
    have := h.set (k := rc.1.1.toNat) (by have := hr.1; have := hr.2.1; omega) hn hc.1 (sum_facts h hr).1 hc.2
    exact ⟨this.1, Nat.le_of_lt this.2, fun _ => .inr this.2⟩
  · exact ⟨h, Nat.le_refl _, fun h => .inl h⟩
attribute [irreducible] fuelB bestB iterB roundB
end Go.Proofs.Ytabdnpgahdbciaa.En
end
section
namespace Go.Proofs.Ytabdnpgahdbciaa.En
open Go.RowKit
set_option linter.unusedSimpArgs false
set_option linter.unusedVariables false
set_option maxHeartbeats 8000000
theorem allB_at {p : Nat → Bool} {n i : Nat} (h : allB p n = true) (hi : i < n) : p i = true := by
  cases g : p i with
  | true => rfl
  | false => rw [allB_no hi g] at h; cases h
structure OkG (g : GrammarT) : Prop where
  n0 : 1 ≤ g.1
  n1 : g.1 ≤ 6
  t0 : 1 ≤ g.2.1
  t1 : g.2.1 ≤ 4
  len : g.2.2.length ≤ 16
  l0 : ∀ r ∈ g.2.2, 0 ≤ r.1
  l1 : ∀ r ∈ g.2.2, r.1 < g.1
  r4 : ∀ r ∈ g.2.2, r.2.length ≤ 4
  s0 : ∀ r ∈ g.2.2, ∀ x ∈ r.2, -g.2.1 ≤ x
  s1 : ∀ r ∈ g.2.2, ∀ x ∈ r.2, x < g.1
theorem goodG_ok {g : GrammarT} (h : goodG g = true) : OkG g := by
  unfold goodG at h
  simp only [Bool.and_eq_true, decide_eq_true_eq] at h
  obtain ⟨⟨⟨h1, h2⟩, h3⟩, h4⟩ := h
  simp [inR] at h1 h2
  have key : ∀ r ∈ g.2.2, 0 ≤ r.1 ∧ r.1 ≤ g.1 - 1 ∧ r.2.length ≤ 4 ∧ ∀ x ∈ r.2, -g.2.1 ≤ x ∧ x ≤ g.1 - 1 := fun r hr => by
    obtain ⟨i, hi⟩ := List.mem_iff_getElem?.1 hr
    have hlt : i < g.2.2.length := (List.getElem?_eq_some_iff.1 hi).1
    have ha := allB_at h4 hlt
    have hd : g.2.2.getD i (0, []) = r := by rw [List.getD_eq_getElem?_getD, hi]; rfl
    unfold goodAtG at ha
    rw [hd] at ha
    simp only [Bool.and_eq_true, decide_eq_true_eq, List.all_eq_true] at ha
    obtain ⟨⟨⟨a1, a2⟩, a3⟩, _⟩ := ha
    simp [inR] at a1
    refine ⟨a1.1, a1.2, a2, fun x hx => ?_⟩
    have := a3 x hx
    simpa [symOk, inR] using this
  exact ⟨h1.1, h1.2, h2.1, h2.2, h3, fun r hr => (key r hr).1, fun r hr => by have := (key r hr).2.1; omega, fun r hr => (key r hr).2.2.1, fun r hr x hx => ((key r hr).2.2.2 x hx).1, fun r hr x hx => by have := ((key r hr).2.2.2 x hx).2; omega⟩
theorem l1All (xs : List Int) (lo top : Int) (hx : xs.length < 4611686018427387904) : Pure Try.prog 91 [.im 1 (ints xs), .v (.int .i64 lo), .v (.int .i64 top)] (.v (.bool (xs.all fun n => inR n lo top))) := by
  refine Pure.mk (rs := [.tmp 6]) (nt := 21) Try.func91 (by kernel_rfl) rfl rfl rfl (by simp) ?_
  simp only [sl]
  repeat' first | refine Holds.seq ?_ | refine Holds.skip ?_ | refine Holds.exit ?_ | refine Holds.ret ?_ | refine thenA_normal ?_ | refine thenA_exit ?_ | refine thenA_ret ?_ | refine inB_normal ?_ | refine inB_ret ?_ | refine inB_here ?_ | (refine inB_past ?_ ?_; (· exact rfl)) | refine Holds.reg ?_ | refine Holds.block ?_ | refine GS.nil ?_ | (refine GS.step (s' := ?_) ?_ ?_ ?_; rotate_left; (· exact rfl); (· (simp [go_sem, List.take_of_length_le] <;> with_reducible rfl))) | (refine GS.skip ?_ ?_ ?_; (· exact rfl); (· exact rfl)) | fail
  refine Holds.loop (ι := Nat) (fun i => ⟨[(1, .v (.int .i64 lo)), (2, .v (.int .i64 top)), (9, .im 1 (ints xs)), (10, .v (.int .i64 xs.length)), (11, .v (.int .i64 i))], [], 0⟩) (fun i => i ≤ xs.length ∧ (xs.take i).all (fun n => inR n lo top) = true) (fun i => xs.length - i) 0 ⟨Nat.zero_le _, rfl⟩ ?_ ?_
  · exact Cov.ofn (id) rfl (by simp [go_sem, List.take_of_length_le, ren, ren1, ren2, okr, okr1, okr2, ChkT, ChkN, BlkN, nf]) (by simp [go_sem, List.take_of_length_le, ren, ren1, ren2, okr, okr1, okr2, ChkT, ChkN, BlkN, nf])
  rintro i ⟨hi, hall⟩
  repeat' first | refine Holds.seq ?_ | refine Holds.skip ?_ | refine Holds.exit ?_ | refine Holds.ret ?_ | refine thenA_normal ?_ | refine thenA_exit ?_ | refine thenA_ret ?_ | refine inB_normal ?_ | refine inB_ret ?_ | refine inB_here ?_ | (refine inB_past ?_ ?_; (· exact rfl)) | refine Holds.reg ?_ | refine Holds.block ?_ | refine GS.nil ?_ | (refine GS.step (s' := ?_) ?_ ?_ ?_; rotate_left; (· exact rfl); (· (simp [go_sem, List.take_of_length_le] <;> with_reducible rfl))) | (refine GS.skip ?_ ?_ ?_; (· exact rfl); (· exact rfl)) | fail
  refine Holds.cond rfl (fun hl => ?_) (fun hl => ?_)
  · have hlt : i < xs.length := by simpa using hl
    have hxi : xs[i]? = some xs[i] := List.getElem?_eq_getElem hlt
    repeat' first | refine Holds.seq ?_ | refine Holds.skip ?_ | refine Holds.exit ?_ | refine Holds.ret ?_ | refine thenA_normal ?_ | refine thenA_exit ?_ | refine thenA_ret ?_ | refine inB_normal ?_ | refine inB_ret ?_ | refine inB_here ?_ | (refine inB_past ?_ ?_; (· exact rfl)) | refine Holds.reg ?_ | refine Holds.block ?_ | refine GS.nil ?_ | (refine GS.step (s' := ?_) ?_ ?_ ?_; rotate_left; (· exact rfl); (· (simp [go_sem, List.take_of_length_le, hxi] <;> with_reducible rfl))) | (refine GS.skip ?_ ?_ ?_; (· exact rfl); (· exact rfl)) | fail
    refine GS.cc (l1In xs[i] lo top) rfl rfl rfl rfl (by simp [go_sem, List.take_of_length_le] <;> with_reducible rfl) rfl (by simp [go_sem, List.take_of_length_le]) ?_
    generalize hg : inR xs[i] lo top = b
    repeat' first | refine Holds.seq ?_ | refine Holds.skip ?_ | refine Holds.exit ?_ | refine Holds.ret ?_ | refine thenA_normal ?_ | refine thenA_exit ?_ | refine thenA_ret ?_ | refine inB_normal ?_ | refine inB_ret ?_ | refine inB_here ?_ | (refine inB_past ?_ ?_; (· exact rfl)) | refine Holds.reg ?_ | refine Holds.block ?_ | refine GS.nil ?_ | (refine GS.step (s' := ?_) ?_ ?_ ?_; rotate_left; (· exact rfl); (· (simp [go_sem, List.take_of_length_le] <;> with_reducible rfl))) | (refine GS.skip ?_ ?_ ?_; (· exact rfl); (· exact rfl)) | fail
    refine Holds.cond rfl (fun h => ?_) (fun h => ?_)
    · have h : b = false := by simpa using h
      subst h
      rw [all_at hxi hg]
      repeat' first | refine Holds.seq ?_ | refine Holds.skip ?_ | refine Holds.exit ?_ | refine Holds.ret ?_ | refine thenA_normal ?_ | refine thenA_exit ?_ | refine thenA_ret ?_ | refine inB_normal ?_ | refine inB_ret ?_ | refine inB_here ?_ | (refine inB_past ?_ ?_; (· exact rfl)) | refine Holds.reg ?_ | refine Holds.block ?_ | refine GS.nil ?_ | (refine GS.step (s' := ?_) ?_ ?_ ?_; rotate_left; (· exact rfl); (· (simp [go_sem, List.take_of_length_le] <;> with_reducible rfl))) | (refine GS.skip ?_ ?_ ?_; (· exact rfl); (· exact rfl)) | fail
      refine Out.mk (xs := ?_) ?_ ?_ (by first | exact .inr rfl | exact .inl rfl)
      rotate_left
      · simp [go_sem, List.take_of_length_le] <;> with_reducible rfl
      exact .v _
    · have h : b = true := by simpa using h
      subst h
      repeat' first | refine Holds.seq ?_ | refine Holds.skip ?_ | refine Holds.exit ?_ | refine Holds.ret ?_ | refine thenA_normal ?_ | refine thenA_exit ?_ | refine thenA_ret ?_ | refine inB_normal ?_ | refine inB_ret ?_ | refine inB_here ?_ | (refine inB_past ?_ ?_; (· exact rfl)) | refine Holds.reg ?_ | refine Holds.block ?_ | refine GS.nil ?_ | (refine GS.step (s' := ?_) ?_ ?_ ?_; rotate_left; (· exact rfl); (· (simp [go_sem, List.take_of_length_le] <;> with_reducible rfl))) | (refine GS.skip ?_ ?_ ?_; (· exact rfl); (· exact rfl)) | fail
      refine ⟨i + 1, ⟨by omega, ?_⟩, by omega, ?_⟩
      · rw [List.take_add_one, hxi, List.all_append, hall]; simp [hg]
      rw [wr64_id (by omega) (by omega)]
      exact Cov.ofn (id) rfl (by simp [go_sem, List.take_of_length_le, ren, ren1, ren2, okr, okr1, okr2, ChkT, ChkN, BlkN, nf]) (by simp [go_sem, List.take_of_length_le, ren, ren1, ren2, okr, okr1, okr2, ChkT, ChkN, BlkN, nf])
  · have hle : i = xs.length := by
      have : ¬ i < xs.length := by simpa using hl
      omega
    subst hle
    rw [List.take_length] at hall
    rw [hall]
    repeat' first | refine Holds.seq ?_ | refine Holds.skip ?_ | refine Holds.exit ?_ | refine Holds.ret ?_ | refine thenA_normal ?_ | refine thenA_exit ?_ | refine thenA_ret ?_ | refine inB_normal ?_ | refine inB_ret ?_ | refine inB_here ?_ | (refine inB_past ?_ ?_; (· exact rfl)) | refine Holds.reg ?_ | refine Holds.block ?_ | refine GS.nil ?_ | (refine GS.step (s' := ?_) ?_ ?_ ?_; rotate_left; (· exact rfl); (· (simp [go_sem, List.take_of_length_le] <;> with_reducible rfl))) | (refine GS.skip ?_ ?_ ?_; (· exact rfl); (· exact rfl)) | fail
    refine Out.mk (xs := ?_) ?_ ?_ (by first | exact .inr rfl | exact .inl rfl)
    rotate_left
    · simp [go_sem, List.take_of_length_le] <;> with_reducible rfl
    exact .v _
end Go.Proofs.Ytabdnpgahdbciaa.En
end
section
namespace Go.Proofs.Ytabdnpgahdbciaa.En
open Go.RowKit
set_option linter.unusedVariables false
variable {P : Program} {nt : NT} {s s' : AS} {ops : Array Oper} {K : AS → Prop} {o : Oper} {l : List Oper} {i : Nat}
theorem GS.stepD (D : Nat) (hD : (o.dst == some D) = false) (hg : gd ops s o = some true) (ha : astep P nt s o = some s') (h : GS P nt ops K l (i + 1) s') : GS P nt ops K (o :: l) i s := GS.step hg ha h
end Go.Proofs.Ytabdnpgahdbciaa.En
end
section
namespace Go.Proofs.Ytabdnpgahdbciaa.En
open Go.RowKit
set_option linter.unusedSimpArgs false
set_option linter.unusedVariables false
section
attribute [local semireducible] G Gq Holds GS Pure Out Fn OutF
variable {P : Program} {nt : NT} {Q : Exit → AS → Prop} {s s' s1 s2 t : AS} {ops : Array Oper} {K K1 KF : AS → Prop} {i : Nat} {o : Oper} {l : List Oper} {C : Ctx} {a : Act} {w : World} {S : Nat → Prop} {Ow : Owners} {L : Names} {md : Region.Mode} {M : Nat → Bool} {ws hs : List Nat}
def setN : Nat → Nat → Array Bool → Array Bool
  | 0, _, x => x
  | n + 1, k, x => setN n (k + 1) (x.setIfInBounds k true)
theorem Gx.closed {k : Nat} : ∀ s s', Eqv s s' → Gx P nt ops ws hs M K k l s → Gx P nt ops ws hs M K k l s' := fun s s' e h => .eqv e.symm h
theorem Gx.nil_inv {k : Nat} (hK : ∀ s s', Eqv s s' → K s → K s') (h : Gx P nt ops ws hs M K k [] s) : K s := by
  generalize hl : ([] : List Oper) = l at h
  induction h with
  | nil h => exact h
  | step _ _ _ => cases hl
  | eqv he _ ih => exact hK _ _ he.symm (ih hl)
theorem Gx.one {k : Nat} (hK : ∀ s s', Eqv s s' → K s → K s') (h : Gx P nt ops ws hs M K k [o] s) : ∃ s', xS P nt ops M (kind ws hs k) o s s' ∧ K s' := by
  generalize hl : [o] = l at h
  induction h with
  | nil h => cases hl
  | step hx h _ => cases hl; exact ⟨_, hx, h.nil_inv hK⟩
  | eqv he _ ih =>
    obtain ⟨s', hx, hk⟩ := ih hl
    obtain ⟨t', e', hx'⟩ := hx.eqv he.symm
    exact ⟨t', hx', hK _ _ e' hk⟩
theorem anyX_lexB (hKF : ∀ s s', Eqv s s' → KF s → KF s') {n2 : Nat} {k : Nat} {l : List Oper} {s : AS} (h : Gx P nt ops ws hs M K1 k l s) : ∀ (listed : Array Bool), DC md ops listed → (∀ j, j < l.length → l[j]? = ops[k + j]?) →
    Region.lexFrom md ops (l.length + n2) k listed = true → (∀ i, k ≤ i → i < k + l.length → kapI md ops ws hs i = true) →
    (∀ s, K1 s → DC md ops (setN l.length k listed) → Region.lexFrom md ops n2 (k + l.length) (setN l.length k listed) = true → AnyX P nt md ops ws hs M KF n2 (setN l.length k listed) s) → AnyX P nt md ops ws hs M KF (l.length + n2) listed s := by
  induction h with
  | nil h => intro listed hdc _ hB _ hb; simpa [setN] using hb _ h hdc (by simpa [setN] using hB)
  | eqv he _ ih => intro listed hdc hl hB hk hb; exact AnyX.eqv hKF _ _ _ _ he.symm (ih listed hdc hl hB hk hb)
  | step hx _ ih =>
    rename_i k o l s s' _
    intro listed hdc hl hB hk hb
    have h0 : ops[k]? = some o := by simpa using (hl 0 (by simp)).symm
    rw [show (o :: l).length + n2 = (l.length + n2) + 1 by simp only [List.length_cons]; omega] at hB ⊢
    simp only [Region.lexFrom, Bool.and_eq_true] at hB
    obtain ⟨⟨hr, hf⟩, hB'⟩ := hB
    have hr' : k ∈ Region.ready md ops listed := by simpa using hr
    refine anyX_firstI hKF (hk k (Nat.le_refl _) (by simp)) h0 (l.length + n2) listed s s' hdc (Region.free_spec h0 hf) hr' hx (ih _ (hdc.set hr') (fun j hj => ?_) hB' (fun i h1 h2 => hk i (by omega) (by simp only [List.length_cons]; omega)) ?_)
    · have := hl (j + 1) (by simp only [List.length_cons]; omega); simpa [Nat.add_assoc, Nat.add_comm 1 j] using this
    · intro s hs' hd hB2
      refine hb s hs' hd ?_
      simp only [List.length_cons, setN]
      rw [show k + (l.length + 1) = k + 1 + l.length by omega]; exact hB2
def Dia (P : Program) (nt : NT) (ops : Array Oper) (ws hs : List Nat) (M : Nat → Bool) (K : AS → Prop) (c : Nat) (oc oj : Oper) (l2 : List Oper) (s : AS) : Prop :=
  Gx P nt ops ws hs M (fun s1 => Gx P nt ops ws hs M (fun s2 => Gx P nt ops ws hs M K (c + 2) l2 s2) (c + 1) [oj] s1) c [oc] s ∧
  Gx P nt ops ws hs M (fun s1 => Gx P nt ops ws hs M (fun s2 => Gx P nt ops ws hs M K (c + 2) l2 s2) c [oc] s1) (c + 1) [oj] s
def diaB (md : Region.Mode) (ops : Array Oper) (c : Nat) : Bool :=
  let x := setN c 0 (Array.replicate ops.size false)
  (Region.ready md ops x).all (fun i => i == c || i == c + 1) && (Region.ready md ops (x.setIfInBounds c true)).all (fun i => i == c + 1) && (Region.ready md ops (x.setIfInBounds (c + 1) true)).all (fun i => i == c) &&
    (Region.ready md ops x).contains c && (Region.ready md ops (x.setIfInBounds c true)).contains (c + 1) && (Region.ready md ops (x.setIfInBounds (c + 1) true)).contains c && decide (c + 1 < ops.size)
def kapD (md : Region.Mode) (ops : Array Oper) (ws hs : List Nat) (c : Nat) : Bool := (List.range ops.size).all fun i => i == c || i == c + 1 || kapI md ops ws hs i
theorem Holds.dia {id c : Nat} {l1 l2 : List Oper} {oc oj : Oper} {y : Code} {Q' : Exit → AS → Prop} (s0 : AS) (ws hs : List Nat) (M : Nat → Bool) (hm : P.follows .mixedOrders = true) (h1 : l.take c = l1) (h2 : l.drop c = oc :: oj :: l2)
    (hB : Region.lexB .any l.toArray = true) (hD : (diaB .any l.toArray c && kapD .any l.toArray ws hs c) = true)
    (hx : Gx P nt l.toArray ws hs M (fun s => Dia P nt l.toArray ws hs M (fun s' => Cov nt.k s0 s') c oc oj l2 s) 0 l1 s) (hk : Holds P nt y Q' s0) : Holds P nt (.region id l.toArray true) (thenA (Holds P nt y Q') Q) s := by
  intro C a w S Ow L hn hR
  simp only [Bool.and_eq_true] at hD
  obtain ⟨hD, hkap⟩ := hD
  simp only [diaB, Bool.and_eq_true, List.all_eq_true, decide_eq_true_eq, Bool.or_eq_true, beq_iff_eq, List.contains_iff_mem, List.size_toArray] at hD
  obtain ⟨⟨⟨⟨⟨⟨d1, d2⟩, d3⟩, d4⟩, d5⟩, d6⟩, d7⟩ := hD
  simp only [kapD, List.all_eq_true, Bool.or_eq_true, beq_iff_eq, List.mem_range, List.size_toArray] at hkap
  simp only [Region.lexB, Bool.and_eq_true] at hB
  refine wp_region_any hm ?_
  have hlen : l.length = l1.length + (l2.length + 1 + 1) := by
    have h3 := congrArg List.length h1
    have h4 := congrArg List.length h2
    simp only [List.length_take, List.length_drop, List.length_cons] at h3 h4
    omega
  have hc : l1.length = c := by
    have h3 := congrArg List.length h1
    simp only [List.length_take] at h3
    omega
  have hl1 : ∀ j, j < l1.length → l1[j]? = l.toArray[0 + j]? := fun j hj => by
    rw [← h1, List.getElem?_take, if_pos (by omega), Nat.zero_add, List.getElem?_toArray]
  have hl2 : ∀ j, (oc :: oj :: l2)[j]? = l.toArray[c + j]? := fun j => by
    rw [← h2, List.getElem?_drop, List.getElem?_toArray]
  -- K: closed under Eqv
  let KF : AS → Prop := fun s => ∃ s1, Eqv s1 s ∧ Cov nt.k s0 s1
  have hKF : ∀ s s' : AS, Eqv s s' → KF s → KF s' := fun s s' e ⟨s1, e1, q⟩ => ⟨s1, e1.trans e, q⟩
  have mono : ∀ {K K' : AS → Prop} (hk : ∀ s, K s → K' s) {k : Nat} {l' : List Oper} {s : AS}, Gx P nt l.toArray ws hs M K k l' s → Gx P nt l.toArray ws hs M K' k l' s := by
    intro K K' hk k l' s h
    induction h with
    | nil h => exact .nil (hk _ h)
    | step hx _ ih => exact .step hx ih
    | eqv he _ ih => exact .eqv he ih
  have base : ∀ s, Dia P nt l.toArray ws hs M (fun s' => Cov nt.k s0 s') c oc oj l2 s → DC .any l.toArray (setN c 0 (Array.replicate l.length false)) →
      Region.lexFrom .any l.toArray (l2.length + 1 + 1) c (setN c 0 (Array.replicate l.length false)) = true → AnyX P nt .any l.toArray ws hs M KF (l2.length + 1 + 1) (setN c 0 (Array.replicate l.length false)) s := by
    intro s ⟨w1, w2⟩ hdc hB2
    generalize setN c 0 (Array.replicate l.length false) = x at hdc hB2 d1 d2 d3 d4 d5 d6
    have o1 : l.toArray[c]? = some oc := by simpa using (hl2 0).symm
    have o2 : l.toArray[c + 1]? = some oj := by simpa using (hl2 1).symm
    simp only [Region.lexFrom, Bool.and_eq_true] at hB2
    have hB3 := hB2.2.2
    have hdc2 := (hdc.set d4).set d5
    have rest : ∀ s, Gx P nt l.toArray ws hs M (fun s' => Cov nt.k s0 s') (c + 2) l2 s → AnyX P nt .any l.toArray ws hs M KF l2.length ((x.setIfInBounds c true).setIfInBounds (c + 1) true) s := by
      intro s hg
      have hg2 := mono (K' := KF) (fun s h => ⟨s, Eqv.refl s, h⟩) hg
      have := anyX_lexB (md := .any) (n2 := 0) hKF hg2 ((x.setIfInBounds c true).setIfInBounds (c + 1) true) hdc2 (fun j hj => by
        have := hl2 (j + 2); simpa [Nat.add_assoc, Nat.add_comm 2 j] using this) (by simpa using hB3) (fun i h1 h2 => by
          rcases hkap i (by omega) with (h | h) | h
          · omega
          · omega
          · exact h) (fun s hs' _ hB4 => ⟨by simpa [Region.lexFrom] using hB4, hs'⟩)
      simpa using this
    obtain ⟨sa, xa, ga⟩ := w1.one (fun s s' e h => Gx.closed s s' e h)
    obtain ⟨sb, xb, gb⟩ := Gx.one (fun s s' e h => Gx.closed s s' e h) ga
    obtain ⟨sc, xc, gc⟩ := w2.one (fun s s' e h => Gx.closed s s' e h)
    obtain ⟨sd, xd, gd⟩ := Gx.one (fun s s' e h => Gx.closed s s' e h) gc
    refine ⟨fun h => (by rw [h] at d4; cases d4), fun i hi => ?_⟩
    rcases d1 i hi with rfl | rfl
    · refine ⟨oc, sa, o1, xa, fun h => (by rw [h] at d5; cases d5), fun i hi => ?_⟩
      obtain rfl := d2 i hi
      exact ⟨oj, sb, o2, xb, rest sb gb⟩
    · refine ⟨oj, sc, o2, xc, fun h => (by rw [h] at d6; cases d6), fun i hi => ?_⟩
      obtain rfl := d3 i hi
      refine ⟨oc, sd, o1, xd, ?_⟩
      rw [Array.setIfInBounds_comm _ _ (by omega)]
      exact rest sd gd
  have := anyX_lexB (md := .any) (n2 := l2.length + 1 + 1) hKF hx (Array.replicate l.length false) (fun j o _ hj => by
    have : (Array.replicate l.length false).getD j false = false := by
      simp only [Array.getD_eq_getD_getElem?, Array.getElem?_replicate]; split <;> rfl
    rw [this] at hj; cases hj) hl1 (by rw [← hlen]; simpa using hB.2) (fun i h1 h2 => by
      rcases hkap i (by omega) with (h | h) | h
      · omega
      · omega
      · exact h) (by rw [hc, Nat.zero_add]; exact base)
  rw [← hlen] at this
  refine wpAny_of_anyX (K := KF) (fun s' a w S Ow L hk' hR => ?_) hn _ _ _ _ _ _ _ _ (hR.drawn (w' := { w with drawn := w.drawn + 1 }) rfl rfl rfl rfl) (by simpa using this)
  obtain ⟨s1, e, q⟩ := hk'
  exact ⟨s1, S, Ow, L, thenA_normal (Holds.cov q hk), hR.eqv e.symm⟩
theorem Cs.bs {t : TypeId} {len d sz : Nat} {parts : Array (Nat × Operand)} {es : List (Nat × AV)} {e : TypeId} {rows : List (List AV)} {r : AV} (hop : o.op = .buildSlice t len parts) (hg : gd ops s o = some true) (hdst : o.dst = some d) (hd : okd nt.n o.dst = true)
    (hes : ∀ p ∈ es, lk s.tm p.1 = some p.2 ∧ cl p.2 = true ∧ Operand.tmp p.1 ∈ o.op.operands) (hx : abuildSlice P ⟨es, [], 0⟩ t len parts = some (.own 0 sz 0 rows.length, ⟨es, [(0, ⟨e, sz, rows⟩)], 1⟩)) (hr : r = .im sz rows) (hc : ∀ row ∈ rows, ∀ x ∈ row, cl1 x = true) : Cs P nt ops s o r := by
  refine ⟨fun tm' bl nx h' C a w S Ow L i Q K hn ho hR hK => ?_⟩
  subst hn
  unfold wpOp
  simp only [ho]
  rw [gd_sound hR (by rw [gd_tm (s := s) h']; exact hg)]
  simp only [if_true]
  left
  unfold Oper.wp
  have h0 : RelX ⟨w, fun _ => False, S, ⟨C.nt.n, 0⟩, fixOf 0 noName⟩ ⟨es, [], 0⟩ a w S noOwner noName :=
    { fix := fun n loc hn => absurd (fixOf_eq (k := 0) (L := noName) (n := n) (loc := loc) |>.1 hn).1 (Nat.not_lt_zero n)
      keep := Keep.refl _ _, inS := fun _ h => h, upS := fun _ h => .inl h, ltS := hR.ltS, owS := fun _ _ => rfl, ow := fun b p hb => by cases hb
      ow0 := fun b q hb => by cases hb
      blk := fun n kk hn => by cases hn
      fresh := fun n _ => rfl, named := fun n hn => by cases hn
      freshO := fun b n q hb => by cases hb
      slot := fun q x hx' => by
        have hm : ∃ p ∈ es, p = (q, x) := by
          clear hx hes
          induction es with
          | nil => cases hx'
          | cons p es ih =>
            obtain ⟨k, y⟩ := p
            simp only [lk] at hx'
            split at hx'
            · rename_i hk; subst hk; cases hx'; exact ⟨_, .head _, rfl⟩
            · obtain ⟨p', hp', e'⟩ := ih hx'; exact ⟨p', .tail _ hp', e'⟩
        obtain ⟨p, hp, rfl⟩ := hm
        obtain ⟨h1, h2, h3⟩ := hes _ hp
        have hlook : q ∈ o.looksAt ops := by
          refine List.mem_append_left _ (List.mem_filterMap.2 ⟨Operand.tmp q, ?_, rfl⟩)
          simpa using h3
        have hq : lk tm' q = some x := (h' q hlook).trans h1
        obtain ⟨u, hu, hrep⟩ := hR.slot q x hq
        exact ⟨u, hu, hrep.cl h2⟩
      size := hR.size, defers := hR.defers }
  obtain ⟨u, w', Ow', L', hrun, hR', hu⟩ := abuildSlice_sound h0 hop hx
  rw [hrun]
  have hput := hR'.put (some d) (by rw [← hdst]; exact hd) hu
  obtain ⟨S2, Ow2, L2, hR2⟩ := hput.freeze (N := [0]) (ts := [(d, .im sz rows)]) (.cons (x := .own 0 sz 0 rows.length) (by simp [put, lk]) (Fz.all (k := ⟨e, sz, rows⟩) (by simp [put, lb]) rfl rfl rfl hc) .nil)
  obtain ⟨v, hv, hvr⟩ := hR2.slot d (.im sz rows) (by simp [frz, lk])
  have hvu : v = u := by
    have hsz : d < a.tmps.size := by
      rw [hR.size]
      rw [hdst] at hd
      simpa [okd] using hd
    simp only [Act.put] at hv
    rw [Array.getElem?_setIfInBounds_self_of_lt hsz] at hv
    exact (Option.some.inj hv).symm
  subst hvu
  subst hr
  refine hK _ _ S2 Ow L ((hR.more hR2.keep.below hR2.inS (fun k hk => ⟨hR2.ltS k hk, ?_⟩)).put o.dst hd ?_)
  · rcases hR2.upS k hk with g | g | g
    · exact .inl g
    · exact .inr g
    · exact g.elim
  · cases hvr with
    | im _ _ A c ad us hc ha hS' hz hcell hr => exact .im _ _ A c ad us hc ha hS' hz hcell hr
theorem Gx.bs {k : Nat} {t : TypeId} {len d sz : Nat} {parts : Array (Nat × Operand)} (es : List (Nat × AV)) {e : TypeId} {rows : List (List AV)} (hk : kind ws hs k = .c) (hop : o.op = .buildSlice t len parts) (hg : gd ops s o = some true) (hdst : o.dst = some d) (hd : okd nt.n o.dst = true)
    (hes : ∀ p ∈ es, lk s.tm p.1 = some p.2 ∧ cl p.2 = true ∧ Operand.tmp p.1 ∈ o.op.operands) (hx : abuildSlice P ⟨es, [], 0⟩ t len parts = some (.own 0 sz 0 rows.length, ⟨es, [(0, ⟨e, sz, rows⟩)], 1⟩)) (hc : ∀ row ∈ rows, ∀ x ∈ row, cl1 x = true) (h : Gx P nt ops ws hs M K (k + 1) l (put s o.dst (.im sz rows))) : Gx P nt ops ws hs M K k (o :: l) s := by
  refine .step (s' := put s o.dst (.im sz rows)) ?_ h
  rw [hk]
  exact ⟨_, Cs.bs hop hg hdst hd hes hx rfl hc, rfl⟩
theorem FzL.sub {bl bl' : List (Nat × Blk)} {xs ys : List AV} (h : FzL bl xs ys) (e : bl = bl') : FzL bl' xs ys := e ▸ h
theorem Wr.fnd {c : Operand} {aas : Array Operand} {ts : Array TypeId} {f : FuncId} {xs cap args : List AV} {m : Nat} {outs bl' : List (Nat × Blk)} {r : AV} (hp : Fn P f 0 args [] r m outs) (hop : o.op = .call ⟨.value c, aas, ts⟩) (hg : gd ops s o = some true) (hd : okd nt.n o.dst = true)
    (hc : ev s c = some (.fn f cap)) (he : aas.toList.mapM (ev s) = some xs) (hf : FzL s.bl (xs ++ cap) args) (hom : outs.all (fun p => decide (p.1 < m)) = true)
    (hor : Ony r) (hoo : ∀ p ∈ outs, onyR p.2.xs) (hr : okr m r = true) (hren : RenB (fun n => s.nx + n) m outs bl') (hM : (bl' ++ s.bl).filter (fun p => !M p.1) = s.bl.filter fun p => !M p.1) : Wr P nt ops M s o (En.ren (fun n => s.nx + n) r) (bl' ++ s.bl) (s.nx + m) := by
  refine ⟨hM, fun tm' h' C a w S Ow L i Q K hn ho hR hK => ?_⟩
  have hev : ∀ y ∈ o.op.operands, ev ⟨tm', s.bl, s.nx⟩ y = ev s y := ev_tm (s1 := ⟨tm', s.bl, s.nx⟩) h'
  have hev' := hev
  rw [hop] at hev'
  simp only [Op.operands, Call.operands] at hev'
  exact fnd_wp (s := ⟨tm', s.bl, s.nx⟩) ho (by rw [gd_tm (s := s) h']; exact hg) hop hd (by rw [hev' _ (by simp)]; exact hc)
    (by rw [mapM_congr (g := ev s) fun y hy => hev' y (by simp at hy; simp [hy])]; exact he) hf hom hp hor hoo hr hren hn hR hK
theorem Gx.fnnd {k : Nat} {c : Operand} {aas : Array Operand} {ts : Array TypeId} {f : FuncId} {xs cap args : List AV} {m : Nat} {outs bl' : List (Nat × Blk)} {r : AV} (hp : Fn P f 0 args [] r m outs) (hk : kind ws hs k = .w) (hop : o.op = .call ⟨.value c, aas, ts⟩) (hg : gd ops s o = some true) (hd : okd nt.n o.dst = true)
    (hc : ev s c = some (.fn f cap)) (he : aas.toList.mapM (ev s) = some xs) (hf : FzL s.bl (xs ++ cap) args) (hom : outs.all (fun p => decide (p.1 < m)) = true)
    (hor : Ony r) (hoo : ∀ p ∈ outs, onyR p.2.xs) (hr : okr m r = true) (hren : RenB (fun n => s.nx + n) m outs bl') (hM : (bl' ++ s.bl).filter (fun p => !M p.1) = s.bl.filter fun p => !M p.1) (hs1 : put (aft0 s m bl') o.dst (En.ren (fun n => s.nx + n) r) = s1) (h : Gx P nt ops ws hs M K (k + 1) l s1) : Gx P nt ops ws hs M K k (o :: l) s := by
  subst hs1
  refine .step (s' := put (aft0 s m bl') o.dst (En.ren (fun n => s.nx + n) r)) ?_ h
  rw [hk]
  exact ⟨_, _, _, Wr.fnd hp hop hg hd hc he hf hom hor hoo hr hren hM, rfl⟩
end
end Go.Proofs.Ytabdnpgahdbciaa.En
end
section
namespace Go.Proofs.Ytabdnpgahdbciaa.En
open Go.RowKit
set_option linter.unusedSimpArgs false
set_option linter.unusedVariables false
section
attribute [local semireducible] G Gq Holds GS Pure Out Fn OutF
variable {P : Program} {nt : NT} {Q : Exit → AS → Prop} {s s' : AS} {K : AS → Prop} {c : Code}
theorem Cov.reblk {q n : Nat} {b b' : Blk} (hb : lb s.bl n = some b) (he : b'.e = b.e) (hz : b'.sz = b.sz) (hl : b'.xs.length = b.xs.length)
    (hr : ∀ (j : Nat) (row' : List AV), b'.xs[j]? = some row' → ∃ row, b.xs[j]? = some row ∧ row'.length = row.length ∧ ∀ (i : Nat) (x' : AV), row'[i]? = some x' → ∃ x, row[i]? = some x ∧ ∀ (w : World) (S : Nat → Prop) (Ow : Owners) (L : Names) (p : Path) (u : Value), Rep w S Ow L p x u → Rep w S Ow L p x' u) : Cov q ⟨s.tm, st s.bl n b', s.nx⟩ s := by
  intro C a w S Ow L _ h
  refine ⟨S, Ow, L, { fix := h.fix, keep := h.keep, inS := h.inS, upS := h.upS, ltS := h.ltS, owS := h.owS, ow := h.ow, ow0 := h.ow0, fresh := h.fresh, named := h.named, freshO := h.freshO, slot := h.slot, size := h.size, defers := h.defers, blk := fun m k hm => ?_ }⟩
  simp only [lb_st] at hm
  by_cases e : n = m
  · subst e
    rw [if_pos rfl, hb] at hm
    cases hm
    obtain ⟨loc, hL, hB⟩ := h.blk n b hb
    refine ⟨loc, hL, ?_⟩
    match loc, hB with
    | none, hB =>
      have h0 : b.xs.length = 0 := by rw [show b.xs = [] from hB]; rfl
      show b'.xs = []
      exact List.eq_nil_of_length_eq_zero (by omega)
    | some (bb, o, cap), ⟨h1, cs, us, h2, h3, h4, h5, h6, h7⟩ =>
      refine ⟨h1, cs, us, (by show w.heap[bb]? = some (.cells cs b'.e (0, 0)); rw [he]; exact h2), (by show cs.size = (o + cap) * b'.sz; rw [hz]; exact h3), (by show b'.xs.length ≤ cap; omega), fun j row hj => ?_, fun j row i x hj hi => ?_, fun j row i x hj hi => ?_⟩
      · obtain ⟨r, hr1, hr2, _⟩ := hr j row hj
        show row.length = b'.sz
        rw [hr2, hz]; exact h5 j r hr1
      · obtain ⟨r, hr1, _, hr3⟩ := hr j row hj
        obtain ⟨y, hy, _⟩ := hr3 i x hi
        show cs[(o + j) * b'.sz + i]? = some (us j i)
        rw [hz]; exact h6 j r i y hr1 hy
      · obtain ⟨r, hr1, _, hr3⟩ := hr j row hj
        obtain ⟨y, hy, hR⟩ := hr3 i x hi
        exact hR _ _ _ _ _ _ (h7 j r i y hr1 hy)
  · rw [if_neg e] at hm
    exact h.blk m k hm
theorem Cov.nilO {q n m : Nat} {e e1 : TypeId} {z : Nat} (hb : lb s.bl n = some ⟨e, 1, List.replicate m [.v (.slice none 0 0)]⟩) : Cov q ⟨s.tm, st s.bl n ⟨e, 1, List.replicate m [.ow e1 z []]⟩, s.nx⟩ s :=
  Cov.reblk hb rfl rfl (by simp) fun j row' hj => by
    rw [List.getElem?_replicate] at hj
    split at hj
    · rename_i hlt
      injection hj with hj
      subst hj
      refine ⟨[.v (.slice none 0 0)], by rw [List.getElem?_replicate, if_pos hlt], rfl, fun i x' hi => ?_⟩
      cases i with
      | zero =>
        simp only [List.getElem?_cons_zero, Option.some.injEq] at hi
        subst hi
        refine ⟨_, rfl, fun w S Ow L p u hu => ?_⟩
        obtain ⟨rfl, _⟩ := hu.v_inv
        exact .ow_nil _ _ _
      | succ i => simp at hi
    · cases hj
theorem Holds.nilO (n m : Nat) {e : TypeId} (e1 : TypeId) (z : Nat) (hb : lb s.bl n = some ⟨e, 1, List.replicate m [.v (.slice none 0 0)]⟩) (hs : (⟨s.tm, st s.bl n ⟨e, 1, List.replicate m [.ow e1 z []]⟩, s.nx⟩ : AS) = s') (h : Holds P nt c Q s') : Holds P nt c Q s := Holds.cov (Cov.nilO hb) (by rw [hs]; exact h)
theorem Cov.nilI {q n m : Nat} {e : TypeId} {z : Nat} (hb : lb s.bl n = some ⟨e, 1, List.replicate m [.v (.slice none 0 0)]⟩) : Cov q ⟨s.tm, st s.bl n ⟨e, 1, List.replicate m [.im z []]⟩, s.nx⟩ s :=
  Cov.reblk hb rfl rfl (by simp) fun j row' hj => by
    rw [List.getElem?_replicate] at hj
    split at hj
    · rename_i hlt
      injection hj with hj
      subst hj
      refine ⟨[.v (.slice none 0 0)], by rw [List.getElem?_replicate, if_pos hlt], rfl, fun i x' hi => ?_⟩
      cases i with
      | zero =>
        simp only [List.getElem?_cons_zero, Option.some.injEq] at hi
        subst hi
        refine ⟨_, rfl, fun w S Ow L p u hu => ?_⟩
        exact hu.nil_im
      | succ i => simp at hi
    · cases hj
theorem Holds.nilI (n m : Nat) {e : TypeId} (z : Nat) (hb : lb s.bl n = some ⟨e, 1, List.replicate m [.v (.slice none 0 0)]⟩) (hs : (⟨s.tm, st s.bl n ⟨e, 1, List.replicate m [.im z []]⟩, s.nx⟩ : AS) = s') (h : Holds P nt c Q s') : Holds P nt c Q s := Holds.cov (Cov.nilI hb) (by rw [hs]; exact h)
end
end Go.Proofs.Ytabdnpgahdbciaa.En
end
section
namespace Go.Proofs.Ytabdnpgahdbciaa.En
open Go.RowKit
set_option linter.unusedSimpArgs false
set_option linter.unusedVariables false
section
attribute [local semireducible] G Gq Holds GS Pure Out Fn OutF
variable {P : Program} {nt : NT} {Q : Exit → AS → Prop} {s s' : AS} {K : AS → Prop} {ops : Array Oper} {o : Oper} {l : List Oper} {i : Nat}
def FnX {α : Type} (P : Program) (f : FuncId) (args : List AV) (r : α → AV) (m : Nat) (outs : α → List (Nat × Blk)) (R : α → Prop) : Prop :=
  Ent P f ∧ ∀ (W : World) (X S : Nat → Prop) (Ow : Owners) (L : Names) (us : List Value), RelX ⟨W, X, S, ⟨0, 0⟩, fixOf 0 L⟩ ⟨[], [], 0⟩ a0 W S Ow L →
    us.length = args.length → (∀ (i : Nat) (x : AV) (u : Value), args[i]? = some x → us[i]? = some u → Rep W S Ow L [0] x u) →
    Calls P f us.toArray W fun e w' => ∃ a, R a ∧ ∃ v, e = .returned v ∧ ∃ S' Ow' L', RelX ⟨W, X, S, ⟨0, 0⟩, fixOf 0 L⟩ ⟨[], outs a, m⟩ a0 w' S' Ow' L' ∧ Rep w' S' Ow' L' [0] (r a) v
theorem FnX.mk {α : Type} {f : FuncId} {fn : Func} {c : Code} {args : List AV} {rs : List ResultVar} {r : α → AV} {nt m : Nat} {outs : α → List (Nat × Blk)} {R : α → Prop} (hf : P.funcs[f]? = some fn) (hn : (fn.name == "runtime.NumGoroutine") = false) (hb : fn.body = some c) (hr : fn.results = rs.toArray) (hnt : fn.ntmps = nt) (hle : args.length ≤ nt)
    (h : Holds P ⟨nt, 0⟩ c (fun e s => ∃ a, R a ∧ OutF P rs 0 (r a) m (outs a) e s) ⟨sl 0 args, [], 0⟩) : FnX P f args r m outs R := by
  subst hnt
  refine ⟨⟨fn, hf, hn, by rw [hb]; rfl⟩, fun W X S Ow L us hR0 hl hrep => calls_of_wp hf hb ?_⟩
  have hR : RelX ⟨W, X, S, ⟨fn.ntmps, 0⟩, fixOf 0 L⟩ ⟨sl 0 args, [], 0⟩ { tmps := us.toArray ++ Array.replicate (fn.ntmps - us.toArray.size) undef, defers := [] } W S Ow L := by
    refine hR0.slots rfl rfl rfl rfl rfl (fun t x hx => ?_) ?_ rfl
    · obtain ⟨_, hx⟩ := lk_sl args 0 t x hx
      rw [Nat.sub_zero] at hx
      have hlt : t < us.length := by have := (List.getElem?_eq_some_iff.1 hx).1; omega
      have hu : us[t]? = some us[t] := List.getElem?_eq_getElem hlt
      refine ⟨us[t], ?_, hrep t x _ hx hu⟩
      rw [Array.getElem?_append_left (by simpa using hlt)]
      simp [hlt]
    · have hsz : us.toArray.size = args.length := by simpa using hl
      simp; omega
  refine wp_mono (h _ _ _ _ _ _ rfl hR) ?_
  rintro e a w ⟨s, S1, Ow1, L1, ⟨z, hz, he, s0, xs, ρ, hc, hx, hpk, hok, hb, hk⟩, hR1⟩
  obtain ⟨S2, Ow2, L2, hR2⟩ := hc _ _ _ _ _ _ rfl hR1
  obtain ⟨v, hv, hrv⟩ := results_run hR2 fn hr hx
  rw [hpk] at hrv
  obtain ⟨S3, Ow3, L3, hR3, hval, _⟩ := covk (s0 := ⟨[], outs z, m⟩) ρ (fun n hn => ⟨(hk n hn).1, fun _ => (hk n hn).2⟩) trivial hb rfl hR2
  have fin : a.defers = [] ∧ ∃ v, (results fn a.tmps).run P w = .ok v w ∧ ∃ a, R a ∧ ∃ v', Ending.returned v = .returned v' ∧ ∃ S' Ow' L', RelX ⟨W, X, S, ⟨0, 0⟩, fixOf 0 L⟩ ⟨[], outs a, m⟩ a0 w S' Ow' L' ∧ Rep w S' Ow' L' [0] (r a) v' :=
    ⟨hR1.defers, v, hv, z, hz, v, rfl, S3, Ow3, L3, hR3.slots rfl rfl rfl rfl rfl (fun t x hx => (by cases hx)) rfl rfl, hval (r z) v hok hrv⟩
  rcases he with rfl | rfl
  · exact fin
  · exact fin
theorem GS.fnX {α : Type} {c : Operand} {aas : Array Operand} {ts : Array TypeId} {f : FuncId} {xs cap args : List AV} {m : Nat} {outs bl' : α → List (Nat × Blk)} {r : α → AV} {R : α → Prop} {s1 : α → AS} (hp : FnX P f args r m outs R) (hop : o.op = .call ⟨.value c, aas, ts⟩) (hg : gd ops s o = some true) (hd : okd nt.n o.dst = true)
    (hc : ev s c = some (.fn f cap)) (he : aas.toList.mapM (ev s) = some xs) (hf : FzL s.bl (xs ++ cap) args) (hom : ∀ a, (outs a).all (fun p => decide (p.1 < m)) = true)
    (hor : ∀ a, Ony (r a)) (hoo : ∀ a, ∀ p ∈ outs a, onyR p.2.xs) (hr : ∀ a, okr m (r a) = true) (hren : ∀ a, RenB (fun n => s.nx + n) m (outs a) (bl' a)) (hs1 : ∀ a, put (aft0 s m (bl' a)) o.dst (En.ren (fun n => s.nx + n) (r a)) = s1 a) (h : ∀ a, R a → GS P nt ops K l (i + 1) (s1 a)) : GS P nt ops K (o :: l) i s := by
  intro hdr
  obtain ⟨h1, h2⟩ := drop_cons hdr
  have ho : ops[i]? = some o := by simpa using h1
  intro C a w S Ow L Q hn hR hQ
  have e0 : List.range' i (o :: l).length = i :: List.range' (i + 1) l.length := rfl
  rw [e0, wpOps_cons]
  subst hn
  unfold wpOp
  simp only [ho]
  rw [gd_sound hR hg]
  simp only [if_true]
  left
  have hcr := ev_rep hR hc
  obtain ⟨us0, e, hl0, hr0⟩ := hcr.fn_inv
  rw [e] at hcr
  obtain ⟨hlen, hrep⟩ := args_rep hR he hcr hf
  unfold Oper.wp
  rw [exec_call hop e hp.1]
  refine Calls.mono (hp.2 w (fun _ => False) (lent S Ow) noOwner noName _ (fn0_enter (lent_lt hR)) hlen (fun i x u hx hu => (hrep i x u hx hu).any)) fun e' w' => ?_
  rintro ⟨z, hz, v, rfl, S', Ow', L', hX, hv⟩
  refine fnd_post (K := fun a' w' => wpOps P ops Q (List.range' (i + 1) l.length) a' w') hd (hom z) (hor z) (hoo z) (hr z) (hren z) hR hX hv fun a' w' S' Ow' L' hR' => ?_
  rw [hs1 z] at hR'
  exact h z hz h2 C _ _ _ _ _ Q rfl hR' hQ
end
attribute [irreducible] FnX
end Go.Proofs.Ytabdnpgahdbciaa.En
end
section
namespace Go.Proofs.Ytabdnpgahdbciaa.En
open Go.RowKit
set_option linter.unusedSimpArgs false
set_option linter.unusedVariables false
set_option maxHeartbeats 4000000
theorem hasN_putL (L : List Int) (a : Int) : (fun x => hasN (putL L a) x) = insI (fun x => hasN L x) a := by
  funext x
  rw [insI, hasN_dec, hasN_dec, Bool.eq_iff_iff]
  simp only [decide_eq_true_eq, Bool.or_eq_true, putL_mem]
  exact or_comm
structure LstN (L : List Int) : Prop where
  inc : L.Pairwise (· < ·)
  rng : ∀ x ∈ L, 0 ≤ x ∧ x ≤ 5
theorem LstN.eq {L : List Int} (h : LstN L) : L = lstN fun x => hasN L x := by
  refine incr_ext h.inc (List.Pairwise.filter _ univN_incr) fun z => ?_
  rw [lstN_mem fun x hx => h.rng x (by rw [hasN_dec] at hx; exact of_decide_eq_true hx), hasN_dec, decide_eq_true_eq]
theorem LstN.len {L : List Int} (h : LstN L) : L.length ≤ 6 := by
  rw [h.eq, lstN]
  exact Nat.le_trans (List.length_filter_le _ _) (by decide)
theorem LstN.put {L : List Int} (h : LstN L) {a : Int} (ha : 0 ≤ a ∧ a ≤ 5) : LstN (putL L a) := ⟨putL_incr a L h.inc, fun x hx => by
  rcases (putL_mem a x L).1 hx with e | e
  · subst e; exact ha
  · exact h.rng x e⟩
theorem card_le (S : Int → Bool) : (univN.filter S).length ≤ 6 := Nat.le_trans (List.length_filter_le _ _) (by decide)
theorem okM_snoc (tok : Bool) (S : Int → Bool) {right : List Int} {a : Nat} {x : Int} (h : right[a]? = some x) : okM tok S (right.take (a + 1)) = (okM tok S (right.take a) && ((decide (x < 0) && tok) || (decide (0 ≤ x) && S x))) := by
  rw [List.take_add_one, h, okM, List.all_append]
  simp [okM]
theorem l3Close (g : GrammarT) (hG : OkG g) (tok : Bool) : Pure Try.prog 83 [.ag (grammarC g), .v (.bool tok)] (.im 1 (ints (lstN (madeS g tok)))) := by
  have hlen := hG.len
  have hln : (g.2.2.map (impM tok)).length = g.2.2.length := by simp
  refine Pure.mk (rs := [.tmp 4]) (nt := 57) Try.func83 (by kernel_rfl) rfl rfl rfl (by simp) ?_
  simp only [sl, grammarC]
  repeat' first | (refine Holds.condT ?_ ?_; (· (simp [go_sem, List.take_of_length_le] <;> with_reducible rfl))) | (refine Holds.condF ?_ ?_; (· (simp [go_sem, List.take_of_length_le] <;> with_reducible rfl))) | refine Holds.seq ?_ | refine Holds.skip ?_ | refine Holds.exit ?_ | refine Holds.ret ?_ | refine thenA_normal ?_ | refine thenA_exit ?_ | refine thenA_ret ?_ | refine inB_normal ?_ | refine inB_ret ?_ | refine inB_here ?_ | (refine inB_past ?_ ?_; (· exact rfl)) | refine Holds.reg ?_ | refine Holds.block ?_ | refine GS.nil ?_ | (refine GS.stepD 6 (s' := ?_) rfl ?_ ?_ ?_; rotate_left; (· exact rfl); (· (simp [go_sem, List.take_of_length_le] <;> with_reducible rfl))) | (refine GS.skip ?_ ?_ ?_; (· exact rfl); (· exact rfl)) | fail
  refine GS.frz [] [(5, .im 1 (ints []))] (.cons rfl (Fz.nl _) .nil) ?_
  repeat' first | (refine Holds.condT ?_ ?_; (· (simp [go_sem, List.take_of_length_le, frz] <;> with_reducible rfl))) | (refine Holds.condF ?_ ?_; (· (simp [go_sem, List.take_of_length_le, frz] <;> with_reducible rfl))) | refine Holds.seq ?_ | refine Holds.skip ?_ | refine Holds.exit ?_ | refine Holds.ret ?_ | refine thenA_normal ?_ | refine thenA_exit ?_ | refine thenA_ret ?_ | refine inB_normal ?_ | refine inB_ret ?_ | refine inB_here ?_ | (refine inB_past ?_ ?_; (· exact rfl)) | refine Holds.reg ?_ | refine Holds.block ?_ | refine GS.nil ?_ | (refine GS.step (s' := ?_) ?_ ?_ ?_; rotate_left; (· exact rfl); (· (simp [go_sem, List.take_of_length_le, frz] <;> with_reducible rfl))) | (refine GS.skip ?_ ?_ ?_; (· exact rfl); (· exact rfl)) | fail
  refine Holds.loop (ι := List Int × Bool) (fun i => ⟨[(1, .v (.bool tok)), (2, .pb 0 3 0 0), (5, .im 1 (ints i.1)), (6, .v (.bool i.2))], [(0, ⟨31, 3, [grammarC g]⟩)], 1⟩)
    (fun i => LstN i.1 ∧ LowI (g.2.2.map (impM tok)) (fun x => hasN i.1 x) ∧ (i.2 = false → (fun x => hasN i.1 x) = madeS g tok)) (fun i => 2 * (6 - (univN.filter (fun x => hasN i.1 x)).length) + if i.2 then 1 else 0) ([], true) ⟨⟨List.Pairwise.nil, fun x hx => by cases hx⟩, fun T hT x hx => by simp [hasN] at hx, fun e => by cases e⟩ ?_ ?_
  · exact Cov.ofn (id) rfl (by simp [go_sem, List.take_of_length_le, ren, ren1, ren2, okr, okr1, okr2, ChkT, ChkN, BlkN, nf, frz, grammarC]) (by simp [go_sem, List.take_of_length_le, ren, ren1, ren2, okr, okr1, okr2, ChkT, ChkN, BlkN, nf, frz, grammarC])
  rintro ⟨L0, more0⟩ ⟨hL0, hlow0, hfin⟩
  dsimp only at hL0 hlow0 hfin ⊢
  repeat' first | (refine Holds.condT ?_ ?_; (· (simp [go_sem, List.take_of_length_le] <;> with_reducible rfl))) | (refine Holds.condF ?_ ?_; (· (simp [go_sem, List.take_of_length_le] <;> with_reducible rfl))) | refine Holds.seq ?_ | refine Holds.skip ?_ | refine Holds.exit ?_ | refine Holds.ret ?_ | refine thenA_normal ?_ | refine thenA_exit ?_ | refine thenA_ret ?_ | refine inB_normal ?_ | refine inB_ret ?_ | refine inB_here ?_ | (refine inB_past ?_ ?_; (· exact rfl)) | refine Holds.reg ?_ | refine Holds.block ?_ | refine GS.nil ?_ | (refine GS.step (s' := ?_) ?_ ?_ ?_; rotate_left; (· exact rfl); (· (simp [go_sem, List.take_of_length_le] <;> with_reducible rfl))) | (refine GS.skip ?_ ?_ ?_; (· exact rfl); (· exact rfl)) | fail
  refine Holds.cond rfl (fun h => ?_) (fun h => ?_)
  · subst h
    have hc0 := card_le fun x => hasN L0 x
    repeat' first | (refine Holds.condT ?_ ?_; (· (simp [go_sem, List.take_of_length_le, grammarC] <;> with_reducible rfl))) | (refine Holds.condF ?_ ?_; (· (simp [go_sem, List.take_of_length_le, grammarC] <;> with_reducible rfl))) | refine Holds.seq ?_ | refine Holds.skip ?_ | refine Holds.exit ?_ | refine Holds.ret ?_ | refine thenA_normal ?_ | refine thenA_exit ?_ | refine thenA_ret ?_ | refine inB_normal ?_ | refine inB_ret ?_ | refine inB_here ?_ | (refine inB_past ?_ ?_; (· exact rfl)) | refine Holds.reg ?_ | refine Holds.block ?_ | refine GS.nil ?_ | (refine GS.step (s' := ?_) ?_ ?_ ?_; rotate_left; (· exact rfl); (· (simp [go_sem, List.take_of_length_le, grammarC] <;> with_reducible rfl))) | (refine GS.skip ?_ ?_ ?_; (· exact rfl); (· exact rfl)) | fail
    refine Holds.loop (ι := Nat × List Int × Bool) (fun i => ⟨[(1, .v (.bool tok)), (2, .pb 0 3 0 0), (5, .im 1 (ints i.2.1)), (6, .v (.bool i.2.2)), (14, .im 2 (rules g.2.2)), (15, .v (.int .i64 g.2.2.length)), (16, .v (.int .i64 i.1))], [(0, ⟨31, 3, [grammarC g]⟩)], 1⟩)
      (fun i => i.1 ≤ g.2.2.length ∧ LstN i.2.1 ∧ ClI (g.2.2.map (impM tok)) univN (fun x => hasN L0 x) (fun x => hasN i.2.1 x) i.2.2 ((g.2.2.map (impM tok)).take i.1)) (fun i => g.2.2.length - i.1) (0, L0, false) ⟨Nat.zero_le _, hL0, ClI.start _ hlow0⟩ ?_ ?_
    · exact Cov.ofn (id) rfl (by simp [go_sem, List.take_of_length_le, ren, ren1, ren2, okr, okr1, okr2, ChkT, ChkN, BlkN, nf, grammarC]) (by simp [go_sem, List.take_of_length_le, ren, ren1, ren2, okr, okr1, okr2, ChkT, ChkN, BlkN, nf, grammarC])
    rintro ⟨k, L, more⟩ ⟨hk, hL, hC⟩
    dsimp only at hk hL hC ⊢
    have stepk : wr64 ((k : Int) + 1) = ((k + 1 : Nat) : Int) := wr64_id (by omega) (by omega)
    have hLl := hL.len
    repeat' first | (refine Holds.condT ?_ ?_; (· (simp [go_sem, List.take_of_length_le] <;> with_reducible rfl))) | (refine Holds.condF ?_ ?_; (· (simp [go_sem, List.take_of_length_le] <;> with_reducible rfl))) | refine Holds.seq ?_ | refine Holds.skip ?_ | refine Holds.exit ?_ | refine Holds.ret ?_ | refine thenA_normal ?_ | refine thenA_exit ?_ | refine thenA_ret ?_ | refine inB_normal ?_ | refine inB_ret ?_ | refine inB_here ?_ | (refine inB_past ?_ ?_; (· exact rfl)) | refine Holds.reg ?_ | refine Holds.block ?_ | refine GS.nil ?_ | (refine GS.step (s' := ?_) ?_ ?_ ?_; rotate_left; (· exact rfl); (· (simp [go_sem, List.take_of_length_le] <;> with_reducible rfl))) | (refine GS.skip ?_ ?_ ?_; (· exact rfl); (· exact rfl)) | fail
    refine Holds.cond rfl (fun h => ?_) (fun h => ?_)
    · have hlt : k < g.2.2.length := by simp at h; omega
      have hrk : g.2.2[k]? = some g.2.2[k] := List.getElem?_eq_getElem hlt
      have hmem := List.getElem_mem hlt
      generalize g.2.2[k] = r at hrk hmem
      have hr0 := hG.l0 r hmem
      have hr1 := hG.l1 r hmem
      have hn1 := hG.n1
      have hr4 := hG.r4 r hmem
      have hpk : (g.2.2.map (impM tok))[k]? = some (impM tok r) := by simp [hrk]
      have hpm : impM tok r ∈ g.2.2.map (impM tok) := List.mem_map.2 ⟨r, hmem, rfl⟩
      have htk : (g.2.2.map (impM tok)).take (k + 1) = (g.2.2.map (impM tok)).take k ++ [impM tok r] := by rw [List.take_add_one, hpk]; rfl
      have ch := l1Has L r.1 (by omega)
      have cp := l1Put L r.1 (by omega)
      repeat' first | (refine Holds.condT ?_ ?_; (· (simp [go_sem, List.take_of_length_le, get_E hrk, hrk, hlt, ruleC] <;> with_reducible rfl))) | (refine Holds.condF ?_ ?_; (· (simp [go_sem, List.take_of_length_le, get_E hrk, hrk, hlt, ruleC] <;> with_reducible rfl))) | refine Holds.seq ?_ | refine Holds.skip ?_ | refine Holds.exit ?_ | refine Holds.ret ?_ | refine thenA_normal ?_ | refine thenA_exit ?_ | refine thenA_ret ?_ | refine inB_normal ?_ | refine inB_ret ?_ | refine inB_here ?_ | (refine inB_past ?_ ?_; (· exact rfl)) | refine Holds.reg ?_ | refine Holds.block ?_ | refine GS.nil ?_ | (refine GS.step (s' := ?_) ?_ ?_ ?_; rotate_left; (· exact rfl); (· (simp [go_sem, List.take_of_length_le, get_E hrk, hrk, hlt, ruleC] <;> with_reducible rfl))) | (refine GS.skip ?_ ?_ ?_; (· exact rfl); (· exact rfl)) | fail
      refine GS.cc (ch) rfl rfl rfl rfl (by simp [go_sem, List.take_of_length_le] <;> with_reducible rfl) rfl (by simp [go_sem, List.take_of_length_le]) ?_
      repeat' first | (refine Holds.condT ?_ ?_; (· (simp [go_sem, List.take_of_length_le, ruleC] <;> with_reducible rfl))) | (refine Holds.condF ?_ ?_; (· (simp [go_sem, List.take_of_length_le, ruleC] <;> with_reducible rfl))) | refine Holds.seq ?_ | refine Holds.skip ?_ | refine Holds.exit ?_ | refine Holds.ret ?_ | refine thenA_normal ?_ | refine thenA_exit ?_ | refine thenA_ret ?_ | refine inB_normal ?_ | refine inB_ret ?_ | refine inB_here ?_ | (refine inB_past ?_ ?_; (· exact rfl)) | refine Holds.reg ?_ | refine Holds.block ?_ | refine GS.nil ?_ | (refine GS.step (s' := ?_) ?_ ?_ ?_; rotate_left; (· exact rfl); (· (simp [go_sem, List.take_of_length_le, ruleC] <;> with_reducible rfl))) | (refine GS.skip ?_ ?_ ?_; (· exact rfl); (· exact rfl)) | fail
      refine Holds.loop (ι := Nat) (fun a => ⟨[(1, .v (.bool tok)), (2, .pb 0 3 0 0), (5, .im 1 (ints L)), (6, .v (.bool more)), (8, .pb 1 2 0 0), (9, .v (.bool (!hasN L r.1 && okM tok (fun x => hasN L x) (r.2.take a)))), (14, .im 2 (rules g.2.2)), (15, .v (.int .i64 g.2.2.length)), (16, .v (.int .i64 k)), (26, .im 1 (ints r.2)), (27, .v (.int .i64 r.2.length)), (28, .v (.int .i64 a))], [(1, ⟨60, 2, [ruleC r]⟩), (0, ⟨31, 3, [grammarC g]⟩)], 2⟩)
        (fun a => a ≤ r.2.length) (fun a => r.2.length - a) 0 (Nat.zero_le _) ?_ ?_
      · exact Cov.ofn (id) rfl (by simp [go_sem, List.take_of_length_le, ren, ren1, ren2, okr, okr1, okr2, ChkT, ChkN, BlkN, nf, grammarC, ruleC, okM]) (by simp [go_sem, List.take_of_length_le, ren, ren1, ren2, okr, okr1, okr2, ChkT, ChkN, BlkN, nf, grammarC, ruleC, okM])
      intro a ha
      have stepa : wr64 ((a : Int) + 1) = ((a + 1 : Nat) : Int) := wr64_id (by omega) (by omega)
      repeat' first | (refine Holds.condT ?_ ?_; (· (simp [go_sem, List.take_of_length_le] <;> with_reducible rfl))) | (refine Holds.condF ?_ ?_; (· (simp [go_sem, List.take_of_length_le] <;> with_reducible rfl))) | refine Holds.seq ?_ | refine Holds.skip ?_ | refine Holds.exit ?_ | refine Holds.ret ?_ | refine thenA_normal ?_ | refine thenA_exit ?_ | refine thenA_ret ?_ | refine inB_normal ?_ | refine inB_ret ?_ | refine inB_here ?_ | (refine inB_past ?_ ?_; (· exact rfl)) | refine Holds.reg ?_ | refine Holds.block ?_ | refine GS.nil ?_ | (refine GS.step (s' := ?_) ?_ ?_ ?_; rotate_left; (· exact rfl); (· (simp [go_sem, List.take_of_length_le] <;> with_reducible rfl))) | (refine GS.skip ?_ ?_ ?_; (· exact rfl); (· exact rfl)) | fail
      refine Holds.cond rfl (fun h => ?_) (fun h => ?_)
      · have hla : a < r.2.length := by simp at h; omega
        have hxa : r.2[a]? = some r.2[a] := List.getElem?_eq_getElem hla
        generalize r.2[a] = x at hxa
        have hs := okM_snoc tok (fun x => hasN L x) hxa
        have chx := l1Has L x (by omega)
        generalize okM tok (fun x => hasN L x) (r.2.take a) = b1 at hs ⊢
        generalize hnh : (!hasN L r.1) = b0
        cases hb : (b0 && b1) with
        | false =>
          have hnx : (b0 && okM tok (fun x => hasN L x) (r.2.take (a + 1))) = false := by rw [hs, ← Bool.and_assoc, hb, Bool.false_and]
          repeat' first | (refine Holds.condT ?_ ?_; (· (simp [go_sem, List.take_of_length_le, get_E hxa, hxa, hla, hb] <;> with_reducible rfl))) | (refine Holds.condF ?_ ?_; (· (simp [go_sem, List.take_of_length_le, get_E hxa, hxa, hla, hb] <;> with_reducible rfl))) | refine Holds.seq ?_ | refine Holds.skip ?_ | refine Holds.exit ?_ | refine Holds.ret ?_ | refine thenA_normal ?_ | refine thenA_exit ?_ | refine thenA_ret ?_ | refine inB_normal ?_ | refine inB_ret ?_ | refine inB_here ?_ | (refine inB_past ?_ ?_; (· exact rfl)) | refine Holds.reg ?_ | refine Holds.block ?_ | refine GS.nil ?_ | (refine GS.step (s' := ?_) ?_ ?_ ?_; rotate_left; (· exact rfl); (· (simp [go_sem, List.take_of_length_le, get_E hxa, hxa, hla, hb] <;> with_reducible rfl))) | (refine GS.skip ?_ ?_ ?_; (· exact rfl); (· exact rfl)) | fail
          refine ⟨a + 1, by omega, by omega, ?_⟩
          rw [stepa, hnx]
          exact Cov.ofn (id) rfl (by simp [go_sem, List.take_of_length_le, ren, ren1, ren2, okr, okr1, okr2, ChkT, ChkN, BlkN, nf, grammarC, ruleC]) (by simp [go_sem, List.take_of_length_le, ren, ren1, ren2, okr, okr1, okr2, ChkT, ChkN, BlkN, nf, grammarC, ruleC])
        | true =>
          by_cases hx0 : x < 0
          · cases tok with
            | true =>
              have hnx : (b0 && okM true (fun x => hasN L x) (r.2.take (a + 1))) = true := by rw [hs, ← Bool.and_assoc, hb]; simp [hx0]
              repeat' first | (refine Holds.condT ?_ ?_; (· (simp [go_sem, List.take_of_length_le, get_E hxa, hxa, hla, hb, hx0] <;> with_reducible rfl))) | (refine Holds.condF ?_ ?_; (· (simp [go_sem, List.take_of_length_le, get_E hxa, hxa, hla, hb, hx0] <;> with_reducible rfl))) | refine Holds.seq ?_ | refine Holds.skip ?_ | refine Holds.exit ?_ | refine Holds.ret ?_ | refine thenA_normal ?_ | refine thenA_exit ?_ | refine thenA_ret ?_ | refine inB_normal ?_ | refine inB_ret ?_ | refine inB_here ?_ | (refine inB_past ?_ ?_; (· exact rfl)) | refine Holds.reg ?_ | refine Holds.block ?_ | refine GS.nil ?_ | (refine GS.step (s' := ?_) ?_ ?_ ?_; rotate_left; (· exact rfl); (· (simp [go_sem, List.take_of_length_le, get_E hxa, hxa, hla, hb, hx0] <;> with_reducible rfl))) | (refine GS.skip ?_ ?_ ?_; (· exact rfl); (· exact rfl)) | fail
              refine ⟨a + 1, by omega, by omega, ?_⟩
              rw [stepa, hnx]
              exact Cov.ofn (id) rfl (by simp [go_sem, List.take_of_length_le, ren, ren1, ren2, okr, okr1, okr2, ChkT, ChkN, BlkN, nf, grammarC, ruleC]) (by simp [go_sem, List.take_of_length_le, ren, ren1, ren2, okr, okr1, okr2, ChkT, ChkN, BlkN, nf, grammarC, ruleC])
            | false =>
              have hx1 : ¬ (0 ≤ x) := by omega
              have hnx : (b0 && okM false (fun x => hasN L x) (r.2.take (a + 1))) = false := by rw [hs, ← Bool.and_assoc, hb]; simp [hx0, hx1]
              repeat' first | (refine Holds.condT ?_ ?_; (· (simp [go_sem, List.take_of_length_le, get_E hxa, hxa, hla, hb, hx0, hx1] <;> with_reducible rfl))) | (refine Holds.condF ?_ ?_; (· (simp [go_sem, List.take_of_length_le, get_E hxa, hxa, hla, hb, hx0, hx1] <;> with_reducible rfl))) | refine Holds.seq ?_ | refine Holds.skip ?_ | refine Holds.exit ?_ | refine Holds.ret ?_ | refine thenA_normal ?_ | refine thenA_exit ?_ | refine thenA_ret ?_ | refine inB_normal ?_ | refine inB_ret ?_ | refine inB_here ?_ | (refine inB_past ?_ ?_; (· exact rfl)) | refine Holds.reg ?_ | refine Holds.block ?_ | refine GS.nil ?_ | (refine GS.step (s' := ?_) ?_ ?_ ?_; rotate_left; (· exact rfl); (· (simp [go_sem, List.take_of_length_le, get_E hxa, hxa, hla, hb, hx0, hx1] <;> with_reducible rfl))) | (refine GS.skip ?_ ?_ ?_; (· exact rfl); (· exact rfl)) | fail
              refine ⟨a + 1, by omega, by omega, ?_⟩
              rw [stepa, hnx]
              exact Cov.ofn (id) rfl (by simp [go_sem, List.take_of_length_le, ren, ren1, ren2, okr, okr1, okr2, ChkT, ChkN, BlkN, nf, grammarC, ruleC]) (by simp [go_sem, List.take_of_length_le, ren, ren1, ren2, okr, okr1, okr2, ChkT, ChkN, BlkN, nf, grammarC, ruleC])
          · have hx1 : 0 ≤ x := by omega
            have hnx : (b0 && okM tok (fun x => hasN L x) (r.2.take (a + 1))) = hasN L x := by rw [hs, ← Bool.and_assoc, hb]; simp [hx0, hx1]
            repeat' first | (refine Holds.condT ?_ ?_; (· (simp [go_sem, List.take_of_length_le, get_E hxa, hxa, hla, hb, hx0, hx1] <;> with_reducible rfl))) | (refine Holds.condF ?_ ?_; (· (simp [go_sem, List.take_of_length_le, get_E hxa, hxa, hla, hb, hx0, hx1] <;> with_reducible rfl))) | refine Holds.seq ?_ | refine Holds.skip ?_ | refine Holds.exit ?_ | refine Holds.ret ?_ | refine thenA_normal ?_ | refine thenA_exit ?_ | refine thenA_ret ?_ | refine inB_normal ?_ | refine inB_ret ?_ | refine inB_here ?_ | (refine inB_past ?_ ?_; (· exact rfl)) | refine Holds.reg ?_ | refine Holds.block ?_ | refine GS.nil ?_ | (refine GS.step (s' := ?_) ?_ ?_ ?_; rotate_left; (· exact rfl); (· (simp [go_sem, List.take_of_length_le, get_E hxa, hxa, hla, hb, hx0, hx1] <;> with_reducible rfl))) | (refine GS.skip ?_ ?_ ?_; (· exact rfl); (· exact rfl)) | fail
            refine GS.cc (chx) rfl rfl rfl rfl (by simp [go_sem, List.take_of_length_le] <;> with_reducible rfl) rfl (by simp [go_sem, List.take_of_length_le]) ?_
            repeat' first | (refine Holds.condT ?_ ?_; (· (simp [go_sem, List.take_of_length_le] <;> with_reducible rfl))) | (refine Holds.condF ?_ ?_; (· (simp [go_sem, List.take_of_length_le] <;> with_reducible rfl))) | refine Holds.seq ?_ | refine Holds.skip ?_ | refine Holds.exit ?_ | refine Holds.ret ?_ | refine thenA_normal ?_ | refine thenA_exit ?_ | refine thenA_ret ?_ | refine inB_normal ?_ | refine inB_ret ?_ | refine inB_here ?_ | (refine inB_past ?_ ?_; (· exact rfl)) | refine Holds.reg ?_ | refine Holds.block ?_ | refine GS.nil ?_ | (refine GS.step (s' := ?_) ?_ ?_ ?_; rotate_left; (· exact rfl); (· (simp [go_sem, List.take_of_length_le] <;> with_reducible rfl))) | (refine GS.skip ?_ ?_ ?_; (· exact rfl); (· exact rfl)) | fail
            refine ⟨a + 1, by omega, by omega, ?_⟩
            rw [stepa, hnx]
            exact Cov.ofn (id) rfl (by simp [go_sem, List.take_of_length_le, ren, ren1, ren2, okr, okr1, okr2, ChkT, ChkN, BlkN, nf, grammarC, ruleC]) (by simp [go_sem, List.take_of_length_le, ren, ren1, ren2, okr, okr1, okr2, ChkT, ChkN, BlkN, nf, grammarC, ruleC])
      · have hae : a = r.2.length := by simp at h; omega
        subst hae
        rw [List.take_length]
        repeat' first | (refine Holds.condT ?_ ?_; (· (simp [go_sem, List.take_of_length_le] <;> with_reducible rfl))) | (refine Holds.condF ?_ ?_; (· (simp [go_sem, List.take_of_length_le] <;> with_reducible rfl))) | refine Holds.seq ?_ | refine Holds.skip ?_ | refine Holds.exit ?_ | refine Holds.ret ?_ | refine thenA_normal ?_ | refine thenA_exit ?_ | refine thenA_ret ?_ | refine inB_normal ?_ | refine inB_ret ?_ | refine inB_here ?_ | (refine inB_past ?_ ?_; (· exact rfl)) | refine Holds.reg ?_ | refine Holds.block ?_ | refine GS.nil ?_ | (refine GS.step (s' := ?_) ?_ ?_ ?_; rotate_left; (· exact rfl); (· (simp [go_sem, List.take_of_length_le] <;> with_reducible rfl))) | (refine GS.skip ?_ ?_ ?_; (· exact rfl); (· exact rfl)) | fail
        refine Holds.cond rfl (fun h => ?_) (fun h => ?_)
        · simp only [Bool.and_eq_true, Bool.not_eq_true'] at h
          repeat' first | (refine Holds.condT ?_ ?_; (· (simp [go_sem, List.take_of_length_le, ruleC] <;> with_reducible rfl))) | (refine Holds.condF ?_ ?_; (· (simp [go_sem, List.take_of_length_le, ruleC] <;> with_reducible rfl))) | refine Holds.seq ?_ | refine Holds.skip ?_ | refine Holds.exit ?_ | refine Holds.ret ?_ | refine thenA_normal ?_ | refine thenA_exit ?_ | refine thenA_ret ?_ | refine inB_normal ?_ | refine inB_ret ?_ | refine inB_here ?_ | (refine inB_past ?_ ?_; (· exact rfl)) | refine Holds.reg ?_ | refine Holds.block ?_ | refine GS.nil ?_ | (refine GS.step (s' := ?_) ?_ ?_ ?_; rotate_left; (· exact rfl); (· (simp [go_sem, List.take_of_length_le, ruleC] <;> with_reducible rfl))) | (refine GS.skip ?_ ?_ ?_; (· exact rfl); (· exact rfl)) | fail
          refine GS.cc (cp) rfl rfl rfl rfl (by simp [go_sem, List.take_of_length_le] <;> with_reducible rfl) rfl (by simp [go_sem, List.take_of_length_le]) ?_
          repeat' first | (refine Holds.condT ?_ ?_; (· (simp [go_sem, List.take_of_length_le] <;> with_reducible rfl))) | (refine Holds.condF ?_ ?_; (· (simp [go_sem, List.take_of_length_le] <;> with_reducible rfl))) | refine Holds.seq ?_ | refine Holds.skip ?_ | refine Holds.exit ?_ | refine Holds.ret ?_ | refine thenA_normal ?_ | refine thenA_exit ?_ | refine thenA_ret ?_ | refine inB_normal ?_ | refine inB_ret ?_ | refine inB_here ?_ | (refine inB_past ?_ ?_; (· exact rfl)) | refine Holds.reg ?_ | refine Holds.block ?_ | refine GS.nil ?_ | (refine GS.step (s' := ?_) ?_ ?_ ?_; rotate_left; (· exact rfl); (· (simp [go_sem, List.take_of_length_le] <;> with_reducible rfl))) | (refine GS.skip ?_ ?_ ?_; (· exact rfl); (· exact rfl)) | fail
          refine ⟨(k + 1, putL L r.1, true), ⟨by dsimp only; omega, hL.put ⟨hr0, by omega⟩, ?_⟩, by dsimp only; omega, ?_⟩
          · dsimp only
            rw [hasN_putL]
            exact hC.add hpm (impM_mono tok r) h.2 h.1 (mem_univN.2 ⟨hr0, by show r.1 ≤ 5; omega⟩) _
          rw [stepk]
          exact Cov.ofn (id) rfl (by simp [go_sem, List.take_of_length_le, ren, ren1, ren2, okr, okr1, okr2, ChkT, ChkN, BlkN, nf, grammarC]) (by simp [go_sem, List.take_of_length_le, ren, ren1, ren2, okr, okr1, okr2, ChkT, ChkN, BlkN, nf, grammarC])
        · have h' : okM tok (fun x => hasN L x) r.2 = true → hasN L r.1 = true := fun g => by
            rw [g, Bool.and_true] at h
            simpa using h
          repeat' first | (refine Holds.condT ?_ ?_; (· (simp [go_sem, List.take_of_length_le] <;> with_reducible rfl))) | (refine Holds.condF ?_ ?_; (· (simp [go_sem, List.take_of_length_le] <;> with_reducible rfl))) | refine Holds.seq ?_ | refine Holds.skip ?_ | refine Holds.exit ?_ | refine Holds.ret ?_ | refine thenA_normal ?_ | refine thenA_exit ?_ | refine thenA_ret ?_ | refine inB_normal ?_ | refine inB_ret ?_ | refine inB_here ?_ | (refine inB_past ?_ ?_; (· exact rfl)) | refine Holds.reg ?_ | refine Holds.block ?_ | refine GS.nil ?_ | (refine GS.step (s' := ?_) ?_ ?_ ?_; rotate_left; (· exact rfl); (· (simp [go_sem, List.take_of_length_le] <;> with_reducible rfl))) | (refine GS.skip ?_ ?_ ?_; (· exact rfl); (· exact rfl)) | fail
          refine ⟨(k + 1, L, more), ⟨by dsimp only; omega, hL, ?_⟩, by dsimp only; omega, ?_⟩
          · dsimp only
            rw [htk]
            exact hC.skip (p := impM tok r) h'
          rw [stepk]
          exact Cov.ofn (id) rfl (by simp [go_sem, List.take_of_length_le, ren, ren1, ren2, okr, okr1, okr2, ChkT, ChkN, BlkN, nf, grammarC]) (by simp [go_sem, List.take_of_length_le, ren, ren1, ren2, okr, okr1, okr2, ChkT, ChkN, BlkN, nf, grammarC])
    · have hke : k = g.2.2.length := by simp at h; omega
      subst hke
      rw [List.take_of_length_le (by omega)] at hC
      repeat' first | (refine Holds.condT ?_ ?_; (· (simp [go_sem, List.take_of_length_le] <;> with_reducible rfl))) | (refine Holds.condF ?_ ?_; (· (simp [go_sem, List.take_of_length_le] <;> with_reducible rfl))) | refine Holds.seq ?_ | refine Holds.skip ?_ | refine Holds.exit ?_ | refine Holds.ret ?_ | refine thenA_normal ?_ | refine thenA_exit ?_ | refine thenA_ret ?_ | refine inB_normal ?_ | refine inB_ret ?_ | refine inB_here ?_ | (refine inB_past ?_ ?_; (· exact rfl)) | refine Holds.reg ?_ | refine Holds.block ?_ | refine GS.nil ?_ | (refine GS.step (s' := ?_) ?_ ?_ ?_; rotate_left; (· exact rfl); (· (simp [go_sem, List.take_of_length_le] <;> with_reducible rfl))) | (refine GS.skip ?_ ?_ ?_; (· exact rfl); (· exact rfl)) | fail
      refine ⟨(L, more), ⟨hL, hC.low, fun e => ?_⟩, ?_, ?_⟩
      · dsimp only at e ⊢
        subst e
        exact hC.done
      · dsimp only
        have hc := card_le fun x => hasN L x
        cases more with
        | true => have := hC.yes rfl; simp only [if_true]; omega
        | false => rw [(hC.no rfl).1]; simp
      exact Cov.ofn (id) rfl (by simp [go_sem, List.take_of_length_le, ren, ren1, ren2, okr, okr1, okr2, ChkT, ChkN, BlkN, nf, grammarC]) (by simp [go_sem, List.take_of_length_le, ren, ren1, ren2, okr, okr1, okr2, ChkT, ChkN, BlkN, nf, grammarC])
  · have h : more0 = false := by simpa using h
    have := hfin h
    rw [← this, ← hL0.eq]
    repeat' first | (refine Holds.condT ?_ ?_; (· (simp [go_sem, List.take_of_length_le] <;> with_reducible rfl))) | (refine Holds.condF ?_ ?_; (· (simp [go_sem, List.take_of_length_le] <;> with_reducible rfl))) | refine Holds.seq ?_ | refine Holds.skip ?_ | refine Holds.exit ?_ | refine Holds.ret ?_ | refine thenA_normal ?_ | refine thenA_exit ?_ | refine thenA_ret ?_ | refine inB_normal ?_ | refine inB_ret ?_ | refine inB_here ?_ | (refine inB_past ?_ ?_; (· exact rfl)) | refine Holds.reg ?_ | refine Holds.block ?_ | refine GS.nil ?_ | (refine GS.step (s' := ?_) ?_ ?_ ?_; rotate_left; (· exact rfl); (· (simp [go_sem, List.take_of_length_le] <;> with_reducible rfl))) | (refine GS.skip ?_ ?_ ?_; (· exact rfl); (· exact rfl)) | fail
    refine Out.mk (xs := ?_) ?_ ?_ (by first | exact .inr rfl | exact .inl rfl)
    rotate_left
    · simp [go_sem, List.take_of_length_le] <;> with_reducible rfl
    exact .im _ _
end Go.Proofs.Ytabdnpgahdbciaa.En
end
section
namespace Go.Proofs.Ytabdnpgahdbciaa.En
open Go.RowKit
set_option linter.unusedSimpArgs false
set_option linter.unusedVariables false
set_option maxHeartbeats 4000000
def cellsN (S : Int → Bool) : List AV := [.v (.bool (S 0)), .v (.bool (S 1)), .v (.bool (S 2)), .v (.bool (S 3)), .v (.bool (S 4)), .v (.bool (S 5))]
theorem cellsN_map (S : Int → Bool) : cellsN S = (arrN S).map fun b => .v (.bool b) := rfl
@[simp] theorem cellsN_len (S : Int → Bool) : (cellsN S).length = 6 := rfl
theorem cellsN_at (S : Int → Bool) {n : Nat} (h : n < 6) : (cellsN S)[n]? = some (.v (.bool (S (n : Int)))) := by
  rw [cellsN_map, List.getElem?_map, arrN_at S h]; rfl
theorem cellsN_set (S : Int → Bool) {n : Nat} (h : n < 6) : (cellsN S).set n (.v (.bool true)) = cellsN (insI S (n : Int)) := by
  rw [cellsN_map, ← List.map_set (f := fun b => AV.v (.bool b)) (a := true), arrN_set S h, cellsN_map]
theorem cellsN_none : cellsN (fun _ => false) = [.v (.bool false), .v (.bool false), .v (.bool false), .v (.bool false), .v (.bool false), .v (.bool false)] := rfl
@[simp] theorem nfc_cellsN (S : Int → Bool) : nfc (cellsN S) := fun x hx => by
  simp only [cellsN_map, List.mem_map] at hx
  obtain ⟨b, _, rfl⟩ := hx
  rfl
@[simp] theorem cellsN_flat (S : Int → Bool) : ∀ x ∈ cellsN S, flat x = true := fun x hx => by
  simp only [cellsN_map, List.mem_map] at hx
  obtain ⟨b, _, rfl⟩ := hx
  rfl
@[simp] theorem cellsN_all (S : Int → Bool) : (cellsN S).all flat = true := List.all_eq_true.2 (cellsN_flat S)
@[simp] theorem cellsN_take (S : Int → Bool) : (cellsN S).take 6 = cellsN S := rfl
@[simp] theorem cellsN_drop (S : Int → Bool) : (cellsN S).drop 6 = [] := rfl
theorem closedG (g : GrammarT) (hG : OkG g) (tok : Bool) (f : FuncId) (hf : ∀ r ∈ g.2.2, ∀ S : Int → Bool, Pure Try.prog f [.ag (ruleC r), .ag (cellsN S)] (.v (.bool (okM tok S r.2)))) : Pure Try.prog 98 [.ag (grammarC g), .fn f []] (.ag (cellsN (madeS g tok))) := by
  have hlen := hG.len
  refine Pure.mk (rs := [.cell 4 89]) (nt := 34) Try.func98 (by kernel_rfl) rfl rfl rfl (by simp) ?_
  simp only [sl, grammarC]
  repeat' first | (refine Holds.condT ?_ ?_; (· (simp [go_sem, List.take_of_length_le, grammarC] <;> with_reducible rfl))) | (refine Holds.condF ?_ ?_; (· (simp [go_sem, List.take_of_length_le, grammarC] <;> with_reducible rfl))) | refine Holds.seq ?_ | refine Holds.skip ?_ | refine Holds.exit ?_ | refine Holds.ret ?_ | refine thenA_normal ?_ | refine thenA_exit ?_ | refine thenA_ret ?_ | refine inB_normal ?_ | refine inB_ret ?_ | refine inB_here ?_ | (refine inB_past ?_ ?_; (· exact rfl)) | refine Holds.reg ?_ | refine Holds.block ?_ | refine GS.nil ?_ | (refine GS.step (s' := ?_) ?_ ?_ ?_; rotate_left; (· exact rfl); (· (simp [go_sem, List.take_of_length_le, grammarC] <;> with_reducible rfl))) | (refine GS.skip ?_ ?_ ?_; (· exact rfl); (· exact rfl)) | fail
  refine Holds.loop (ι := (Int → Bool) × Bool) (fun i => ⟨[(1, .fn f []), (2, .pb 0 3 0 0), (4, .pb 1 6 0 0), (5, .pb 2 6 0 0), (6, .v (.bool i.2))], [(2, ⟨89, 6, [cellsN i.1]⟩), (1, ⟨89, 6, [cellsN (fun _ => false)]⟩), (0, ⟨31, 3, [grammarC g]⟩)], 3⟩)
    (fun i => LowI (g.2.2.map (impM tok)) i.1 ∧ (i.2 = false → i.1 = madeS g tok)) (fun i => 2 * (6 - (univN.filter i.1).length) + if i.2 then 1 else 0) (fun _ => false, true) ⟨fun T hT x hx => absurd hx (by simp), fun e => (by cases e)⟩ ?_ ?_
  · exact Cov.ofn (id) rfl (by simp [go_sem, List.take_of_length_le, ren, ren1, ren2, okr, okr1, okr2, ChkT, ChkN, BlkN, nf, grammarC, cellsN_none]) (by simp [go_sem, List.take_of_length_le, ren, ren1, ren2, okr, okr1, okr2, ChkT, ChkN, BlkN, nf, grammarC, cellsN_none])
  rintro ⟨S0, more0⟩ ⟨hlow0, hfin⟩
  dsimp only at hlow0 hfin ⊢
  repeat' first | (refine Holds.condT ?_ ?_; (· (simp [go_sem, List.take_of_length_le] <;> with_reducible rfl))) | (refine Holds.condF ?_ ?_; (· (simp [go_sem, List.take_of_length_le] <;> with_reducible rfl))) | refine Holds.seq ?_ | refine Holds.skip ?_ | refine Holds.exit ?_ | refine Holds.ret ?_ | refine thenA_normal ?_ | refine thenA_exit ?_ | refine thenA_ret ?_ | refine inB_normal ?_ | refine inB_ret ?_ | refine inB_here ?_ | (refine inB_past ?_ ?_; (· exact rfl)) | refine Holds.reg ?_ | refine Holds.block ?_ | refine GS.nil ?_ | (refine GS.step (s' := ?_) ?_ ?_ ?_; rotate_left; (· exact rfl); (· (simp [go_sem, List.take_of_length_le] <;> with_reducible rfl))) | (refine GS.skip ?_ ?_ ?_; (· exact rfl); (· exact rfl)) | fail
  refine Holds.cond rfl (fun h => ?_) (fun h => ?_)
  · subst h
    have hc0 := card_le S0
    repeat' first | (refine Holds.condT ?_ ?_; (· (simp [go_sem, List.take_of_length_le, grammarC] <;> with_reducible rfl))) | (refine Holds.condF ?_ ?_; (· (simp [go_sem, List.take_of_length_le, grammarC] <;> with_reducible rfl))) | refine Holds.seq ?_ | refine Holds.skip ?_ | refine Holds.exit ?_ | refine Holds.ret ?_ | refine thenA_normal ?_ | refine thenA_exit ?_ | refine thenA_ret ?_ | refine inB_normal ?_ | refine inB_ret ?_ | refine inB_here ?_ | (refine inB_past ?_ ?_; (· exact rfl)) | refine Holds.reg ?_ | refine Holds.block ?_ | refine GS.nil ?_ | (refine GS.step (s' := ?_) ?_ ?_ ?_; rotate_left; (· exact rfl); (· (simp [go_sem, List.take_of_length_le, grammarC] <;> with_reducible rfl))) | (refine GS.skip ?_ ?_ ?_; (· exact rfl); (· exact rfl)) | fail
    refine Holds.loop (ι := Nat × (Int → Bool) × Bool) (fun i => ⟨[(1, .fn f []), (2, .pb 0 3 0 0), (4, .pb 1 6 0 0), (5, .pb 2 6 0 0), (6, .v (.bool i.2.2)), (12, .im 2 (rules g.2.2)), (13, .v (.int .i64 g.2.2.length)), (14, .v (.int .i64 i.1))], [(2, ⟨89, 6, [cellsN i.2.1]⟩), (1, ⟨89, 6, [cellsN (fun _ => false)]⟩), (0, ⟨31, 3, [grammarC g]⟩)], 3⟩)
      (fun i => i.1 ≤ g.2.2.length ∧ ClI (g.2.2.map (impM tok)) univN S0 i.2.1 i.2.2 ((g.2.2.map (impM tok)).take i.1)) (fun i => g.2.2.length - i.1) (0, S0, false) ⟨Nat.zero_le _, ClI.start _ hlow0⟩ ?_ ?_
    · exact Cov.ofn (id) rfl (by simp [go_sem, List.take_of_length_le, ren, ren1, ren2, okr, okr1, okr2, ChkT, ChkN, BlkN, nf, grammarC]) (by simp [go_sem, List.take_of_length_le, ren, ren1, ren2, okr, okr1, okr2, ChkT, ChkN, BlkN, nf, grammarC])
    rintro ⟨k, S, more⟩ ⟨hk, hC⟩
    dsimp only at hk hC ⊢
    have stepk : wr64 ((k : Int) + 1) = ((k + 1 : Nat) : Int) := wr64_id (by omega) (by omega)
    repeat' first | (refine Holds.condT ?_ ?_; (· (simp [go_sem, List.take_of_length_le] <;> with_reducible rfl))) | (refine Holds.condF ?_ ?_; (· (simp [go_sem, List.take_of_length_le] <;> with_reducible rfl))) | refine Holds.seq ?_ | refine Holds.skip ?_ | refine Holds.exit ?_ | refine Holds.ret ?_ | refine thenA_normal ?_ | refine thenA_exit ?_ | refine thenA_ret ?_ | refine inB_normal ?_ | refine inB_ret ?_ | refine inB_here ?_ | (refine inB_past ?_ ?_; (· exact rfl)) | refine Holds.reg ?_ | refine Holds.block ?_ | refine GS.nil ?_ | (refine GS.step (s' := ?_) ?_ ?_ ?_; rotate_left; (· exact rfl); (· (simp [go_sem, List.take_of_length_le] <;> with_reducible rfl))) | (refine GS.skip ?_ ?_ ?_; (· exact rfl); (· exact rfl)) | fail
    refine Holds.cond rfl (fun h => ?_) (fun h => ?_)
    · have hlt : k < g.2.2.length := by simp at h; omega
      have hrk : g.2.2[k]? = some g.2.2[k] := List.getElem?_eq_getElem hlt
      have hmem := List.getElem_mem hlt
      generalize g.2.2[k] = r at hrk hmem
      have hr0 := hG.l0 r hmem
      have hr1 := hG.l1 r hmem
      have hn1 := hG.n1
      have hpk : (g.2.2.map (impM tok))[k]? = some (impM tok r) := by simp [hrk]
      have hpm : impM tok r ∈ g.2.2.map (impM tok) := List.mem_map.2 ⟨r, hmem, rfl⟩
      have htk : (g.2.2.map (impM tok)).take (k + 1) = (g.2.2.map (impM tok)).take k ++ [impM tok r] := by rw [List.take_add_one, hpk]; rfl
      have cf := hf r hmem S
      have hadd := fun h1 h2 => hC.add hpm (impM_mono tok r) h1 h2 (mem_univN.2 ⟨hr0, by show r.1 ≤ 5; omega⟩) ((g.2.2.map (impM tok)).take (k + 1))
      have hskip := hC.skip (p := impM tok r)
      obtain ⟨left, right⟩ := r
      obtain ⟨n, rfl⟩ : ∃ n : Nat, left = (n : Int) := ⟨left.toNat, by dsimp only at hr0; omega⟩
      have hn6 : n < 6 := by dsimp only at hr1; omega
      have hn5 : n ≤ 5 := by omega
      have hcn := cellsN_at S hn6
      have hcs := cellsN_set S hn6
      simp only [impM] at hadd hskip htk
      generalize okM tok S right = ok at cf hadd hskip
      repeat' first | (refine Holds.condT ?_ ?_; (· (simp [go_sem, List.take_of_length_le, get_E hrk, hrk, hlt, ruleC, hn6, get_E hcn, hcn] <;> with_reducible rfl))) | (refine Holds.condF ?_ ?_; (· (simp [go_sem, List.take_of_length_le, get_E hrk, hrk, hlt, ruleC, hn6, get_E hcn, hcn] <;> with_reducible rfl))) | refine Holds.seq ?_ | refine Holds.skip ?_ | refine Holds.exit ?_ | refine Holds.ret ?_ | refine thenA_normal ?_ | refine thenA_exit ?_ | refine thenA_ret ?_ | refine inB_normal ?_ | refine inB_ret ?_ | refine inB_here ?_ | (refine inB_past ?_ ?_; (· exact rfl)) | refine Holds.reg ?_ | refine Holds.block ?_ | refine GS.nil ?_ | (refine GS.step (s' := ?_) ?_ ?_ ?_; rotate_left; (· exact rfl); (· (simp [go_sem, List.take_of_length_le, get_E hrk, hrk, hlt, ruleC, hn6, get_E hcn, hcn] <;> with_reducible rfl))) | (refine GS.skip ?_ ?_ ?_; (· exact rfl); (· exact rfl)) | fail
      cases hS : S (n : Int) with
      | true =>
        repeat' first | (refine Holds.condT ?_ ?_; (· (simp [go_sem, List.take_of_length_le] <;> with_reducible rfl))) | (refine Holds.condF ?_ ?_; (· (simp [go_sem, List.take_of_length_le] <;> with_reducible rfl))) | refine Holds.seq ?_ | refine Holds.skip ?_ | refine Holds.exit ?_ | refine Holds.ret ?_ | refine thenA_normal ?_ | refine thenA_exit ?_ | refine thenA_ret ?_ | refine inB_normal ?_ | refine inB_ret ?_ | refine inB_here ?_ | (refine inB_past ?_ ?_; (· exact rfl)) | refine Holds.reg ?_ | refine Holds.block ?_ | refine GS.nil ?_ | (refine GS.step (s' := ?_) ?_ ?_ ?_; rotate_left; (· exact rfl); (· (simp [go_sem, List.take_of_length_le] <;> with_reducible rfl))) | (refine GS.skip ?_ ?_ ?_; (· exact rfl); (· exact rfl)) | fail
        refine ⟨(k + 1, S, more), ⟨by dsimp only; omega, ?_⟩, by dsimp only; omega, ?_⟩
        · dsimp only
          rw [htk]
          exact hskip fun _ => hS
        rw [stepk]
        exact Cov.ofn (id) rfl (by simp [go_sem, List.take_of_length_le, ren, ren1, ren2, okr, okr1, okr2, ChkT, ChkN, BlkN, nf, grammarC]) (by simp [go_sem, List.take_of_length_le, ren, ren1, ren2, okr, okr1, okr2, ChkT, ChkN, BlkN, nf, grammarC])
      | false =>
        repeat' first | (refine Holds.condT ?_ ?_; (· (simp [go_sem, List.take_of_length_le, ruleC] <;> with_reducible rfl))) | (refine Holds.condF ?_ ?_; (· (simp [go_sem, List.take_of_length_le, ruleC] <;> with_reducible rfl))) | refine Holds.seq ?_ | refine Holds.skip ?_ | refine Holds.exit ?_ | refine Holds.ret ?_ | refine thenA_normal ?_ | refine thenA_exit ?_ | refine thenA_ret ?_ | refine inB_normal ?_ | refine inB_ret ?_ | refine inB_here ?_ | (refine inB_past ?_ ?_; (· exact rfl)) | refine Holds.reg ?_ | refine Holds.block ?_ | refine GS.nil ?_ | (refine GS.step (s' := ?_) ?_ ?_ ?_; rotate_left; (· exact rfl); (· (simp [go_sem, List.take_of_length_le, ruleC] <;> with_reducible rfl))) | (refine GS.skip ?_ ?_ ?_; (· exact rfl); (· exact rfl)) | fail
        refine GS.cc (cf) rfl rfl rfl rfl (by simp [go_sem, List.take_of_length_le, ruleC, cellsN] <;> with_reducible rfl) rfl (by simp [go_sem, List.take_of_length_le, ruleC, cellsN]) ?_
        cases ok with
        | true =>
          repeat' first | (refine Holds.condT ?_ ?_; (· (simp [go_sem, List.take_of_length_le, ruleC, hn6, hn5, get_E hcn, hcn, hcs] <;> with_reducible rfl))) | (refine Holds.condF ?_ ?_; (· (simp [go_sem, List.take_of_length_le, ruleC, hn6, hn5, get_E hcn, hcn, hcs] <;> with_reducible rfl))) | refine Holds.seq ?_ | refine Holds.skip ?_ | refine Holds.exit ?_ | refine Holds.ret ?_ | refine thenA_normal ?_ | refine thenA_exit ?_ | refine thenA_ret ?_ | refine inB_normal ?_ | refine inB_ret ?_ | refine inB_here ?_ | (refine inB_past ?_ ?_; (· exact rfl)) | refine Holds.reg ?_ | refine Holds.block ?_ | refine GS.nil ?_ | (refine GS.step (s' := ?_) ?_ ?_ ?_; rotate_left; (· exact rfl); (· (simp [go_sem, List.take_of_length_le, ruleC, hn6, hn5, get_E hcn, hcn, hcs] <;> with_reducible rfl))) | (refine GS.skip ?_ ?_ ?_; (· exact rfl); (· exact rfl)) | fail
          refine ⟨(k + 1, insI S (n : Int), true), ⟨by dsimp only; omega, hadd rfl hS⟩, by dsimp only; omega, ?_⟩
          rw [stepk]
          exact Cov.ofn (id) rfl (by simp [go_sem, List.take_of_length_le, ren, ren1, ren2, okr, okr1, okr2, ChkT, ChkN, BlkN, nf, grammarC]) (by simp [go_sem, List.take_of_length_le, ren, ren1, ren2, okr, okr1, okr2, ChkT, ChkN, BlkN, nf, grammarC])
        | false =>
          repeat' first | (refine Holds.condT ?_ ?_; (· (simp [go_sem, List.take_of_length_le] <;> with_reducible rfl))) | (refine Holds.condF ?_ ?_; (· (simp [go_sem, List.take_of_length_le] <;> with_reducible rfl))) | refine Holds.seq ?_ | refine Holds.skip ?_ | refine Holds.exit ?_ | refine Holds.ret ?_ | refine thenA_normal ?_ | refine thenA_exit ?_ | refine thenA_ret ?_ | refine inB_normal ?_ | refine inB_ret ?_ | refine inB_here ?_ | (refine inB_past ?_ ?_; (· exact rfl)) | refine Holds.reg ?_ | refine Holds.block ?_ | refine GS.nil ?_ | (refine GS.step (s' := ?_) ?_ ?_ ?_; rotate_left; (· exact rfl); (· (simp [go_sem, List.take_of_length_le] <;> with_reducible rfl))) | (refine GS.skip ?_ ?_ ?_; (· exact rfl); (· exact rfl)) | fail
          refine ⟨(k + 1, S, more), ⟨by dsimp only; omega, ?_⟩, by dsimp only; omega, ?_⟩
          · dsimp only
            rw [htk]
            exact hskip fun e => by cases e
          rw [stepk]
          exact Cov.ofn (id) rfl (by simp [go_sem, List.take_of_length_le, ren, ren1, ren2, okr, okr1, okr2, ChkT, ChkN, BlkN, nf, grammarC]) (by simp [go_sem, List.take_of_length_le, ren, ren1, ren2, okr, okr1, okr2, ChkT, ChkN, BlkN, nf, grammarC])
    · have hke : k = g.2.2.length := by simp at h; omega
      subst hke
      rw [List.take_of_length_le (by simp)] at hC
      repeat' first | (refine Holds.condT ?_ ?_; (· (simp [go_sem, List.take_of_length_le] <;> with_reducible rfl))) | (refine Holds.condF ?_ ?_; (· (simp [go_sem, List.take_of_length_le] <;> with_reducible rfl))) | refine Holds.seq ?_ | refine Holds.skip ?_ | refine Holds.exit ?_ | refine Holds.ret ?_ | refine thenA_normal ?_ | refine thenA_exit ?_ | refine thenA_ret ?_ | refine inB_normal ?_ | refine inB_ret ?_ | refine inB_here ?_ | (refine inB_past ?_ ?_; (· exact rfl)) | refine Holds.reg ?_ | refine Holds.block ?_ | refine GS.nil ?_ | (refine GS.step (s' := ?_) ?_ ?_ ?_; rotate_left; (· exact rfl); (· (simp [go_sem, List.take_of_length_le] <;> with_reducible rfl))) | (refine GS.skip ?_ ?_ ?_; (· exact rfl); (· exact rfl)) | fail
      refine ⟨(S, more), ⟨hC.low, fun e => ?_⟩, ?_, ?_⟩
      · dsimp only at e ⊢
        subst e
        exact hC.done
      · dsimp only
        have hc := card_le S
        cases more with
        | true => have := hC.yes rfl; simp only [if_true]; omega
        | false => rw [(hC.no rfl).1]; simp
      exact Cov.ofn (id) rfl (by simp [go_sem, List.take_of_length_le, ren, ren1, ren2, okr, okr1, okr2, ChkT, ChkN, BlkN, nf, grammarC]) (by simp [go_sem, List.take_of_length_le, ren, ren1, ren2, okr, okr1, okr2, ChkT, ChkN, BlkN, nf, grammarC])
  · have h : more0 = false := by simpa using h
    have := hfin h
    subst this
    repeat' first | (refine Holds.condT ?_ ?_; (· (simp [go_sem, List.take_of_length_le, cellsN] <;> with_reducible rfl))) | (refine Holds.condF ?_ ?_; (· (simp [go_sem, List.take_of_length_le, cellsN] <;> with_reducible rfl))) | refine Holds.seq ?_ | refine Holds.skip ?_ | refine Holds.exit ?_ | refine Holds.ret ?_ | refine thenA_normal ?_ | refine thenA_exit ?_ | refine thenA_ret ?_ | refine inB_normal ?_ | refine inB_ret ?_ | refine inB_here ?_ | (refine inB_past ?_ ?_; (· exact rfl)) | refine Holds.reg ?_ | refine Holds.block ?_ | refine GS.nil ?_ | (refine GS.step (s' := ?_) ?_ ?_ ?_; rotate_left; (· exact rfl); (· (simp [go_sem, List.take_of_length_le, cellsN] <;> with_reducible rfl))) | (refine GS.skip ?_ ?_ ?_; (· exact rfl); (· exact rfl)) | fail
    refine Out.mk (xs := ?_) ?_ ?_ (by first | exact .inr rfl | exact .inl rfl)
    rotate_left
    · simp [go_sem, List.take_of_length_le, cellsN] <;> with_reducible rfl
    exact Fz.cl rfl
/-! the two closures -/
theorem lost1 (S : Int → Bool) (x : Int) (hx : x ≤ 5) : Pure Try.prog 100 [.v (.int .i64 x), .pi (cellsN S)] (.v (.bool (decide (0 ≤ x) && !S x))) := by
  refine Pure.mk (rs := [.tmp 3]) (nt := 12) Try.func100 (by kernel_rfl) rfl rfl rfl (by simp) ?_
  simp only [sl]
  by_cases h : 0 ≤ x
  · obtain ⟨n, rfl⟩ : ∃ n : Nat, x = (n : Int) := ⟨x.toNat, by omega⟩
    have hn6 : n < 6 := by omega
    have hcn := cellsN_at S hn6
    rw [decide_eq_true h, Bool.true_and]
    repeat' first | (refine Holds.condT ?_ ?_; (· (simp [go_sem, List.take_of_length_le, h, hn6, get_E hcn, hcn] <;> with_reducible rfl))) | (refine Holds.condF ?_ ?_; (· (simp [go_sem, List.take_of_length_le, h, hn6, get_E hcn, hcn] <;> with_reducible rfl))) | refine Holds.seq ?_ | refine Holds.skip ?_ | refine Holds.exit ?_ | refine Holds.ret ?_ | refine thenA_normal ?_ | refine thenA_exit ?_ | refine thenA_ret ?_ | refine inB_normal ?_ | refine inB_ret ?_ | refine inB_here ?_ | (refine inB_past ?_ ?_; (· exact rfl)) | refine Holds.reg ?_ | refine Holds.block ?_ | refine GS.nil ?_ | (refine GS.step (s' := ?_) ?_ ?_ ?_; rotate_left; (· exact rfl); (· (simp [go_sem, List.take_of_length_le, h, hn6, get_E hcn, hcn] <;> with_reducible rfl))) | (refine GS.skip ?_ ?_ ?_; (· exact rfl); (· exact rfl)) | fail
    refine Out.mk (xs := ?_) ?_ ?_ (by first | exact .inr rfl | exact .inl rfl)
    rotate_left
    · simp [go_sem, List.take_of_length_le] <;> with_reducible rfl
    exact .v _
  · rw [decide_eq_false h, Bool.false_and]
    repeat' first | (refine Holds.condT ?_ ?_; (· (simp [go_sem, List.take_of_length_le, h] <;> with_reducible rfl))) | (refine Holds.condF ?_ ?_; (· (simp [go_sem, List.take_of_length_le, h] <;> with_reducible rfl))) | refine Holds.seq ?_ | refine Holds.skip ?_ | refine Holds.exit ?_ | refine Holds.ret ?_ | refine thenA_normal ?_ | refine thenA_exit ?_ | refine thenA_ret ?_ | refine inB_normal ?_ | refine inB_ret ?_ | refine inB_here ?_ | (refine inB_past ?_ ?_; (· exact rfl)) | refine Holds.reg ?_ | refine Holds.block ?_ | refine GS.nil ?_ | (refine GS.step (s' := ?_) ?_ ?_ ?_; rotate_left; (· exact rfl); (· (simp [go_sem, List.take_of_length_le, h] <;> with_reducible rfl))) | (refine GS.skip ?_ ?_ ?_; (· exact rfl); (· exact rfl)) | fail
    refine Out.mk (xs := ?_) ?_ ?_ (by first | exact .inr rfl | exact .inl rfl)
    rotate_left
    · simp [go_sem, List.take_of_length_le] <;> with_reducible rfl
    exact .v _
theorem okM_true (S : Int → Bool) (right : List Int) : okM true S right = !right.any fun x => decide (0 ≤ x) && !S x := by
  rw [okM, List.not_any_eq_all_not]
  congr 1
  funext x
  by_cases h : 0 ≤ x
  · have : ¬ x < 0 := by omega
    simp [h, this]
  · have : x < 0 := by omega
    simp [h, this]
theorem makes1 (g : GrammarT) (hG : OkG g) (r : RuleT) (hr : r ∈ g.2.2) (S : Int → Bool) : Pure Try.prog 99 [.ag (ruleC r), .ag (cellsN S)] (.v (.bool (okM true S r.2))) := by
  have h4 := hG.r4 r hr
  have h5 := hG.s1 r hr
  have h6 := hG.n1
  have cf := containsFuncInt 100 [.pi (cellsN S)] (fun x => decide (0 ≤ x) && !S x) r.2 (by omega) rfl (fun x hx => lost1 S x (by have := h5 x hx; omega))
  rw [okM_true]
  generalize (r.2.any fun x => decide (0 ≤ x) && !S x) = b at cf ⊢
  refine Pure.mk (rs := [.tmp 4]) (nt := 10) Try.func99 (by kernel_rfl) rfl rfl rfl (by simp) ?_
  simp only [sl, ruleC, cellsN]
  repeat' first | (refine Holds.condT ?_ ?_; (· (simp [go_sem, List.take_of_length_le, ruleC, cellsN] <;> with_reducible rfl))) | (refine Holds.condF ?_ ?_; (· (simp [go_sem, List.take_of_length_le, ruleC, cellsN] <;> with_reducible rfl))) | refine Holds.seq ?_ | refine Holds.skip ?_ | refine Holds.exit ?_ | refine Holds.ret ?_ | refine thenA_normal ?_ | refine thenA_exit ?_ | refine thenA_ret ?_ | refine inB_normal ?_ | refine inB_ret ?_ | refine inB_here ?_ | (refine inB_past ?_ ?_; (· exact rfl)) | refine Holds.reg ?_ | refine Holds.block ?_ | refine GS.nil ?_ | (refine GS.step (s' := ?_) ?_ ?_ ?_; rotate_left; (· exact rfl); (· (simp [go_sem, List.take_of_length_le, ruleC, cellsN] <;> with_reducible rfl))) | (refine GS.skip ?_ ?_ ?_; (· exact rfl); (· exact rfl)) | fail
  refine GS.cd (cf) rfl rfl rfl rfl (by simp [go_sem, List.take_of_length_le, ruleC, cellsN] <;> with_reducible rfl) rfl (by exact .cons (.im _ _) (.cons (Fz.fnL (.cons (Fz.box rfl rfl rfl rfl) .nil)) .nil)) rfl ?_
  repeat' first | (refine Holds.condT ?_ ?_; (· (simp [go_sem, List.take_of_length_le] <;> with_reducible rfl))) | (refine Holds.condF ?_ ?_; (· (simp [go_sem, List.take_of_length_le] <;> with_reducible rfl))) | refine Holds.seq ?_ | refine Holds.skip ?_ | refine Holds.exit ?_ | refine Holds.ret ?_ | refine thenA_normal ?_ | refine thenA_exit ?_ | refine thenA_ret ?_ | refine inB_normal ?_ | refine inB_ret ?_ | refine inB_here ?_ | (refine inB_past ?_ ?_; (· exact rfl)) | refine Holds.reg ?_ | refine Holds.block ?_ | refine GS.nil ?_ | (refine GS.step (s' := ?_) ?_ ?_ ?_; rotate_left; (· exact rfl); (· (simp [go_sem, List.take_of_length_le] <;> with_reducible rfl))) | (refine GS.skip ?_ ?_ ?_; (· exact rfl); (· exact rfl)) | fail
  refine Out.mk (xs := ?_) ?_ ?_ (by first | exact .inr rfl | exact .inl rfl)
  rotate_left
  · simp [go_sem, List.take_of_length_le] <;> with_reducible rfl
  exact .v _
theorem productiveG (g : GrammarT) (hG : OkG g) : Pure Try.prog 69 [.ag (grammarC g)] (.ag (cellsN (madeS g true))) := by
  have cc := closedG g hG true 99 (fun r hr S => makes1 g hG r hr S)
  refine Pure.mk (rs := [.cell 2 89]) (nt := 5) Try.func69 (by kernel_rfl) rfl rfl rfl (by simp) ?_
  simp only [sl, grammarC]
  repeat' first | (refine Holds.condT ?_ ?_; (· (simp [go_sem, List.take_of_length_le, grammarC] <;> with_reducible rfl))) | (refine Holds.condF ?_ ?_; (· (simp [go_sem, List.take_of_length_le, grammarC] <;> with_reducible rfl))) | refine Holds.seq ?_ | refine Holds.skip ?_ | refine Holds.exit ?_ | refine Holds.ret ?_ | refine thenA_normal ?_ | refine thenA_exit ?_ | refine thenA_ret ?_ | refine inB_normal ?_ | refine inB_ret ?_ | refine inB_here ?_ | (refine inB_past ?_ ?_; (· exact rfl)) | refine Holds.reg ?_ | refine Holds.block ?_ | refine GS.nil ?_ | (refine GS.step (s' := ?_) ?_ ?_ ?_; rotate_left; (· exact rfl); (· (simp [go_sem, List.take_of_length_le, grammarC] <;> with_reducible rfl))) | (refine GS.skip ?_ ?_ ?_; (· exact rfl); (· exact rfl)) | fail
  refine GS.cc (cc) rfl rfl rfl rfl (by simp [go_sem, List.take_of_length_le, grammarC, cellsN] <;> with_reducible rfl) rfl (by simp [go_sem, List.take_of_length_le, grammarC, cellsN]) ?_
  repeat' first | (refine Holds.condT ?_ ?_; (· (simp [go_sem, List.take_of_length_le, cellsN] <;> with_reducible rfl))) | (refine Holds.condF ?_ ?_; (· (simp [go_sem, List.take_of_length_le, cellsN] <;> with_reducible rfl))) | refine Holds.seq ?_ | refine Holds.skip ?_ | refine Holds.exit ?_ | refine Holds.ret ?_ | refine thenA_normal ?_ | refine thenA_exit ?_ | refine thenA_ret ?_ | refine inB_normal ?_ | refine inB_ret ?_ | refine inB_here ?_ | (refine inB_past ?_ ?_; (· exact rfl)) | refine Holds.reg ?_ | refine Holds.block ?_ | refine GS.nil ?_ | (refine GS.step (s' := ?_) ?_ ?_ ?_; rotate_left; (· exact rfl); (· (simp [go_sem, List.take_of_length_le, cellsN] <;> with_reducible rfl))) | (refine GS.skip ?_ ?_ ?_; (· exact rfl); (· exact rfl)) | fail
  refine Out.mk (xs := ?_) ?_ ?_ (by first | exact .inr rfl | exact .inl rfl)
  rotate_left
  · simp [go_sem, List.take_of_length_le, cellsN] <;> with_reducible rfl
  exact Fz.cl rfl
end Go.Proofs.Ytabdnpgahdbciaa.En
end
section
namespace Go.Proofs.Ytabdnpgahdbciaa.En
open Go.RowKit
set_option linter.unusedSimpArgs false
set_option linter.unusedVariables false
set_option maxHeartbeats 4000000
def impZ : Imp Int := (fun _ => true, 0)
def impF (r : RuleT) : List (Imp Int) := r.2.map (impR r.1)
theorem impsR_eq (g : GrammarT) : impsR g = impZ :: g.2.2.flatMap impF := rfl
theorem impR_mem {g : GrammarT} {r : RuleT} (hr : r ∈ g.2.2) {x : Int} (hx : x ∈ r.2) : impR r.1 x ∈ impsR g := by
  rw [impsR_eq]
  exact List.mem_cons_of_mem _ (List.mem_flatMap.2 ⟨r, hr, List.mem_map.2 ⟨x, hx, rfl⟩⟩)
def seenR (g : GrammarT) (k : Nat) (r : RuleT) (a : Nat) : List (Imp Int) := (impZ :: (g.2.2.take k).flatMap impF) ++ (r.2.take a).map (impR r.1)
theorem seenR_snoc (g : GrammarT) (k : Nat) (r : RuleT) {a : Nat} {x : Int} (h : r.2[a]? = some x) : seenR g k r (a + 1) = seenR g k r a ++ [impR r.1 x] := by
  rw [seenR, seenR, List.take_add_one, h, List.map_append, ← List.append_assoc]; rfl
theorem seenR_zero (g : GrammarT) (k : Nat) (r : RuleT) : seenR g k r 0 = impZ :: (g.2.2.take k).flatMap impF := by simp [seenR]
theorem seenR_all (g : GrammarT) {k : Nat} {r : RuleT} (h : g.2.2[k]? = some r) : seenR g k r r.2.length = impZ :: (g.2.2.take (k + 1)).flatMap impF := by
  rw [seenR, List.take_length, List.take_add_one, h, List.flatMap_append]
  simp [impF]
theorem low_zero (g : GrammarT) : LowI (impsR g) (fun x => decide (x = 0)) := fun T hT x hx => by
  have : x = 0 := of_decide_eq_true hx
  subst this
  exact hT impZ (List.mem_cons_self) rfl
theorem has_zero : (fun x => hasN [0] x) = fun x : Int => decide (x = 0) := by
  funext x
  rw [hasN_dec]; simp
theorem startR (g : GrammarT) {S : Int → Bool} (h : LowI (impsR g) S) (h0 : S 0 = true) : ClI (impsR g) univN S S false (impZ :: (g.2.2.take 0).flatMap impF) := by
  have := (ClI.start univN h).skip (p := impZ) (fun _ => h0)
  simpa using this
theorem l3Reached (g : GrammarT) (hG : OkG g) : Pure Try.prog 86 [.ag (grammarC g)] (.im 1 (ints (lstN (reachS g)))) := by
  have hlen := hG.len
  have hn1 := hG.n1
  refine Pure.mk (rs := [.tmp 2]) (nt := 45) Try.func86 (by kernel_rfl) rfl rfl rfl (by simp) ?_
  simp only [sl, grammarC]
  repeat' first | (refine Holds.condT ?_ ?_; (· (simp [go_sem, List.take_of_length_le] <;> with_reducible rfl))) | (refine Holds.condF ?_ ?_; (· (simp [go_sem, List.take_of_length_le] <;> with_reducible rfl))) | refine Holds.seq ?_ | refine Holds.skip ?_ | refine Holds.exit ?_ | refine Holds.ret ?_ | refine thenA_normal ?_ | refine thenA_exit ?_ | refine thenA_ret ?_ | refine inB_normal ?_ | refine inB_ret ?_ | refine inB_here ?_ | (refine inB_past ?_ ?_; (· exact rfl)) | refine Holds.reg ?_ | refine Holds.block ?_ | refine GS.nil ?_ | (refine GS.stepD 3 (s' := ?_) rfl ?_ ?_ ?_; rotate_left; (· exact rfl); (· (simp [go_sem, List.take_of_length_le] <;> with_reducible rfl))) | (refine GS.skip ?_ ?_ ?_; (· exact rfl); (· exact rfl)) | fail
  refine GS.frz [1] [(9, .im 1 (ints [0]))] (.cons rfl (Fz.all rfl rfl rfl rfl (ints_cl [0])) .nil) ?_
  repeat' first | (refine Holds.condT ?_ ?_; (· (simp [go_sem, List.take_of_length_le, frz] <;> with_reducible rfl))) | (refine Holds.condF ?_ ?_; (· (simp [go_sem, List.take_of_length_le, frz] <;> with_reducible rfl))) | refine Holds.seq ?_ | refine Holds.skip ?_ | refine Holds.exit ?_ | refine Holds.ret ?_ | refine thenA_normal ?_ | refine thenA_exit ?_ | refine thenA_ret ?_ | refine inB_normal ?_ | refine inB_ret ?_ | refine inB_here ?_ | (refine inB_past ?_ ?_; (· exact rfl)) | refine Holds.reg ?_ | refine Holds.block ?_ | refine GS.nil ?_ | (refine GS.step (s' := ?_) ?_ ?_ ?_; rotate_left; (· exact rfl); (· (simp [go_sem, List.take_of_length_le, frz] <;> with_reducible rfl))) | (refine GS.skip ?_ ?_ ?_; (· exact rfl); (· exact rfl)) | fail
  refine Holds.loop (ι := List Int × Bool) (fun i => ⟨[(1, .pb 0 3 0 0), (3, .im 1 (ints i.1)), (4, .v (.bool i.2))], [(0, ⟨31, 3, [grammarC g]⟩)], 2⟩)
    (fun i => LstN i.1 ∧ hasN i.1 0 = true ∧ LowI (impsR g) (fun x => hasN i.1 x) ∧ (i.2 = false → (fun x => hasN i.1 x) = reachS g)) (fun i => 2 * (6 - (univN.filter (fun x => hasN i.1 x)).length) + if i.2 then 1 else 0) ([0], true) ⟨⟨List.pairwise_singleton _ _, fun x hx => by simp at hx; omega⟩, by decide, by rw [has_zero]; exact low_zero g, fun e => (by cases e)⟩ ?_ ?_
  · exact Cov.ofn (id) rfl (by simp [go_sem, List.take_of_length_le, ren, ren1, ren2, okr, okr1, okr2, ChkT, ChkN, BlkN, nf, frz, grammarC, ints]) (by simp [go_sem, List.take_of_length_le, ren, ren1, ren2, okr, okr1, okr2, ChkT, ChkN, BlkN, nf, frz, grammarC, ints])
  rintro ⟨L0, more0⟩ ⟨hL0, hz0, hlow0, hfin⟩
  dsimp only at hL0 hz0 hlow0 hfin ⊢
  repeat' first | (refine Holds.condT ?_ ?_; (· (simp [go_sem, List.take_of_length_le] <;> with_reducible rfl))) | (refine Holds.condF ?_ ?_; (· (simp [go_sem, List.take_of_length_le] <;> with_reducible rfl))) | refine Holds.seq ?_ | refine Holds.skip ?_ | refine Holds.exit ?_ | refine Holds.ret ?_ | refine thenA_normal ?_ | refine thenA_exit ?_ | refine thenA_ret ?_ | refine inB_normal ?_ | refine inB_ret ?_ | refine inB_here ?_ | (refine inB_past ?_ ?_; (· exact rfl)) | refine Holds.reg ?_ | refine Holds.block ?_ | refine GS.nil ?_ | (refine GS.step (s' := ?_) ?_ ?_ ?_; rotate_left; (· exact rfl); (· (simp [go_sem, List.take_of_length_le] <;> with_reducible rfl))) | (refine GS.skip ?_ ?_ ?_; (· exact rfl); (· exact rfl)) | fail
  refine Holds.cond rfl (fun h => ?_) (fun h => ?_)
  · subst h
    have hc0 := card_le fun x => hasN L0 x
    repeat' first | (refine Holds.condT ?_ ?_; (· (simp [go_sem, List.take_of_length_le, grammarC] <;> with_reducible rfl))) | (refine Holds.condF ?_ ?_; (· (simp [go_sem, List.take_of_length_le, grammarC] <;> with_reducible rfl))) | refine Holds.seq ?_ | refine Holds.skip ?_ | refine Holds.exit ?_ | refine Holds.ret ?_ | refine thenA_normal ?_ | refine thenA_exit ?_ | refine thenA_ret ?_ | refine inB_normal ?_ | refine inB_ret ?_ | refine inB_here ?_ | (refine inB_past ?_ ?_; (· exact rfl)) | refine Holds.reg ?_ | refine Holds.block ?_ | refine GS.nil ?_ | (refine GS.step (s' := ?_) ?_ ?_ ?_; rotate_left; (· exact rfl); (· (simp [go_sem, List.take_of_length_le, grammarC] <;> with_reducible rfl))) | (refine GS.skip ?_ ?_ ?_; (· exact rfl); (· exact rfl)) | fail
    refine Holds.loop (ι := Nat × List Int × Bool) (fun i => ⟨[(1, .pb 0 3 0 0), (3, .im 1 (ints i.2.1)), (4, .v (.bool i.2.2)), (12, .im 2 (rules g.2.2)), (13, .v (.int .i64 g.2.2.length)), (14, .v (.int .i64 i.1))], [(0, ⟨31, 3, [grammarC g]⟩)], 2⟩)
      (fun i => i.1 ≤ g.2.2.length ∧ LstN i.2.1 ∧ ClI (impsR g) univN (fun x => hasN L0 x) (fun x => hasN i.2.1 x) i.2.2 (impZ :: (g.2.2.take i.1).flatMap impF)) (fun i => g.2.2.length - i.1) (0, L0, false) ⟨Nat.zero_le _, hL0, startR g hlow0 hz0⟩ ?_ ?_
    · exact Cov.ofn (id) rfl (by simp [go_sem, List.take_of_length_le, ren, ren1, ren2, okr, okr1, okr2, ChkT, ChkN, BlkN, nf, grammarC]) (by simp [go_sem, List.take_of_length_le, ren, ren1, ren2, okr, okr1, okr2, ChkT, ChkN, BlkN, nf, grammarC])
    rintro ⟨k, L, more⟩ ⟨hk, hL, hC⟩
    dsimp only at hk hL hC ⊢
    have stepk : wr64 ((k : Int) + 1) = ((k + 1 : Nat) : Int) := wr64_id (by omega) (by omega)
    repeat' first | (refine Holds.condT ?_ ?_; (· (simp [go_sem, List.take_of_length_le] <;> with_reducible rfl))) | (refine Holds.condF ?_ ?_; (· (simp [go_sem, List.take_of_length_le] <;> with_reducible rfl))) | refine Holds.seq ?_ | refine Holds.skip ?_ | refine Holds.exit ?_ | refine Holds.ret ?_ | refine thenA_normal ?_ | refine thenA_exit ?_ | refine thenA_ret ?_ | refine inB_normal ?_ | refine inB_ret ?_ | refine inB_here ?_ | (refine inB_past ?_ ?_; (· exact rfl)) | refine Holds.reg ?_ | refine Holds.block ?_ | refine GS.nil ?_ | (refine GS.step (s' := ?_) ?_ ?_ ?_; rotate_left; (· exact rfl); (· (simp [go_sem, List.take_of_length_le] <;> with_reducible rfl))) | (refine GS.skip ?_ ?_ ?_; (· exact rfl); (· exact rfl)) | fail
    refine Holds.cond rfl (fun h => ?_) (fun h => ?_)
    · have hlt : k < g.2.2.length := by simp at h; omega
      have hrk : g.2.2[k]? = some g.2.2[k] := List.getElem?_eq_getElem hlt
      have hmem := List.getElem_mem hlt
      generalize g.2.2[k] = r at hrk hmem
      have hr4 := hG.r4 r hmem
      have hs1 := hG.s1 r hmem
      have hall := seenR_all g hrk
      rw [← seenR_zero g k r] at hC
      repeat' first | (refine Holds.condT ?_ ?_; (· (simp [go_sem, List.take_of_length_le, get_E hrk, hrk, hlt, ruleC] <;> with_reducible rfl))) | (refine Holds.condF ?_ ?_; (· (simp [go_sem, List.take_of_length_le, get_E hrk, hrk, hlt, ruleC] <;> with_reducible rfl))) | refine Holds.seq ?_ | refine Holds.skip ?_ | refine Holds.exit ?_ | refine Holds.ret ?_ | refine thenA_normal ?_ | refine thenA_exit ?_ | refine thenA_ret ?_ | refine inB_normal ?_ | refine inB_ret ?_ | refine inB_here ?_ | (refine inB_past ?_ ?_; (· exact rfl)) | refine Holds.reg ?_ | refine Holds.block ?_ | refine GS.nil ?_ | (refine GS.step (s' := ?_) ?_ ?_ ?_; rotate_left; (· exact rfl); (· (simp [go_sem, List.take_of_length_le, get_E hrk, hrk, hlt, ruleC] <;> with_reducible rfl))) | (refine GS.skip ?_ ?_ ?_; (· exact rfl); (· exact rfl)) | fail
      refine Holds.loop (ι := Nat × List Int × Bool) (fun i => ⟨[(1, .pb 0 3 0 0), (3, .im 1 (ints i.2.1)), (4, .v (.bool i.2.2)), (6, .pb 2 2 0 0), (12, .im 2 (rules g.2.2)), (13, .v (.int .i64 g.2.2.length)), (14, .v (.int .i64 k)), (19, .im 1 (ints r.2)), (20, .v (.int .i64 r.2.length)), (21, .v (.int .i64 i.1))], [(2, ⟨60, 2, [ruleC r]⟩), (0, ⟨31, 3, [grammarC g]⟩)], 3⟩)
        (fun i => i.1 ≤ r.2.length ∧ LstN i.2.1 ∧ ClI (impsR g) univN (fun x => hasN L0 x) (fun x => hasN i.2.1 x) i.2.2 (seenR g k r i.1)) (fun i => r.2.length - i.1) (0, L, more) ⟨Nat.zero_le _, hL, hC⟩ ?_ ?_
      · exact Cov.ofn (id) rfl (by simp [go_sem, List.take_of_length_le, ren, ren1, ren2, okr, okr1, okr2, ChkT, ChkN, BlkN, nf, grammarC, ruleC]) (by simp [go_sem, List.take_of_length_le, ren, ren1, ren2, okr, okr1, okr2, ChkT, ChkN, BlkN, nf, grammarC, ruleC])
      clear hC hL
      rintro ⟨a, L, more⟩ ⟨ha, hL, hC⟩
      dsimp only at ha hL hC ⊢
      have hLl := hL.len
      have stepa : wr64 ((a : Int) + 1) = ((a + 1 : Nat) : Int) := wr64_id (by omega) (by omega)
      repeat' first | (refine Holds.condT ?_ ?_; (· (simp [go_sem, List.take_of_length_le] <;> with_reducible rfl))) | (refine Holds.condF ?_ ?_; (· (simp [go_sem, List.take_of_length_le] <;> with_reducible rfl))) | refine Holds.seq ?_ | refine Holds.skip ?_ | refine Holds.exit ?_ | refine Holds.ret ?_ | refine thenA_normal ?_ | refine thenA_exit ?_ | refine thenA_ret ?_ | refine inB_normal ?_ | refine inB_ret ?_ | refine inB_here ?_ | (refine inB_past ?_ ?_; (· exact rfl)) | refine Holds.reg ?_ | refine Holds.block ?_ | refine GS.nil ?_ | (refine GS.step (s' := ?_) ?_ ?_ ?_; rotate_left; (· exact rfl); (· (simp [go_sem, List.take_of_length_le] <;> with_reducible rfl))) | (refine GS.skip ?_ ?_ ?_; (· exact rfl); (· exact rfl)) | fail
      refine Holds.cond rfl (fun h => ?_) (fun h => ?_)
      · have hla : a < r.2.length := by simp at h; omega
        have hxa : r.2[a]? = some r.2[a] := List.getElem?_eq_getElem hla
        have hxm := List.getElem_mem hla
        generalize r.2[a] = x at hxa hxm
        have hx5 := hs1 x hxm
        have hsn := seenR_snoc g k r hxa
        have hpm := impR_mem hmem hxm
        have hskip := hC.skip (p := impR r.1 x)
        rw [← hsn] at hskip
        have hadd := fun h1 h2 h3 => hC.add hpm (impR_mono r.1 x) h1 h2 (mem_univN.2 ⟨h3, by show x ≤ 5; omega⟩) (seenR g k r (a + 1))
        have ch := l1Has L r.1 (by omega)
        have chx := l1Has L x (by omega)
        have cp := l1Put L x (by omega)
        simp only [impR] at hskip hadd
        by_cases hx0 : 0 ≤ x
        · rw [decide_eq_true hx0, Bool.true_and] at hskip hadd
          repeat' first | (refine Holds.condT ?_ ?_; (· (simp [go_sem, List.take_of_length_le, get_E hxa, hxa, hla, hx0, ruleC] <;> with_reducible rfl))) | (refine Holds.condF ?_ ?_; (· (simp [go_sem, List.take_of_length_le, get_E hxa, hxa, hla, hx0, ruleC] <;> with_reducible rfl))) | refine Holds.seq ?_ | refine Holds.skip ?_ | refine Holds.exit ?_ | refine Holds.ret ?_ | refine thenA_normal ?_ | refine thenA_exit ?_ | refine thenA_ret ?_ | refine inB_normal ?_ | refine inB_ret ?_ | refine inB_here ?_ | (refine inB_past ?_ ?_; (· exact rfl)) | refine Holds.reg ?_ | refine Holds.block ?_ | refine GS.nil ?_ | (refine GS.step (s' := ?_) ?_ ?_ ?_; rotate_left; (· exact rfl); (· (simp [go_sem, List.take_of_length_le, get_E hxa, hxa, hla, hx0, ruleC] <;> with_reducible rfl))) | (refine GS.skip ?_ ?_ ?_; (· exact rfl); (· exact rfl)) | fail
          refine GS.cc (ch) rfl rfl rfl rfl (by simp [go_sem, List.take_of_length_le, ruleC] <;> with_reducible rfl) rfl (by simp [go_sem, List.take_of_length_le, ruleC]) ?_
          cases hl : hasN L r.1 with
          | false =>
            rw [hl] at hskip
            repeat' first | (refine Holds.condT ?_ ?_; (· (simp [go_sem, List.take_of_length_le] <;> with_reducible rfl))) | (refine Holds.condF ?_ ?_; (· (simp [go_sem, List.take_of_length_le] <;> with_reducible rfl))) | refine Holds.seq ?_ | refine Holds.skip ?_ | refine Holds.exit ?_ | refine Holds.ret ?_ | refine thenA_normal ?_ | refine thenA_exit ?_ | refine thenA_ret ?_ | refine inB_normal ?_ | refine inB_ret ?_ | refine inB_here ?_ | (refine inB_past ?_ ?_; (· exact rfl)) | refine Holds.reg ?_ | refine Holds.block ?_ | refine GS.nil ?_ | (refine GS.step (s' := ?_) ?_ ?_ ?_; rotate_left; (· exact rfl); (· (simp [go_sem, List.take_of_length_le] <;> with_reducible rfl))) | (refine GS.skip ?_ ?_ ?_; (· exact rfl); (· exact rfl)) | fail
            refine ⟨(a + 1, L, more), ⟨by dsimp only; omega, hL, hskip fun e => (by cases e)⟩, by dsimp only; omega, ?_⟩
            rw [stepa]
            exact Cov.ofn (id) rfl (by simp [go_sem, List.take_of_length_le, ren, ren1, ren2, okr, okr1, okr2, ChkT, ChkN, BlkN, nf, grammarC, ruleC]) (by simp [go_sem, List.take_of_length_le, ren, ren1, ren2, okr, okr1, okr2, ChkT, ChkN, BlkN, nf, grammarC, ruleC])
          | true =>
            repeat' first | (refine Holds.condT ?_ ?_; (· (simp [go_sem, List.take_of_length_le] <;> with_reducible rfl))) | (refine Holds.condF ?_ ?_; (· (simp [go_sem, List.take_of_length_le] <;> with_reducible rfl))) | refine Holds.seq ?_ | refine Holds.skip ?_ | refine Holds.exit ?_ | refine Holds.ret ?_ | refine thenA_normal ?_ | refine thenA_exit ?_ | refine thenA_ret ?_ | refine inB_normal ?_ | refine inB_ret ?_ | refine inB_here ?_ | (refine inB_past ?_ ?_; (· exact rfl)) | refine Holds.reg ?_ | refine Holds.block ?_ | refine GS.nil ?_ | (refine GS.step (s' := ?_) ?_ ?_ ?_; rotate_left; (· exact rfl); (· (simp [go_sem, List.take_of_length_le] <;> with_reducible rfl))) | (refine GS.skip ?_ ?_ ?_; (· exact rfl); (· exact rfl)) | fail
            refine GS.cc (chx) rfl rfl rfl rfl (by simp [go_sem, List.take_of_length_le] <;> with_reducible rfl) rfl (by simp [go_sem, List.take_of_length_le]) ?_
            cases hxx : hasN L x with
            | true =>
              repeat' first | (refine Holds.condT ?_ ?_; (· (simp [go_sem, List.take_of_length_le] <;> with_reducible rfl))) | (refine Holds.condF ?_ ?_; (· (simp [go_sem, List.take_of_length_le] <;> with_reducible rfl))) | refine Holds.seq ?_ | refine Holds.skip ?_ | refine Holds.exit ?_ | refine Holds.ret ?_ | refine thenA_normal ?_ | refine thenA_exit ?_ | refine thenA_ret ?_ | refine inB_normal ?_ | refine inB_ret ?_ | refine inB_here ?_ | (refine inB_past ?_ ?_; (· exact rfl)) | refine Holds.reg ?_ | refine Holds.block ?_ | refine GS.nil ?_ | (refine GS.step (s' := ?_) ?_ ?_ ?_; rotate_left; (· exact rfl); (· (simp [go_sem, List.take_of_length_le] <;> with_reducible rfl))) | (refine GS.skip ?_ ?_ ?_; (· exact rfl); (· exact rfl)) | fail
              refine ⟨(a + 1, L, more), ⟨by dsimp only; omega, hL, hskip fun _ => hxx⟩, by dsimp only; omega, ?_⟩
              rw [stepa]
              exact Cov.ofn (id) rfl (by simp [go_sem, List.take_of_length_le, ren, ren1, ren2, okr, okr1, okr2, ChkT, ChkN, BlkN, nf, grammarC, ruleC]) (by simp [go_sem, List.take_of_length_le, ren, ren1, ren2, okr, okr1, okr2, ChkT, ChkN, BlkN, nf, grammarC, ruleC])
            | false =>
              repeat' first | (refine Holds.condT ?_ ?_; (· (simp [go_sem, List.take_of_length_le] <;> with_reducible rfl))) | (refine Holds.condF ?_ ?_; (· (simp [go_sem, List.take_of_length_le] <;> with_reducible rfl))) | refine Holds.seq ?_ | refine Holds.skip ?_ | refine Holds.exit ?_ | refine Holds.ret ?_ | refine thenA_normal ?_ | refine thenA_exit ?_ | refine thenA_ret ?_ | refine inB_normal ?_ | refine inB_ret ?_ | refine inB_here ?_ | (refine inB_past ?_ ?_; (· exact rfl)) | refine Holds.reg ?_ | refine Holds.block ?_ | refine GS.nil ?_ | (refine GS.step (s' := ?_) ?_ ?_ ?_; rotate_left; (· exact rfl); (· (simp [go_sem, List.take_of_length_le] <;> with_reducible rfl))) | (refine GS.skip ?_ ?_ ?_; (· exact rfl); (· exact rfl)) | fail
              refine GS.cc (cp) rfl rfl rfl rfl (by simp [go_sem, List.take_of_length_le] <;> with_reducible rfl) rfl (by simp [go_sem, List.take_of_length_le]) ?_
              repeat' first | (refine Holds.condT ?_ ?_; (· (simp [go_sem, List.take_of_length_le] <;> with_reducible rfl))) | (refine Holds.condF ?_ ?_; (· (simp [go_sem, List.take_of_length_le] <;> with_reducible rfl))) | refine Holds.seq ?_ | refine Holds.skip ?_ | refine Holds.exit ?_ | refine Holds.ret ?_ | refine thenA_normal ?_ | refine thenA_exit ?_ | refine thenA_ret ?_ | refine inB_normal ?_ | refine inB_ret ?_ | refine inB_here ?_ | (refine inB_past ?_ ?_; (· exact rfl)) | refine Holds.reg ?_ | refine Holds.block ?_ | refine GS.nil ?_ | (refine GS.step (s' := ?_) ?_ ?_ ?_; rotate_left; (· exact rfl); (· (simp [go_sem, List.take_of_length_le] <;> with_reducible rfl))) | (refine GS.skip ?_ ?_ ?_; (· exact rfl); (· exact rfl)) | fail
              refine ⟨(a + 1, putL L x, true), ⟨by dsimp only; omega, hL.put ⟨hx0, by omega⟩, ?_⟩, by dsimp only; omega, ?_⟩
              · dsimp only
                rw [hasN_putL]
                exact hadd hl hxx hx0
              rw [stepa]
              exact Cov.ofn (id) rfl (by simp [go_sem, List.take_of_length_le, ren, ren1, ren2, okr, okr1, okr2, ChkT, ChkN, BlkN, nf, grammarC, ruleC]) (by simp [go_sem, List.take_of_length_le, ren, ren1, ren2, okr, okr1, okr2, ChkT, ChkN, BlkN, nf, grammarC, ruleC])
        · rw [decide_eq_false hx0, Bool.false_and] at hskip
          repeat' first | (refine Holds.condT ?_ ?_; (· (simp [go_sem, List.take_of_length_le, get_E hxa, hxa, hla, hx0] <;> with_reducible rfl))) | (refine Holds.condF ?_ ?_; (· (simp [go_sem, List.take_of_length_le, get_E hxa, hxa, hla, hx0] <;> with_reducible rfl))) | refine Holds.seq ?_ | refine Holds.skip ?_ | refine Holds.exit ?_ | refine Holds.ret ?_ | refine thenA_normal ?_ | refine thenA_exit ?_ | refine thenA_ret ?_ | refine inB_normal ?_ | refine inB_ret ?_ | refine inB_here ?_ | (refine inB_past ?_ ?_; (· exact rfl)) | refine Holds.reg ?_ | refine Holds.block ?_ | refine GS.nil ?_ | (refine GS.step (s' := ?_) ?_ ?_ ?_; rotate_left; (· exact rfl); (· (simp [go_sem, List.take_of_length_le, get_E hxa, hxa, hla, hx0] <;> with_reducible rfl))) | (refine GS.skip ?_ ?_ ?_; (· exact rfl); (· exact rfl)) | fail
          refine ⟨(a + 1, L, more), ⟨by dsimp only; omega, hL, hskip fun e => (by cases e)⟩, by dsimp only; omega, ?_⟩
          rw [stepa]
          exact Cov.ofn (id) rfl (by simp [go_sem, List.take_of_length_le, ren, ren1, ren2, okr, okr1, okr2, ChkT, ChkN, BlkN, nf, grammarC, ruleC]) (by simp [go_sem, List.take_of_length_le, ren, ren1, ren2, okr, okr1, okr2, ChkT, ChkN, BlkN, nf, grammarC, ruleC])
      · have hae : a = r.2.length := by simp at h; omega
        subst hae
        rw [hall] at hC
        repeat' first | (refine Holds.condT ?_ ?_; (· (simp [go_sem, List.take_of_length_le] <;> with_reducible rfl))) | (refine Holds.condF ?_ ?_; (· (simp [go_sem, List.take_of_length_le] <;> with_reducible rfl))) | refine Holds.seq ?_ | refine Holds.skip ?_ | refine Holds.exit ?_ | refine Holds.ret ?_ | refine thenA_normal ?_ | refine thenA_exit ?_ | refine thenA_ret ?_ | refine inB_normal ?_ | refine inB_ret ?_ | refine inB_here ?_ | (refine inB_past ?_ ?_; (· exact rfl)) | refine Holds.reg ?_ | refine Holds.block ?_ | refine GS.nil ?_ | (refine GS.step (s' := ?_) ?_ ?_ ?_; rotate_left; (· exact rfl); (· (simp [go_sem, List.take_of_length_le] <;> with_reducible rfl))) | (refine GS.skip ?_ ?_ ?_; (· exact rfl); (· exact rfl)) | fail
        refine ⟨(k + 1, L, more), ⟨by dsimp only; omega, hL, hC⟩, by dsimp only; omega, ?_⟩
        rw [stepk]
        exact Cov.ofn (id) rfl (by simp [go_sem, List.take_of_length_le, ren, ren1, ren2, okr, okr1, okr2, ChkT, ChkN, BlkN, nf, grammarC]) (by simp [go_sem, List.take_of_length_le, ren, ren1, ren2, okr, okr1, okr2, ChkT, ChkN, BlkN, nf, grammarC])
    · have hke : k = g.2.2.length := by simp at h; omega
      subst hke
      rw [List.take_length, ← impsR_eq] at hC
      repeat' first | (refine Holds.condT ?_ ?_; (· (simp [go_sem, List.take_of_length_le] <;> with_reducible rfl))) | (refine Holds.condF ?_ ?_; (· (simp [go_sem, List.take_of_length_le] <;> with_reducible rfl))) | refine Holds.seq ?_ | refine Holds.skip ?_ | refine Holds.exit ?_ | refine Holds.ret ?_ | refine thenA_normal ?_ | refine thenA_exit ?_ | refine thenA_ret ?_ | refine inB_normal ?_ | refine inB_ret ?_ | refine inB_here ?_ | (refine inB_past ?_ ?_; (· exact rfl)) | refine Holds.reg ?_ | refine Holds.block ?_ | refine GS.nil ?_ | (refine GS.step (s' := ?_) ?_ ?_ ?_; rotate_left; (· exact rfl); (· (simp [go_sem, List.take_of_length_le] <;> with_reducible rfl))) | (refine GS.skip ?_ ?_ ?_; (· exact rfl); (· exact rfl)) | fail
      refine ⟨(L, more), ⟨hL, hC.le 0 hz0, hC.low, fun e => ?_⟩, ?_, ?_⟩
      · dsimp only at e ⊢
        subst e
        exact hC.done
      · dsimp only
        have hc := card_le fun x => hasN L x
        cases more with
        | true => have := hC.yes rfl; simp only [if_true]; omega
        | false => rw [(hC.no rfl).1]; simp
      exact Cov.ofn (id) rfl (by simp [go_sem, List.take_of_length_le, ren, ren1, ren2, okr, okr1, okr2, ChkT, ChkN, BlkN, nf, grammarC]) (by simp [go_sem, List.take_of_length_le, ren, ren1, ren2, okr, okr1, okr2, ChkT, ChkN, BlkN, nf, grammarC])
  · have h : more0 = false := by simpa using h
    have := hfin h
    rw [← this, ← hL0.eq]
    repeat' first | (refine Holds.condT ?_ ?_; (· (simp [go_sem, List.take_of_length_le] <;> with_reducible rfl))) | (refine Holds.condF ?_ ?_; (· (simp [go_sem, List.take_of_length_le] <;> with_reducible rfl))) | refine Holds.seq ?_ | refine Holds.skip ?_ | refine Holds.exit ?_ | refine Holds.ret ?_ | refine thenA_normal ?_ | refine thenA_exit ?_ | refine thenA_ret ?_ | refine inB_normal ?_ | refine inB_ret ?_ | refine inB_here ?_ | (refine inB_past ?_ ?_; (· exact rfl)) | refine Holds.reg ?_ | refine Holds.block ?_ | refine GS.nil ?_ | (refine GS.step (s' := ?_) ?_ ?_ ?_; rotate_left; (· exact rfl); (· (simp [go_sem, List.take_of_length_le] <;> with_reducible rfl))) | (refine GS.skip ?_ ?_ ?_; (· exact rfl); (· exact rfl)) | fail
    refine Out.mk (xs := ?_) ?_ ?_ (by first | exact .inr rfl | exact .inl rfl)
    rotate_left
    · simp [go_sem, List.take_of_length_le] <;> with_reducible rfl
    exact .im _ _
theorem cellsN_zero : cellsN (fun x => decide (x = 0)) = [.v (.bool true), .v (.bool false), .v (.bool false), .v (.bool false), .v (.bool false), .v (.bool false)] := rfl
theorem reachedG (g : GrammarT) (hG : OkG g) : Pure Try.prog 70 [.ag (grammarC g)] (.ag (cellsN (reachS g))) := by
  have hlen := hG.len
  have hn1 := hG.n1
  refine Pure.mk (rs := [.cell 2 89]) (nt := 44) Try.func70 (by kernel_rfl) rfl rfl rfl (by simp) ?_
  simp only [sl, grammarC]
  repeat' first | (refine Holds.condT ?_ ?_; (· (simp [go_sem, List.take_of_length_le, grammarC] <;> with_reducible rfl))) | (refine Holds.condF ?_ ?_; (· (simp [go_sem, List.take_of_length_le, grammarC] <;> with_reducible rfl))) | refine Holds.seq ?_ | refine Holds.skip ?_ | refine Holds.exit ?_ | refine Holds.ret ?_ | refine thenA_normal ?_ | refine thenA_exit ?_ | refine thenA_ret ?_ | refine inB_normal ?_ | refine inB_ret ?_ | refine inB_here ?_ | (refine inB_past ?_ ?_; (· exact rfl)) | refine Holds.reg ?_ | refine Holds.block ?_ | refine GS.nil ?_ | (refine GS.step (s' := ?_) ?_ ?_ ?_; rotate_left; (· exact rfl); (· (simp [go_sem, List.take_of_length_le, grammarC] <;> with_reducible rfl))) | (refine GS.skip ?_ ?_ ?_; (· exact rfl); (· exact rfl)) | fail
  refine Holds.loop (ι := (Int → Bool) × Bool) (fun i => ⟨[(1, .pb 0 3 0 0), (2, .pb 1 6 0 0), (3, .pb 2 6 0 0), (4, .v (.bool i.2))], [(2, ⟨89, 6, [cellsN i.1]⟩), (1, ⟨89, 6, [cellsN (fun _ => false)]⟩), (0, ⟨31, 3, [grammarC g]⟩)], 3⟩)
    (fun i => i.1 0 = true ∧ LowI (impsR g) i.1 ∧ (i.2 = false → i.1 = reachS g)) (fun i => 2 * (6 - (univN.filter i.1).length) + if i.2 then 1 else 0) (fun x => decide (x = 0), true) ⟨rfl, low_zero g, fun e => (by cases e)⟩ ?_ ?_
  · exact Cov.ofn (id) rfl (by simp [go_sem, List.take_of_length_le, ren, ren1, ren2, okr, okr1, okr2, ChkT, ChkN, BlkN, nf, grammarC, cellsN_none, cellsN_zero]) (by simp [go_sem, List.take_of_length_le, ren, ren1, ren2, okr, okr1, okr2, ChkT, ChkN, BlkN, nf, grammarC, cellsN_none, cellsN_zero])
  rintro ⟨S0, more0⟩ ⟨hz0, hlow0, hfin⟩
  dsimp only at hz0 hlow0 hfin ⊢
  repeat' first | (refine Holds.condT ?_ ?_; (· (simp [go_sem, List.take_of_length_le] <;> with_reducible rfl))) | (refine Holds.condF ?_ ?_; (· (simp [go_sem, List.take_of_length_le] <;> with_reducible rfl))) | refine Holds.seq ?_ | refine Holds.skip ?_ | refine Holds.exit ?_ | refine Holds.ret ?_ | refine thenA_normal ?_ | refine thenA_exit ?_ | refine thenA_ret ?_ | refine inB_normal ?_ | refine inB_ret ?_ | refine inB_here ?_ | (refine inB_past ?_ ?_; (· exact rfl)) | refine Holds.reg ?_ | refine Holds.block ?_ | refine GS.nil ?_ | (refine GS.step (s' := ?_) ?_ ?_ ?_; rotate_left; (· exact rfl); (· (simp [go_sem, List.take_of_length_le] <;> with_reducible rfl))) | (refine GS.skip ?_ ?_ ?_; (· exact rfl); (· exact rfl)) | fail
  refine Holds.cond rfl (fun h => ?_) (fun h => ?_)
  · subst h
    have hc0 := card_le S0
    repeat' first | (refine Holds.condT ?_ ?_; (· (simp [go_sem, List.take_of_length_le, grammarC] <;> with_reducible rfl))) | (refine Holds.condF ?_ ?_; (· (simp [go_sem, List.take_of_length_le, grammarC] <;> with_reducible rfl))) | refine Holds.seq ?_ | refine Holds.skip ?_ | refine Holds.exit ?_ | refine Holds.ret ?_ | refine thenA_normal ?_ | refine thenA_exit ?_ | refine thenA_ret ?_ | refine inB_normal ?_ | refine inB_ret ?_ | refine inB_here ?_ | (refine inB_past ?_ ?_; (· exact rfl)) | refine Holds.reg ?_ | refine Holds.block ?_ | refine GS.nil ?_ | (refine GS.step (s' := ?_) ?_ ?_ ?_; rotate_left; (· exact rfl); (· (simp [go_sem, List.take_of_length_le, grammarC] <;> with_reducible rfl))) | (refine GS.skip ?_ ?_ ?_; (· exact rfl); (· exact rfl)) | fail
    refine Holds.loop (ι := Nat × (Int → Bool) × Bool) (fun i => ⟨[(1, .pb 0 3 0 0), (2, .pb 1 6 0 0), (3, .pb 2 6 0 0), (4, .v (.bool i.2.2)), (12, .im 2 (rules g.2.2)), (13, .v (.int .i64 g.2.2.length)), (14, .v (.int .i64 i.1))], [(2, ⟨89, 6, [cellsN i.2.1]⟩), (1, ⟨89, 6, [cellsN (fun _ => false)]⟩), (0, ⟨31, 3, [grammarC g]⟩)], 3⟩)
      (fun i => i.1 ≤ g.2.2.length ∧ ClI (impsR g) univN S0 i.2.1 i.2.2 (impZ :: (g.2.2.take i.1).flatMap impF)) (fun i => g.2.2.length - i.1) (0, S0, false) ⟨Nat.zero_le _, startR g hlow0 hz0⟩ ?_ ?_
    · exact Cov.ofn (id) rfl (by simp [go_sem, List.take_of_length_le, ren, ren1, ren2, okr, okr1, okr2, ChkT, ChkN, BlkN, nf, grammarC]) (by simp [go_sem, List.take_of_length_le, ren, ren1, ren2, okr, okr1, okr2, ChkT, ChkN, BlkN, nf, grammarC])
    rintro ⟨k, S, more⟩ ⟨hk, hC⟩
    dsimp only at hk hC ⊢
    have stepk : wr64 ((k : Int) + 1) = ((k + 1 : Nat) : Int) := wr64_id (by omega) (by omega)
    repeat' first | (refine Holds.condT ?_ ?_; (· (simp [go_sem, List.take_of_length_le] <;> with_reducible rfl))) | (refine Holds.condF ?_ ?_; (· (simp [go_sem, List.take_of_length_le] <;> with_reducible rfl))) | refine Holds.seq ?_ | refine Holds.skip ?_ | refine Holds.exit ?_ | refine Holds.ret ?_ | refine thenA_normal ?_ | refine thenA_exit ?_ | refine thenA_ret ?_ | refine inB_normal ?_ | refine inB_ret ?_ | refine inB_here ?_ | (refine inB_past ?_ ?_; (· exact rfl)) | refine Holds.reg ?_ | refine Holds.block ?_ | refine GS.nil ?_ | (refine GS.step (s' := ?_) ?_ ?_ ?_; rotate_left; (· exact rfl); (· (simp [go_sem, List.take_of_length_le] <;> with_reducible rfl))) | (refine GS.skip ?_ ?_ ?_; (· exact rfl); (· exact rfl)) | fail
    refine Holds.cond rfl (fun h => ?_) (fun h => ?_)
    · have hlt : k < g.2.2.length := by simp at h; omega
      have hrk : g.2.2[k]? = some g.2.2[k] := List.getElem?_eq_getElem hlt
      have hmem := List.getElem_mem hlt
      generalize g.2.2[k] = r at hrk hmem
      have hr4 := hG.r4 r hmem
      have hr0 := hG.l0 r hmem
      have hr1 := hG.l1 r hmem
      have hs1 := hG.s1 r hmem
      have hall := seenR_all g hrk
      have hsnoc : ∀ a x, r.2[a]? = some x → _ := fun a x h => seenR_snoc g k r h
      have hpmm : ∀ x ∈ r.2, _ := fun x hx => impR_mem hmem hx
      rw [← seenR_zero g k r] at hC
      have hmono := impR_mono r.1
      have hdef : ∀ S x, (impR r.1 x).1 S = (decide (0 ≤ x) && S r.1) := fun S x => rfl
      have hdef2 : ∀ x, (impR r.1 x).2 = x := fun x => rfl
      generalize hseen : seenR g k r = seen at hC hall hsnoc
      generalize impR r.1 = imp at hsnoc hpmm hmono hdef hdef2
      obtain ⟨left, right⟩ := r
      dsimp only at hr0 hr1 hr4 hs1 hall hsnoc hpmm hdef
      obtain ⟨n, rfl⟩ : ∃ n : Nat, left = (n : Int) := ⟨left.toNat, by omega⟩
      have hn6 : n < 6 := by omega
      repeat' first | (refine Holds.condT ?_ ?_; (· (simp [go_sem, List.take_of_length_le, get_E hrk, hrk, hlt, ruleC] <;> with_reducible rfl))) | (refine Holds.condF ?_ ?_; (· (simp [go_sem, List.take_of_length_le, get_E hrk, hrk, hlt, ruleC] <;> with_reducible rfl))) | refine Holds.seq ?_ | refine Holds.skip ?_ | refine Holds.exit ?_ | refine Holds.ret ?_ | refine thenA_normal ?_ | refine thenA_exit ?_ | refine thenA_ret ?_ | refine inB_normal ?_ | refine inB_ret ?_ | refine inB_here ?_ | (refine inB_past ?_ ?_; (· exact rfl)) | refine Holds.reg ?_ | refine Holds.block ?_ | refine GS.nil ?_ | (refine GS.step (s' := ?_) ?_ ?_ ?_; rotate_left; (· exact rfl); (· (simp [go_sem, List.take_of_length_le, get_E hrk, hrk, hlt, ruleC] <;> with_reducible rfl))) | (refine GS.skip ?_ ?_ ?_; (· exact rfl); (· exact rfl)) | fail
      refine Holds.loop (ι := Nat × (Int → Bool) × Bool) (fun i => ⟨[(1, .pb 0 3 0 0), (2, .pb 1 6 0 0), (3, .pb 2 6 0 0), (4, .v (.bool i.2.2)), (6, .pb 3 2 0 0), (12, .im 2 (rules g.2.2)), (13, .v (.int .i64 g.2.2.length)), (14, .v (.int .i64 k)), (19, .im 1 (ints right)), (20, .v (.int .i64 right.length)), (21, .v (.int .i64 i.1))], [(3, ⟨60, 2, [ruleC ((n : Int), right)]⟩), (2, ⟨89, 6, [cellsN i.2.1]⟩), (1, ⟨89, 6, [cellsN (fun _ => false)]⟩), (0, ⟨31, 3, [grammarC g]⟩)], 4⟩)
        (fun i => i.1 ≤ right.length ∧ ClI (impsR g) univN S0 i.2.1 i.2.2 (seen i.1)) (fun i => right.length - i.1) (0, S, more) ⟨Nat.zero_le _, hC⟩ ?_ ?_
      · exact Cov.ofn (id) rfl (by simp [go_sem, List.take_of_length_le, ren, ren1, ren2, okr, okr1, okr2, ChkT, ChkN, BlkN, nf, grammarC, ruleC]) (by simp [go_sem, List.take_of_length_le, ren, ren1, ren2, okr, okr1, okr2, ChkT, ChkN, BlkN, nf, grammarC, ruleC])
      clear hC
      rintro ⟨a, S, more⟩ ⟨ha, hC⟩
      dsimp only at ha hC ⊢
      have stepa : wr64 ((a : Int) + 1) = ((a + 1 : Nat) : Int) := wr64_id (by omega) (by omega)
      have hcn := cellsN_at S hn6
      repeat' first | (refine Holds.condT ?_ ?_; (· (simp [go_sem, List.take_of_length_le] <;> with_reducible rfl))) | (refine Holds.condF ?_ ?_; (· (simp [go_sem, List.take_of_length_le] <;> with_reducible rfl))) | refine Holds.seq ?_ | refine Holds.skip ?_ | refine Holds.exit ?_ | refine Holds.ret ?_ | refine thenA_normal ?_ | refine thenA_exit ?_ | refine thenA_ret ?_ | refine inB_normal ?_ | refine inB_ret ?_ | refine inB_here ?_ | (refine inB_past ?_ ?_; (· exact rfl)) | refine Holds.reg ?_ | refine Holds.block ?_ | refine GS.nil ?_ | (refine GS.step (s' := ?_) ?_ ?_ ?_; rotate_left; (· exact rfl); (· (simp [go_sem, List.take_of_length_le] <;> with_reducible rfl))) | (refine GS.skip ?_ ?_ ?_; (· exact rfl); (· exact rfl)) | fail
      refine Holds.cond rfl (fun h => ?_) (fun h => ?_)
      · have hla : a < right.length := by simp at h; omega
        have hxa : right[a]? = some right[a] := List.getElem?_eq_getElem hla
        have hxm := List.getElem_mem hla
        generalize right[a] = x at hxa hxm
        have hx5 := hs1 x hxm
        have hskip := hC.skip (p := imp x)
        rw [← hsnoc a x hxa, hdef, hdef2] at hskip
        have hadd := fun h1 h2 h3 => hC.add (hpmm x hxm) (hmono x) h1 h2 (mem_univN.2 h3) (seen (a + 1))
        rw [hdef, hdef2] at hadd
        cases hl : S (n : Int) with
        | false =>
          rw [hl, Bool.and_false] at hskip
          repeat' first | (refine Holds.condT ?_ ?_; (· (simp [go_sem, List.take_of_length_le, get_E hxa, hxa, hla, ruleC, hn6, get_E hcn, hcn, hl] <;> with_reducible rfl))) | (refine Holds.condF ?_ ?_; (· (simp [go_sem, List.take_of_length_le, get_E hxa, hxa, hla, ruleC, hn6, get_E hcn, hcn, hl] <;> with_reducible rfl))) | refine Holds.seq ?_ | refine Holds.skip ?_ | refine Holds.exit ?_ | refine Holds.ret ?_ | refine thenA_normal ?_ | refine thenA_exit ?_ | refine thenA_ret ?_ | refine inB_normal ?_ | refine inB_ret ?_ | refine inB_here ?_ | (refine inB_past ?_ ?_; (· exact rfl)) | refine Holds.reg ?_ | refine Holds.block ?_ | refine GS.nil ?_ | (refine GS.step (s' := ?_) ?_ ?_ ?_; rotate_left; (· exact rfl); (· (simp [go_sem, List.take_of_length_le, get_E hxa, hxa, hla, ruleC, hn6, get_E hcn, hcn, hl] <;> with_reducible rfl))) | (refine GS.skip ?_ ?_ ?_; (· exact rfl); (· exact rfl)) | fail
          refine ⟨(a + 1, S, more), ⟨by dsimp only; omega, hskip fun e => (by cases e)⟩, by dsimp only; omega, ?_⟩
          rw [stepa]
          exact Cov.ofn (id) rfl (by simp [go_sem, List.take_of_length_le, ren, ren1, ren2, okr, okr1, okr2, ChkT, ChkN, BlkN, nf, grammarC, ruleC]) (by simp [go_sem, List.take_of_length_le, ren, ren1, ren2, okr, okr1, okr2, ChkT, ChkN, BlkN, nf, grammarC, ruleC])
        | true =>
          rw [hl, Bool.and_true] at hskip hadd
          by_cases hx0 : 0 ≤ x
          · obtain ⟨m, rfl⟩ : ∃ m : Nat, x = (m : Int) := ⟨x.toNat, by omega⟩
            have hm6 : m < 6 := by omega
            have hm5 : m ≤ 5 := by omega
            have hcm := cellsN_at S hm6
            have hcs := cellsN_set S hm6
            repeat' first | (refine Holds.condT ?_ ?_; (· (simp [go_sem, List.take_of_length_le, get_E hxa, hxa, hla, ruleC, hn6, get_E hcn, hcn, hl, hx0, hm6, get_E hcm, hcm] <;> with_reducible rfl))) | (refine Holds.condF ?_ ?_; (· (simp [go_sem, List.take_of_length_le, get_E hxa, hxa, hla, ruleC, hn6, get_E hcn, hcn, hl, hx0, hm6, get_E hcm, hcm] <;> with_reducible rfl))) | refine Holds.seq ?_ | refine Holds.skip ?_ | refine Holds.exit ?_ | refine Holds.ret ?_ | refine thenA_normal ?_ | refine thenA_exit ?_ | refine thenA_ret ?_ | refine inB_normal ?_ | refine inB_ret ?_ | refine inB_here ?_ | (refine inB_past ?_ ?_; (· exact rfl)) | refine Holds.reg ?_ | refine Holds.block ?_ | refine GS.nil ?_ | (refine GS.step (s' := ?_) ?_ ?_ ?_; rotate_left; (· exact rfl); (· (simp [go_sem, List.take_of_length_le, get_E hxa, hxa, hla, ruleC, hn6, get_E hcn, hcn, hl, hx0, hm6, get_E hcm, hcm] <;> with_reducible rfl))) | (refine GS.skip ?_ ?_ ?_; (· exact rfl); (· exact rfl)) | fail
            cases hxx : S (m : Int) with
            | true =>
              repeat' first | (refine Holds.condT ?_ ?_; (· (simp [go_sem, List.take_of_length_le] <;> with_reducible rfl))) | (refine Holds.condF ?_ ?_; (· (simp [go_sem, List.take_of_length_le] <;> with_reducible rfl))) | refine Holds.seq ?_ | refine Holds.skip ?_ | refine Holds.exit ?_ | refine Holds.ret ?_ | refine thenA_normal ?_ | refine thenA_exit ?_ | refine thenA_ret ?_ | refine inB_normal ?_ | refine inB_ret ?_ | refine inB_here ?_ | (refine inB_past ?_ ?_; (· exact rfl)) | refine Holds.reg ?_ | refine Holds.block ?_ | refine GS.nil ?_ | (refine GS.step (s' := ?_) ?_ ?_ ?_; rotate_left; (· exact rfl); (· (simp [go_sem, List.take_of_length_le] <;> with_reducible rfl))) | (refine GS.skip ?_ ?_ ?_; (· exact rfl); (· exact rfl)) | fail
              refine ⟨(a + 1, S, more), ⟨by dsimp only; omega, hskip fun _ => hxx⟩, by dsimp only; omega, ?_⟩
              rw [stepa]
              exact Cov.ofn (id) rfl (by simp [go_sem, List.take_of_length_le, ren, ren1, ren2, okr, okr1, okr2, ChkT, ChkN, BlkN, nf, grammarC, ruleC]) (by simp [go_sem, List.take_of_length_le, ren, ren1, ren2, okr, okr1, okr2, ChkT, ChkN, BlkN, nf, grammarC, ruleC])
            | false =>
              repeat' first | (refine Holds.condT ?_ ?_; (· (simp [go_sem, List.take_of_length_le, hm6, hm5, get_E hcm, hcm, hcs] <;> with_reducible rfl))) | (refine Holds.condF ?_ ?_; (· (simp [go_sem, List.take_of_length_le, hm6, hm5, get_E hcm, hcm, hcs] <;> with_reducible rfl))) | refine Holds.seq ?_ | refine Holds.skip ?_ | refine Holds.exit ?_ | refine Holds.ret ?_ | refine thenA_normal ?_ | refine thenA_exit ?_ | refine thenA_ret ?_ | refine inB_normal ?_ | refine inB_ret ?_ | refine inB_here ?_ | (refine inB_past ?_ ?_; (· exact rfl)) | refine Holds.reg ?_ | refine Holds.block ?_ | refine GS.nil ?_ | (refine GS.step (s' := ?_) ?_ ?_ ?_; rotate_left; (· exact rfl); (· (simp [go_sem, List.take_of_length_le, hm6, hm5, get_E hcm, hcm, hcs] <;> with_reducible rfl))) | (refine GS.skip ?_ ?_ ?_; (· exact rfl); (· exact rfl)) | fail
              refine ⟨(a + 1, insI S (m : Int), true), ⟨by dsimp only; omega, hadd (by simp) hxx ⟨by omega, by omega⟩⟩, by dsimp only; omega, ?_⟩
              rw [stepa]
              exact Cov.ofn (id) rfl (by simp [go_sem, List.take_of_length_le, ren, ren1, ren2, okr, okr1, okr2, ChkT, ChkN, BlkN, nf, grammarC, ruleC]) (by simp [go_sem, List.take_of_length_le, ren, ren1, ren2, okr, okr1, okr2, ChkT, ChkN, BlkN, nf, grammarC, ruleC])
          · rw [decide_eq_false hx0] at hskip
            repeat' first | (refine Holds.condT ?_ ?_; (· (simp [go_sem, List.take_of_length_le, get_E hxa, hxa, hla, ruleC, hn6, get_E hcn, hcn, hl, hx0] <;> with_reducible rfl))) | (refine Holds.condF ?_ ?_; (· (simp [go_sem, List.take_of_length_le, get_E hxa, hxa, hla, ruleC, hn6, get_E hcn, hcn, hl, hx0] <;> with_reducible rfl))) | refine Holds.seq ?_ | refine Holds.skip ?_ | refine Holds.exit ?_ | refine Holds.ret ?_ | refine thenA_normal ?_ | refine thenA_exit ?_ | refine thenA_ret ?_ | refine inB_normal ?_ | refine inB_ret ?_ | refine inB_here ?_ | (refine inB_past ?_ ?_; (· exact rfl)) | refine Holds.reg ?_ | refine Holds.block ?_ | refine GS.nil ?_ | (refine GS.step (s' := ?_) ?_ ?_ ?_; rotate_left; (· exact rfl); (· (simp [go_sem, List.take_of_length_le, get_E hxa, hxa, hla, ruleC, hn6, get_E hcn, hcn, hl, hx0] <;> with_reducible rfl))) | (refine GS.skip ?_ ?_ ?_; (· exact rfl); (· exact rfl)) | fail
            refine ⟨(a + 1, S, more), ⟨by dsimp only; omega, hskip fun e => (by cases e)⟩, by dsimp only; omega, ?_⟩
            rw [stepa]
            exact Cov.ofn (id) rfl (by simp [go_sem, List.take_of_length_le, ren, ren1, ren2, okr, okr1, okr2, ChkT, ChkN, BlkN, nf, grammarC, ruleC]) (by simp [go_sem, List.take_of_length_le, ren, ren1, ren2, okr, okr1, okr2, ChkT, ChkN, BlkN, nf, grammarC, ruleC])
      · have hae : a = right.length := by simp at h; omega
        subst hae
        rw [hall] at hC
        repeat' first | (refine Holds.condT ?_ ?_; (· (simp [go_sem, List.take_of_length_le] <;> with_reducible rfl))) | (refine Holds.condF ?_ ?_; (· (simp [go_sem, List.take_of_length_le] <;> with_reducible rfl))) | refine Holds.seq ?_ | refine Holds.skip ?_ | refine Holds.exit ?_ | refine Holds.ret ?_ | refine thenA_normal ?_ | refine thenA_exit ?_ | refine thenA_ret ?_ | refine inB_normal ?_ | refine inB_ret ?_ | refine inB_here ?_ | (refine inB_past ?_ ?_; (· exact rfl)) | refine Holds.reg ?_ | refine Holds.block ?_ | refine GS.nil ?_ | (refine GS.step (s' := ?_) ?_ ?_ ?_; rotate_left; (· exact rfl); (· (simp [go_sem, List.take_of_length_le] <;> with_reducible rfl))) | (refine GS.skip ?_ ?_ ?_; (· exact rfl); (· exact rfl)) | fail
        refine ⟨(k + 1, S, more), ⟨by dsimp only; omega, hC⟩, by dsimp only; omega, ?_⟩
        rw [stepk]
        exact Cov.ofn (id) rfl (by simp [go_sem, List.take_of_length_le, ren, ren1, ren2, okr, okr1, okr2, ChkT, ChkN, BlkN, nf, grammarC]) (by simp [go_sem, List.take_of_length_le, ren, ren1, ren2, okr, okr1, okr2, ChkT, ChkN, BlkN, nf, grammarC])
    · have hke : k = g.2.2.length := by simp at h; omega
      subst hke
      rw [List.take_length, ← impsR_eq] at hC
      repeat' first | (refine Holds.condT ?_ ?_; (· (simp [go_sem, List.take_of_length_le] <;> with_reducible rfl))) | (refine Holds.condF ?_ ?_; (· (simp [go_sem, List.take_of_length_le] <;> with_reducible rfl))) | refine Holds.seq ?_ | refine Holds.skip ?_ | refine Holds.exit ?_ | refine Holds.ret ?_ | refine thenA_normal ?_ | refine thenA_exit ?_ | refine thenA_ret ?_ | refine inB_normal ?_ | refine inB_ret ?_ | refine inB_here ?_ | (refine inB_past ?_ ?_; (· exact rfl)) | refine Holds.reg ?_ | refine Holds.block ?_ | refine GS.nil ?_ | (refine GS.step (s' := ?_) ?_ ?_ ?_; rotate_left; (· exact rfl); (· (simp [go_sem, List.take_of_length_le] <;> with_reducible rfl))) | (refine GS.skip ?_ ?_ ?_; (· exact rfl); (· exact rfl)) | fail
      refine ⟨(S, more), ⟨hC.le 0 hz0, hC.low, fun e => ?_⟩, ?_, ?_⟩
      · dsimp only at e ⊢
        subst e
        exact hC.done
      · dsimp only
        have hc := card_le S
        cases more with
        | true => have := hC.yes rfl; simp only [if_true]; omega
        | false => rw [(hC.no rfl).1]; simp
      exact Cov.ofn (id) rfl (by simp [go_sem, List.take_of_length_le, ren, ren1, ren2, okr, okr1, okr2, ChkT, ChkN, BlkN, nf, grammarC]) (by simp [go_sem, List.take_of_length_le, ren, ren1, ren2, okr, okr1, okr2, ChkT, ChkN, BlkN, nf, grammarC])
  · have h : more0 = false := by simpa using h
    have := hfin h
    subst this
    repeat' first | (refine Holds.condT ?_ ?_; (· (simp [go_sem, List.take_of_length_le, cellsN] <;> with_reducible rfl))) | (refine Holds.condF ?_ ?_; (· (simp [go_sem, List.take_of_length_le, cellsN] <;> with_reducible rfl))) | refine Holds.seq ?_ | refine Holds.skip ?_ | refine Holds.exit ?_ | refine Holds.ret ?_ | refine thenA_normal ?_ | refine thenA_exit ?_ | refine thenA_ret ?_ | refine inB_normal ?_ | refine inB_ret ?_ | refine inB_here ?_ | (refine inB_past ?_ ?_; (· exact rfl)) | refine Holds.reg ?_ | refine Holds.block ?_ | refine GS.nil ?_ | (refine GS.step (s' := ?_) ?_ ?_ ?_; rotate_left; (· exact rfl); (· (simp [go_sem, List.take_of_length_le, cellsN] <;> with_reducible rfl))) | (refine GS.skip ?_ ?_ ?_; (· exact rfl); (· exact rfl)) | fail
    refine Out.mk (xs := ?_) ?_ ?_ (by first | exact .inr rfl | exact .inl rfl)
    rotate_left
    · simp [go_sem, List.take_of_length_le, cellsN] <;> with_reducible rfl
    exact Fz.cl rfl
end Go.Proofs.Ytabdnpgahdbciaa.En
end
section
namespace Go.Proofs.Ytabdnpgahdbciaa.En
open Go.RowKit
set_option linter.unusedSimpArgs false
set_option linter.unusedVariables false
section
attribute [local semireducible] G Gq Holds GS Pure Out Fn OutF
variable {P : Program} {nt : NT} {Q : Exit → AS → Prop} {s s' : AS} {K : AS → Prop} {ops : Array Oper} {o : Oper} {l : List Oper} {i : Nat} {C : Ctx} {a : Act} {w : World} {S : Nat → Prop} {Ow : Owners} {L : Names}
theorem Rep.fz0 {S2 : Nat → Prop} (hle : ∀ k, S k → S2 k) {x y : AV} (hf : Fz [] x y) : ∀ {p : Path} {u : Value} {L1 : Names}, (∀ b q, Ow b = some (p ++ q) → S2 b ∧ b < w.heap.size) → Rep w S Ow L1 p x u → ∀ {p' : Path}, Rep w S2 noOwner noName p' y u := by
  have ext : ∀ {p : Path}, (∀ b q, Ow b = some (p ++ q) → S2 b ∧ b < w.heap.size) → ∀ (e : Path), ∀ b q, Ow b = some (p ++ e ++ q) → S2 b ∧ b < w.heap.size := fun {p} hp e b q hq => by
    rw [List.append_assoc] at hq
    exact hp b (e ++ q) hq
  induction hf with
  | v x => intro p u L1 hp hr p'; obtain ⟨rfl, h1⟩ := hr.v_inv; exact .v _ h1
  | nl sz =>
    intro p u L1 hp hr p'
    obtain ⟨rfl, _⟩ := hr.v_inv
    exact .im sz [] none 0 ⟨0, 0, none⟩ (fun _ _ => undef) (Nat.le_refl 0) (fun hx => absurd rfl hx) (fun hx => absurd rfl hx) (fun j row hj => by simp at hj) (fun j row i y hj => by simp at hj) (fun j row i y hj => by simp at hj)
  | im sz xs =>
    intro p u L1 hp hr p'
    cases hr with
    | im _ _ A c ad us hc ha hS hz hcell hrr =>
      exact (Rep.im sz xs A c ad us hc ha hS hz hcell hrr : Rep w S noOwner noName p' (.im sz xs) _).world (Nat.le_refl _) hle (fun _ _ => rfl) (fun _ _ _ => rfl)
  | pi xs =>
    intro p u L1 hp hr p'
    cases hr with
    | pi _ ad us hS hcell hrr =>
      exact (Rep.pi xs ad us hS hcell hrr : Rep w S noOwner noName p' (.pi xs) _).world (Nat.le_refl _) hle (fun _ _ => rfl) (fun _ _ _ => rfl)
  | ag xs ys hl _ ih =>
    intro p u L1 hp hr p'
    obtain ⟨us, rfl, h1, h2⟩ := hr.ag_inv
    refine .ag ys us (by omega) fun i y u hy hu => ?_
    obtain ⟨x, hx⟩ := get_of_len hl hy
    exact ih i x y hx hy (ext hp _) (h2 i x u hx hu)
  | tu xs ys hl _ ih =>
    intro p u L1 hp hr p'
    obtain ⟨us, rfl, h1, h2⟩ := hr.tu_inv
    refine .tu ys us (by omega) fun i y u hy hu => ?_
    obtain ⟨x, hx⟩ := get_of_len hl hy
    exact ih i x y hx hy (ext hp _) (h2 i x u hx hu)
  | fn g xs ys hl _ ih =>
    intro p u L1 hp hr p'
    obtain ⟨us, rfl, h1, h2⟩ := hr.fn_inv
    refine .fn g ys us (by omega) fun i y u hy hu => ?_
    obtain ⟨x, hx⟩ := get_of_len hl hy
    exact ih i x y hx hy (ext hp _) (h2 i x u hx hu)
  | ow e sz xs ys hl h1 _ ih =>
    intro p u L1 hp hr p'
    cases hr with
    | ow _ _ _ b o cap cs us ho hh hs hc hz hcell hrr =>
      have here := hp b [] (by simpa using ho)
      have e0 : xs.length = ys.length := hl.symm
      rw [e0]
      refine .im sz ys _ cap ⟨b, o * sz, none⟩ us (by omega) (fun _ => rfl) (fun _ => ⟨here.1, here.2, rfl⟩) (fun j row hj => ?_) (fun j row i y hj hi => ?_) (fun j row i y hj hi => ?_)
      · obtain ⟨r, hx⟩ := get_of_len hl hj
        rw [h1 j r row hx hj]; exact hz j r hx
      · obtain ⟨r, hx⟩ := get_of_len hl hj
        obtain ⟨x, hxi⟩ := get_of_len (h1 j r row hx hj) hi
        have := hcell j r i x hx hxi
        rw [cell_of_row w b _ cs e (0, 0) hh, ← this, Nat.add_mul, Nat.add_assoc]
      · obtain ⟨r, hx⟩ := get_of_len hl hj
        obtain ⟨x, hxi⟩ := get_of_len (h1 j r row hx hj) hi
        exact ih j r row i x y hx hj hxi hi (ext hp _) (hrr j r i x hx hxi)
    | ow_nil _ _ A0 =>
      have : ys = [] := List.eq_nil_of_length_eq_zero (by simpa using hl)
      subst this
      exact .im sz [] A0 0 ⟨0, 0, none⟩ (fun _ _ => undef) (Nat.le_refl 0) (fun hx => absurd rfl hx) (fun hx => absurd rfl hx) (fun j row hj => by simp at hj) (fun j row i y hj => by simp at hj) (fun j row i y hj => by simp at hj)
  | own n off len k ys zs hk => cases hk
  | pb n j i k row ys hk => cases hk
def innOw (n : Nat) : Path → Bool
  | (m + 1) :: _ :: _ => m == n
  | _ => false
theorem RelX.inner (h : RelX C s a w S Ow L) {n : Nat} {k k' : Blk} (hk : lb s.bl n = some k) (he : k'.e = k.e) (hz : k'.sz = k.sz) (hl : k'.xs.length = k.xs.length)
    (hr : ∀ (j : Nat) (row row' : List AV), k.xs[j]? = some row → k'.xs[j]? = some row' → row'.length = row.length ∧ ∀ (i : Nat) (x y : AV), row[i]? = some x → row'[i]? = some y → Fz [] x y) : ∃ S' Ow', RelX C { s with bl := st s.bl n k' } a w S' Ow' L := by
  let S' : Nat → Prop := fun b => S b ∨ ∃ p, Ow b = some p ∧ innOw n p = true
  let Ow' : Owners := fun b => (Ow b).bind fun p => if innOw n p = true then none else some p
  have hO : ∀ b p, Ow' b = some p → Ow b = some p := fun b p hb => by
    simp only [Ow', Option.bind_eq_some_iff] at hb
    obtain ⟨p0, h0, h1⟩ := hb
    split at h1
    · cases h1
    · cases h1; exact h0
  have hO2 : ∀ b p, Ow b = some p → innOw n p = false → Ow' b = some p := fun b p hb hn => by simp [Ow', hb, hn]
  have hS : ∀ k, S k → S' k := fun k hk => .inl hk
  have up : ∀ p x u, (∀ q, innOw n (p ++ q) = false) → Rep w S Ow L p x u → Rep w S' Ow' L p x u := fun p x u hp hx =>
    (hx.world (Nat.le_refl _) hS (fun _ _ => rfl) (fun _ _ _ => rfl)).names (fun _ => .inr (.inl rfl)) (fun b q hb => hO2 b _ hb (hp q))
  refine ⟨S', Ow', { fix := h.fix, keep := h.keep, inS := fun k hk => .inl (h.inS k hk), upS := fun k hk => ?_, ltS := fun k hk => ?_, owS := fun k hk => ?_, ow := fun k p hk => h.ow k p (hO k p hk), ow0 := fun k q hk => h.ow0 k q (hO _ _ hk), blk := fun m kk hm => ?_, fresh := h.fresh, named := h.named, freshO := fun k n q hk => h.freshO k n q (hO _ _ hk), slot := fun t y hy => ?_, size := h.size, defers := h.defers }⟩
  · rcases hk with hk | ⟨p, hk, _⟩
    · exact h.upS k hk
    · exact .inr (h.ow k _ hk).1
  · rcases hk with hk | ⟨p, hk, _⟩
    · exact h.ltS k hk
    · exact (h.ow k _ hk).2
  · rcases hk with hk | ⟨p, hk, hp⟩
    · simp [Ow', h.owS k hk]
    · simp [Ow', hk, hp]
  · simp only [lb_st] at hm
    by_cases e : n = m
    · subst e
      rw [if_pos rfl, hk] at hm
      cases hm
      obtain ⟨loc, hL, hB⟩ := h.blk n k hk
      refine ⟨loc, hL, ?_⟩
      match loc, hB with
      | none, hB =>
        have h0 : k.xs.length = 0 := by rw [show k.xs = [] from hB]; rfl
        show k'.xs = []
        exact List.eq_nil_of_length_eq_zero (by omega)
      | some (bb, o, cap), ⟨h1, cs, us, h2, h3, h4, h5, h6, h7⟩ =>
        refine ⟨hO2 _ _ h1 rfl, cs, us, (by show w.heap[bb]? = some (.cells cs k'.e (0, 0)); rw [he]; exact h2), (by show cs.size = (o + cap) * k'.sz; rw [hz]; exact h3), (by show k'.xs.length ≤ cap; omega), fun j row hj => ?_, fun j row i x hj hi => ?_, fun j row i x hj hi => ?_⟩
        · obtain ⟨r, hx⟩ := get_of_len hl hj
          show row.length = k'.sz
          rw [(hr j r row hx hj).1, hz]; exact h5 j r hx
        · obtain ⟨r, hx⟩ := get_of_len hl hj
          obtain ⟨y, hy⟩ := get_of_len (hr j r row hx hj).1 hi
          show cs[(o + j) * k'.sz + i]? = some (us j i)
          rw [hz]; exact h6 j r i y hx hy
        · obtain ⟨r, hx⟩ := get_of_len hl hj
          obtain ⟨y, hy⟩ := get_of_len (hr j r row hx hj).1 hi
          have := (Rep.fz0 (S2 := S') hS ((hr j r row hx hj).2 i y x hy hi) (fun b q hq => ⟨.inr ⟨_, hq, by simp [innOw]⟩, (h.ow b _ hq).2⟩) (h7 j r i y hx hy) : Rep w S' noOwner noName [] x (us j i))
          exact this.any
    · rw [if_neg e] at hm
      obtain ⟨loc, hL, hB⟩ := h.blk m kk hm
      refine ⟨loc, hL, ?_⟩
      cases loc with
      | none => exact hB
      | some p =>
        obtain ⟨h1, cs, us, h2, h3, h4, h5, h6, h7⟩ := hB
        exact ⟨hO2 _ _ h1 rfl, cs, us, h2, h3, h4, h5, h6, fun j row i x hj hi => up _ x _ (fun q => by simp [innOw]; omega) (h7 j row i x hj hi)⟩
  · obtain ⟨u, hu, hR⟩ := h.slot t y hy
    refine ⟨u, hu, hR.world (Nat.le_refl _) hS (fun _ _ => rfl) (fun _ _ _ => rfl) |>.names (fun _ => .inr (.inl rfl)) (fun b q hb => absurd hb (h.ow0 b _))⟩
theorem Cov.inner {q n : Nat} {k k' : Blk} (hk : lb s.bl n = some k) (he : k'.e = k.e) (hz : k'.sz = k.sz) (hl : k'.xs.length = k.xs.length)
    (hr : ∀ (j : Nat) (row row' : List AV), k.xs[j]? = some row → k'.xs[j]? = some row' → row'.length = row.length ∧ ∀ (i : Nat) (x y : AV), row[i]? = some x → row'[i]? = some y → Fz [] x y) : Cov q { s with bl := st s.bl n k' } s := fun _ _ _ _ _ L _ h => by
  obtain ⟨S', Ow', h'⟩ := h.inner hk he hz hl hr
  exact ⟨S', Ow', L, h'⟩
end
end Go.Proofs.Ytabdnpgahdbciaa.En
end
section
namespace Go.Proofs.Ytabdnpgahdbciaa.En
open Go.RowKit
set_option linter.unusedSimpArgs false
set_option linter.unusedVariables false
section
attribute [local semireducible] G Gq Holds GS Pure Out Fn OutF
variable {P : Program} {nt : NT} {Q : Exit → AS → Prop} {s s' : AS} {K : AS → Prop} {ops : Array Oper} {o : Oper} {l : List Oper} {i : Nat} {C : Ctx} {a : Act} {w : World} {S : Nat → Prop} {Ow : Owners} {L : Names}
theorem Gx.cch {ws hs : List Nat} {M : Nat → Bool} {k : Nat} {r : AV} {c : Operand} {aas : Array Operand} {ts : Array TypeId} {f : FuncId} {xs cap ys : List AV} (hp : Pure P f ys r) (hk : kind ws hs k = .h) (hop : o.op = .call ⟨.value c, aas, ts⟩) (hg : gd ops s o = some true) (hd : okd nt.n o.dst = true)
    (hc : ev s c = some (.fn f cap)) (he : aas.toList.mapM (ev s) = some xs) (hy : xs ++ cap = ys) (hcl : ys.all cl = true) (h : Gx P nt ops ws hs M K (k + 1) l (put s o.dst r)) : Gx P nt ops ws hs M K k (o :: l) s := by
  subst hy
  exact .step (by rw [hk]; exact ⟨r, ⟨hd, .inr ⟨hg, .callC (s := hide M s) hop hc he hcl hp⟩⟩, rfl⟩) h
theorem RelX.short (h : RelX C s a w S Ow L) {n m : Nat} {b : Blk} (hb : lb s.bl n = some b) : RelX C { s with bl := st s.bl n { b with xs := b.xs.take m } } a w S Ow L := by
  refine { fix := h.fix, keep := h.keep, inS := h.inS, upS := h.upS, ltS := h.ltS, owS := h.owS, ow := h.ow, ow0 := h.ow0, fresh := h.fresh, named := h.named, freshO := h.freshO, slot := h.slot, size := h.size, defers := h.defers, blk := fun k kk hm => ?_ }
  simp only [lb_st] at hm
  by_cases e : n = k
  · subst e
    rw [if_pos rfl, hb] at hm
    cases hm
    obtain ⟨loc, hL, hB⟩ := h.blk n b hb
    refine ⟨loc, hL, ?_⟩
    have up : ∀ (j : Nat) (row : List AV), (b.xs.take m)[j]? = some row → b.xs[j]? = some row := fun j row hj => by
      rw [List.getElem?_take] at hj
      split at hj
      · exact hj
      · cases hj
    match loc, hB with
    | none, hB =>
      show b.xs.take m = []
      rw [show b.xs = [] from hB]; simp
    | some (bb, o, cap), ⟨h1, cs, us, h2, h3, h4, h5, h6, h7⟩ =>
      exact ⟨h1, cs, us, h2, h3, (by show (b.xs.take m).length ≤ cap; rw [List.length_take]; omega), fun j row hj => h5 j row (up j row hj), fun j row i x hj hi => h6 j row i x (up j row hj) hi, fun j row i x hj hi => h7 j row i x (up j row hj) hi⟩
  · rw [if_neg e] at hm
    exact h.blk k kk hm
theorem RelX.clr (h : RelX C s a w S Ow L) {n m : Nat} {b : Blk} (hb : lb s.bl n = some b) (hm : m ≤ b.xs.length) {b' o' cap : Nat} (hL : L n = .at (some (b', o', cap))) (vs : List Value) (hv : m * b.sz + vs.length ≤ cap * b.sz) (h1 : ∀ v ∈ vs, v.oneCell' = true) :
    ∃ w', (storeCells ⟨b', (o' + m) * b.sz, none⟩ vs).run P w = .ok () w' ∧ RelX C { s with bl := st s.bl n { b with xs := b.xs.take m } } a w' S Ow L := by
  obtain ⟨loc, hl', hB⟩ := h.blk n b hb
  rw [hL] at hl'
  cases hl'
  obtain ⟨hob, cs, us, hh, hcs, hxs, hz, hcell, hrep⟩ := hB
  have hroom : (o' + m) * b.sz + vs.length ≤ cs.size := by
    rw [hcs, Nat.add_mul, Nat.add_mul]; omega
  have hrun := run_storeCells_at (P := P) b' ((o' + m) * b.sz) b.e vs 0 cs w hh (by omega) h1
  simp only [Nat.add_zero] at hrun
  refine ⟨_, hrun, ?_⟩
  have up : ∀ (j : Nat) (row : List AV), (b.xs.take m)[j]? = some row → j < m ∧ b.xs[j]? = some row := fun j row hj => by
    rw [List.getElem?_take] at hj
    split at hj
    · exact ⟨by assumption, hj⟩
    · cases hj
  refine h.write n b _ b' o' cap hL hb _ rfl rfl rfl (by simp) (fun c hc => setRow_other w b' c _ hc) (fun _ mv => ?_)
  refine ⟨hob, _, us, setRow_heap w b' cs _ b.e (0, 0) hh, ?_, ?_, ?_, ?_, ?_⟩
  · simp; omega
  · show (b.xs.take m).length ≤ cap
    rw [List.length_take]; omega
  · intro j row hj
    exact hz j row (up j row hj).2
  · intro j row i x hj hi
    obtain ⟨hjm, hj⟩ := up j row hj
    have hi2 : i < b.sz := by have := (List.getElem?_eq_some_iff.1 hi).1; rw [hz j row hj] at this; exact this
    have hlt : (o' + j) * b.sz + i < (o' + m) * b.sz := by
      have := Nat.mul_le_mul_right b.sz (show o' + j + 1 ≤ o' + m by omega)
      rw [Nat.add_mul, Nat.one_mul] at this; omega
    dsimp only
    rw [cut_get _ _ _ (by simpa using hroom), if_neg (by omega)]
    have := hcell j row i x hj hi
    simpa using this
  · intro j row i x hj hi
    obtain ⟨hjm, hj⟩ := up j row hj
    exact mv _ x _ (fun q hq => by rw [hob] at hq; simp at hq) (hrep j row i x hj hi)
theorem GS.clr {x : Operand} {t e : TypeId} {z : List AV} {ii : TI} {n sz off len : Nat} {b : Blk} {s1 : AS} (hop : o.op = .call ⟨.builtin .clear, #[x], #[t]⟩) (hg : gd ops s o = some true) (hd : okd nt.n o.dst = true) (hx : ev s x = some (.own n sz off len)) (he : elT P t = some e) (hz : zc P e = some z) (hi : ti P e = some ii)
    (hb : lb s.bl n = some b) (hsz : b.sz = sz) (hii : ii.sz = sz) (hoff : off ≤ b.xs.length) (hs1 : put { s with bl := st s.bl n { b with xs := b.xs.take off } } o.dst (.tu []) = s1) (h : GS P nt ops K l (i + 1) s1) : GS P nt ops K (o :: l) i s := by
  subst hs1
  refine GS.cons (fun ho r hr => ?_) h
  intro C a w S Ow L Q hn hR hQ
  subst hn
  simp only [wpOps, ho, gd_sound hR hg, if_true]
  left
  have hu := ev_rep hR hx
  have ht := elT_run he
  have fin : ∀ w', (Builtin.clear_ #[t] o.type #[a.eval x]).run P w = .ok (.tuple #[]) w' → RelX C { s with bl := st s.bl n { b with xs := b.xs.take off } } a w' S Ow L → Oper.wp P o a w (wpOps P ops Q r) Q := fun w' hrun hX => by
    have hexec : (execOp a.eval o).run P w = .ok (.value (.tuple #[])) w' := by
      unfold execOp
      simp [hop, resolve, invoke, builtin, hrun]
    unfold Oper.wp
    rw [hexec]
    exact hr C _ _ _ _ _ Q rfl (hX.put o.dst hd (.tu [] [] rfl (fun i x u hx hu => by simp at hx))) hQ
  have same : ∀ A c, a.eval x = .slice A 0 c → Oper.wp P o a w (wpOps P ops Q r) Q := fun A c hA => by
    refine fin w ?_ (hR.short hb)
    cases A <;> simp [Builtin.clear_, run_underlying ht, hA]
  rcases own_inv hu with ⟨bb, oo, cap, hL, hle, hv⟩ | ⟨bb, oo, cap, ad, hL, _, _, hv⟩ | ⟨hL, _, _, A, hv⟩ | hgone
  · by_cases h0 : len = 0
    · subst h0; exact same _ _ hv
    · obtain ⟨v, hzv, hvs, hzz, hv1⟩ := zc_run (w := w) hz hi
      obtain ⟨m, hm⟩ : ∃ m, len = m + 1 := ⟨len - 1, by omega⟩
      have hlen : (Builtin.zeroCells v.cells len).toList.length = len * sz := by simp [Builtin.zeroCells, hvs, hii]
      have hone : ∀ y ∈ (Builtin.zeroCells v.cells len).toList, y.oneCell' = true := fun y hy => by
        simp only [Builtin.zeroCells, Array.toList_map, Array.toList_range, List.mem_map, List.mem_range] at hy
        obtain ⟨q, hq, rfl⟩ := hy
        have hp : 0 < v.cells.size := by
          rcases Nat.eq_zero_or_pos v.cells.size with g | g
          · rw [g] at hq; simp at hq
          · exact g
        have hq2 : q % v.cells.size < v.cells.size := Nat.mod_lt _ hp
        rw [getElem!_pos v.cells _ hq2]
        exact hv1 _ (by simp)
      obtain ⟨w', hrun, hX⟩ := hR.clr (P := P) (m := off) hb hoff hL (Builtin.zeroCells v.cells len).toList (by rw [hlen, hsz, ← Nat.add_mul]; exact Nat.mul_le_mul_right _ hle) hone
      refine fin w' ?_ hX
      rw [hsz] at hrun
      subst hm
      simp [Builtin.clear_, run_underlying ht, hv, hzv, hrun]
  · exact same _ _ hv
  · exact same _ _ hv
  · obtain ⟨loc, hl, _⟩ := hR.blk n b hb
    rw [hgone] at hl; cases hl
end
end Go.Proofs.Ytabdnpgahdbciaa.En
end
section
namespace Go.Proofs.Ytabdnpgahdbciaa.En
open Go.RowKit
set_option linter.unusedSimpArgs false
set_option linter.unusedVariables false
set_option maxHeartbeats 4000000
structure DelI {α : Type} (p : α → Bool) (xs L : List α) (i j : Nat) : Prop where
  ln : L.length = xs.length
  ij : i < j
  jl : j ≤ xs.length
  tk : L.take i = (xs.take j).filter fun x => !p x
  dr : L.drop j = xs.drop j
theorem take_all {α : Type} {p : α → Bool} {xs : List α} (h : ∀ (j : Nat) (x : α), xs[j]? = some x → p x = false) : (xs.filter fun x => !p x) = xs := by
  rw [List.filter_eq_self]
  intro x hx
  obtain ⟨j, hj⟩ := List.mem_iff_getElem?.1 hx
  simp [h j x hj]
theorem fstP_cases {α : Type} (p : α → Bool) (xs : List α) : (fstP p xs 0 = -1 ∧ (xs.filter fun x => !p x) = xs) ∨ ∃ k : Nat, fstP p xs 0 = (k : Int) ∧ DelI p xs xs k (k + 1) := by
  by_cases h : ∀ (j : Nat) (x : α), xs[j]? = some x → p x = false
  · exact .inl ⟨fstP_no xs 0 h, take_all h⟩
  · right
    have : ∃ (j : Nat) (x : α), xs[j]? = some x ∧ p x = true := by
      refine Classical.byContradiction fun hn => h fun j x hj => ?_
      cases hp : p x with
      | false => rfl
      | true => exact absurd ⟨j, x, hj, hp⟩ hn
    obtain ⟨j0, x0, hj0, hp0⟩ := this
    have hleast : ∃ k : Nat, (∃ x : α, xs[k]? = some x ∧ p x = true) ∧ ∀ j : Nat, j < k → ¬ ∃ x : α, xs[j]? = some x ∧ p x = true := by
      have : ∀ n : Nat, (∃ x : α, xs[n]? = some x ∧ p x = true) → ∃ k : Nat, (∃ x : α, xs[k]? = some x ∧ p x = true) ∧ ∀ j : Nat, j < k → ¬ ∃ x : α, xs[j]? = some x ∧ p x = true := by
        intro n
        induction n using Nat.strongRecOn with
        | _ n ih =>
          intro hn
          by_cases hl : ∃ j : Nat, j < n ∧ ∃ x : α, xs[j]? = some x ∧ p x = true
          · obtain ⟨j, hj, hx⟩ := hl; exact ih j hj hx
          · exact ⟨n, hn, fun j hj hx => hl ⟨j, hj, hx⟩⟩
      exact this j0 ⟨x0, hj0, hp0⟩
    obtain ⟨k, ⟨x, hk, hp⟩, hno⟩ := hleast
    have hno' : ∀ j, j < k → ∀ y, xs[j]? = some y → p y = false := fun j hj y hy => by
      cases hq : p y with
      | false => rfl
      | true => exact absurd ⟨y, hy, hq⟩ (hno j hj)
    have hlt := (List.getElem?_eq_some_iff.1 hk).1
    refine ⟨k, by rw [fstP_at xs k 0 hk hp hno', Nat.zero_add], rfl, by omega, by omega, ?_, rfl⟩
    rw [List.take_add_one, hk, List.filter_append]
    have h1 : ((xs.take k).filter fun x => !p x) = xs.take k := take_all fun j y hy => by
      rw [List.getElem?_take] at hy
      split at hy
      · exact hno' j (by assumption) y hy
      · cases hy
    rw [h1]
    simp [hp]
theorem DelI.at_ {α : Type} {p : α → Bool} {xs L : List α} {i j : Nat} (h : DelI p xs L i j) : L[j]? = xs[j]? := by
  have := congrArg (fun l => l[0]?) h.dr
  simpa [List.getElem?_drop] using this
theorem drop_more {α : Type} {xs L : List α} {j : Nat} (h : L.drop j = xs.drop j) : L.drop (j + 1) = xs.drop (j + 1) := by
  rw [← List.drop_drop, ← List.drop_drop, h]
theorem DelI.skip {α : Type} {p : α → Bool} {xs L : List α} {i j : Nat} (h : DelI p xs L i j) {x : α} (hx : xs[j]? = some x) (hp : p x = true) : DelI p xs L i (j + 1) :=
  ⟨h.ln, by have := h.ij; omega, (List.getElem?_eq_some_iff.1 hx).1, by rw [List.take_add_one, hx, List.filter_append, ← h.tk]; simp [hp], drop_more h.dr⟩
theorem DelI.keep {α : Type} {p : α → Bool} {xs L : List α} {i j : Nat} (h : DelI p xs L i j) {x : α} (hx : xs[j]? = some x) (hp : p x = false) : DelI p xs (L.set i x) (i + 1) (j + 1) := by
  have hj := (List.getElem?_eq_some_iff.1 hx).1
  have hi : i < L.length := by have := h.ij; have := h.ln; omega
  refine ⟨by rw [List.length_set]; exact h.ln, by have := h.ij; omega, hj, ?_, ?_⟩
  · rw [List.take_add_one, List.getElem?_set_self hi, List.take_set_of_le (Nat.le_refl i), h.tk, List.take_add_one, hx, List.filter_append]
    simp [hp]
  · rw [List.drop_set_of_lt (by have := h.ij; omega), drop_more h.dr]
theorem DelI.fin {α : Type} {p : α → Bool} {xs L : List α} {i : Nat} (h : DelI p xs L i xs.length) : L.take i = xs.filter fun x => !p x := by
  rw [h.tk, List.take_length]
theorem rules_take (l : List RuleT) (n : Nat) : (rules l).take n = rules (l.take n) := by simp [rules, List.map_take]
theorem rules_set (l : List RuleT) (n : Nat) (r : RuleT) : (rules l).set n [.v (.int .i64 r.1), .im 1 (ints r.2)] = rules (l.set n r) := by simp [rules, ruleC, List.map_set]
theorem deleteRules1 (R M : Int → Bool) (p : RuleT → Bool) (xs : List RuleT) (hx : xs.length < 1000000) (hg : ∀ x ∈ xs, Pure Try.prog 73 [.ag (ruleC x), .pi (cellsN R), .pi (cellsN M)] (.v (.bool (p x)))) : Fn Try.prog 72 2 [.own 0 2 0 xs.length, .fn 73 [.pb 1 6 0 0, .pi (cellsN M)]] [(0, ⟨60, 2, rules xs⟩), (1, ⟨89, 6, [cellsN R]⟩)]
    (.own 0 2 0 (xs.filter fun x => !p x).length) 2 [(0, ⟨60, 2, rules (xs.filter fun x => !p x)⟩), (1, ⟨89, 6, [cellsN R]⟩)] := by
  have ci := indexFuncRule 73 [.pi (cellsN R), .pi (cellsN M)] p xs (by omega) rfl hg
  refine Fn.mk (rs := [.tmp 4]) (nt := 42) Try.func72 (by kernel_rfl) rfl rfl rfl (by simp) ?_
  simp only [sl]
  repeat' first | (refine Holds.condT ?_ ?_; (· (simp [go_sem, List.take_of_length_le] <;> with_reducible rfl))) | (refine Holds.condF ?_ ?_; (· (simp [go_sem, List.take_of_length_le] <;> with_reducible rfl))) | refine Holds.seq ?_ | refine Holds.skip ?_ | refine Holds.exit ?_ | refine Holds.ret ?_ | refine thenA_normal ?_ | refine thenA_exit ?_ | refine thenA_ret ?_ | refine inB_normal ?_ | refine inB_ret ?_ | refine inB_here ?_ | (refine inB_past ?_ ?_; (· exact rfl)) | refine Holds.reg ?_ | refine Holds.block ?_ | refine GS.nil ?_ | (refine GS.step (s' := ?_) ?_ ?_ ?_; rotate_left; (· exact rfl); (· (simp [go_sem, List.take_of_length_le] <;> with_reducible rfl))) | (refine GS.skip ?_ ?_ ?_; (· exact rfl); (· exact rfl)) | fail
  refine GS.cd (ci) rfl rfl rfl rfl (by simp [go_sem, List.take_of_length_le] <;> with_reducible rfl) rfl (by exact .cons (Fz.all rfl rfl (by simp) rfl (rules_ok _)) (.cons (Fz.fnL (.cons (Fz.box rfl rfl rfl rfl) (.cons (.pi _) .nil))) .nil)) rfl ?_
  repeat' first | (refine Holds.condT ?_ ?_; (· (simp [go_sem, List.take_of_length_le] <;> with_reducible rfl))) | (refine Holds.condF ?_ ?_; (· (simp [go_sem, List.take_of_length_le] <;> with_reducible rfl))) | refine Holds.seq ?_ | refine Holds.skip ?_ | refine Holds.exit ?_ | refine Holds.ret ?_ | refine thenA_normal ?_ | refine thenA_exit ?_ | refine thenA_ret ?_ | refine inB_normal ?_ | refine inB_ret ?_ | refine inB_here ?_ | (refine inB_past ?_ ?_; (· exact rfl)) | refine Holds.reg ?_ | refine Holds.block ?_ | refine GS.nil ?_ | (refine GS.step (s' := ?_) ?_ ?_ ?_; rotate_left; (· exact rfl); (· (simp [go_sem, List.take_of_length_le] <;> with_reducible rfl))) | (refine GS.skip ?_ ?_ ?_; (· exact rfl); (· exact rfl)) | fail
  rcases fstP_cases p xs with ⟨h1, h2⟩ | ⟨k, h1, hD⟩
  · rw [h1, h2]
    repeat' first | (refine Holds.condT ?_ ?_; (· (simp [go_sem, List.take_of_length_le] <;> with_reducible rfl))) | (refine Holds.condF ?_ ?_; (· (simp [go_sem, List.take_of_length_le] <;> with_reducible rfl))) | refine Holds.seq ?_ | refine Holds.skip ?_ | refine Holds.exit ?_ | refine Holds.ret ?_ | refine thenA_normal ?_ | refine thenA_exit ?_ | refine thenA_ret ?_ | refine inB_normal ?_ | refine inB_ret ?_ | refine inB_here ?_ | (refine inB_past ?_ ?_; (· exact rfl)) | refine Holds.reg ?_ | refine Holds.block ?_ | refine GS.nil ?_ | (refine GS.step (s' := ?_) ?_ ?_ ?_; rotate_left; (· exact rfl); (· (simp [go_sem, List.take_of_length_le] <;> with_reducible rfl))) | (refine GS.skip ?_ ?_ ?_; (· exact rfl); (· exact rfl)) | fail
    refine OutF.mkn (xs := ?_) (nm [0, 1]) ?_ ?_ ?_ ?_ ?_ (by first | exact .inr rfl | exact .inl rfl)
    rotate_left
    · simp [go_sem, List.take_of_length_le, cellsN] <;> with_reducible rfl
    · simp [go_sem, List.take_of_length_le, ren, ren1, ren2, okr, okr1, okr2, ChkN, BlkN, List.range_succ, nf, cellsN]
    · simp [go_sem, List.take_of_length_le, ren, ren1, ren2, okr, okr1, okr2, ChkN, BlkN, List.range_succ, nf, cellsN]
    · simp [go_sem, List.take_of_length_le, ren, ren1, ren2, okr, okr1, okr2, ChkN, BlkN, List.range_succ, nf, cellsN]
    · rfl
  · rw [h1]
    have hk1 : ((k : Int) == -1) = false := by rw [beq_eq_false_iff_ne]; omega
    have hk2 : ¬ (k : Int) = -1 := by omega
    have stepk : wr64 ((k : Int) + 1) = ((k + 1 : Nat) : Int) := wr64_id (by have := hD.jl; omega) (by have := hD.jl; omega)
    repeat' first | (refine Holds.condT ?_ ?_; (· (simp [go_sem, List.take_of_length_le, hk1, hk2, stepk] <;> with_reducible rfl))) | (refine Holds.condF ?_ ?_; (· (simp [go_sem, List.take_of_length_le, hk1, hk2, stepk] <;> with_reducible rfl))) | refine Holds.seq ?_ | refine Holds.skip ?_ | refine Holds.exit ?_ | refine Holds.ret ?_ | refine thenA_normal ?_ | refine thenA_exit ?_ | refine thenA_ret ?_ | refine inB_normal ?_ | refine inB_ret ?_ | refine inB_here ?_ | (refine inB_past ?_ ?_; (· exact rfl)) | refine Holds.reg ?_ | refine Holds.block ?_ | refine GS.nil ?_ | (refine GS.step (s' := ?_) ?_ ?_ ?_; rotate_left; (· exact rfl); (· (simp [go_sem, List.take_of_length_le, hk1, hk2, stepk] <;> with_reducible rfl))) | (refine GS.skip ?_ ?_ ?_; (· exact rfl); (· exact rfl)) | fail
    refine Holds.loop (ι := Nat × Nat × List RuleT) (fun i => ⟨[(0, .own 0 2 0 xs.length), (1, .fn 73 [.pb 1 6 0 0, .pi (cellsN M)]), (5, .v (.int .i64 i.1)), (6, .v (.int .i64 i.2.1))], [(0, ⟨60, 2, rules i.2.2⟩), (1, ⟨89, 6, [cellsN R]⟩)], 2⟩)
      (fun i => DelI p xs i.2.2 i.1 i.2.1) (fun i => xs.length - i.2.1) (k, k + 1, xs) hD ?_ ?_
    · exact Cov.ofn (id) rfl (by simp [go_sem, List.take_of_length_le, ren, ren1, ren2, okr, okr1, okr2, ChkT, ChkN, BlkN, nf, cellsN]) (by simp [go_sem, List.take_of_length_le, ren, ren1, ren2, okr, okr1, okr2, ChkT, ChkN, BlkN, nf, cellsN])
    clear hD h1 hk1 hk2 stepk
    rintro ⟨i, j, L⟩ hD
    dsimp only at hD ⊢
    have hij := hD.ij
    have hjl := hD.jl
    have hln := hD.ln
    have stepi : wr64 ((i : Int) + 1) = ((i + 1 : Nat) : Int) := wr64_id (by omega) (by omega)
    have stepj : wr64 ((j : Int) + 1) = ((j + 1 : Nat) : Int) := wr64_id (by omega) (by omega)
    repeat' first | (refine Holds.condT ?_ ?_; (· (simp [go_sem, List.take_of_length_le] <;> with_reducible rfl))) | (refine Holds.condF ?_ ?_; (· (simp [go_sem, List.take_of_length_le] <;> with_reducible rfl))) | refine Holds.seq ?_ | refine Holds.skip ?_ | refine Holds.exit ?_ | refine Holds.ret ?_ | refine thenA_normal ?_ | refine thenA_exit ?_ | refine thenA_ret ?_ | refine inB_normal ?_ | refine inB_ret ?_ | refine inB_here ?_ | (refine inB_past ?_ ?_; (· exact rfl)) | refine Holds.reg ?_ | refine Holds.block ?_ | refine GS.nil ?_ | (refine GS.step (s' := ?_) ?_ ?_ ?_; rotate_left; (· exact rfl); (· (simp [go_sem, List.take_of_length_le] <;> with_reducible rfl))) | (refine GS.skip ?_ ?_ ?_; (· exact rfl); (· exact rfl)) | fail
    refine Holds.cond rfl (fun h => ?_) (fun h => ?_)
    · have hlt : j < xs.length := by simpa using h
      have hxj : xs[j]? = some xs[j] := List.getElem?_eq_getElem hlt
      have hgj := hg _ (List.getElem_mem hlt)
      generalize xs[j] = x at hxj hgj
      have hLj : L[j]? = some x := hD.at_.trans hxj
      have hlL : j < L.length := by omega
      have hiL : i < L.length := by omega
      have hix : i < xs.length := by omega
      repeat' first | (refine Holds.condT ?_ ?_; (· (simp [go_sem, List.take_of_length_le, get_E hLj, hLj, hlt, hlL, ruleC] <;> with_reducible rfl))) | (refine Holds.condF ?_ ?_; (· (simp [go_sem, List.take_of_length_le, get_E hLj, hLj, hlt, hlL, ruleC] <;> with_reducible rfl))) | refine Holds.seq ?_ | refine Holds.skip ?_ | refine Holds.exit ?_ | refine Holds.ret ?_ | refine thenA_normal ?_ | refine thenA_exit ?_ | refine thenA_ret ?_ | refine inB_normal ?_ | refine inB_ret ?_ | refine inB_here ?_ | (refine inB_past ?_ ?_; (· exact rfl)) | refine Holds.reg ?_ | refine Holds.block ?_ | refine GS.nil ?_ | (refine GS.step (s' := ?_) ?_ ?_ ?_; rotate_left; (· exact rfl); (· (simp [go_sem, List.take_of_length_le, get_E hLj, hLj, hlt, hlL, ruleC] <;> with_reducible rfl))) | (refine GS.skip ?_ ?_ ?_; (· exact rfl); (· exact rfl)) | fail
      refine GS.cd (hgj) rfl rfl rfl rfl (by simp [go_sem, List.take_of_length_le, ruleC] <;> with_reducible rfl) rfl (by exact .cons (Fz.cl rfl) (.cons (Fz.box rfl rfl rfl rfl) (.cons (.pi _) .nil))) rfl ?_
      repeat' first | (refine Holds.condT ?_ ?_; (· (simp [go_sem, List.take_of_length_le] <;> with_reducible rfl))) | (refine Holds.condF ?_ ?_; (· (simp [go_sem, List.take_of_length_le] <;> with_reducible rfl))) | refine Holds.seq ?_ | refine Holds.skip ?_ | refine Holds.exit ?_ | refine Holds.ret ?_ | refine thenA_normal ?_ | refine thenA_exit ?_ | refine thenA_ret ?_ | refine inB_normal ?_ | refine inB_ret ?_ | refine inB_here ?_ | (refine inB_past ?_ ?_; (· exact rfl)) | refine Holds.reg ?_ | refine Holds.block ?_ | refine GS.nil ?_ | (refine GS.step (s' := ?_) ?_ ?_ ?_; rotate_left; (· exact rfl); (· (simp [go_sem, List.take_of_length_le] <;> with_reducible rfl))) | (refine GS.skip ?_ ?_ ?_; (· exact rfl); (· exact rfl)) | fail
      cases hp : p x with
      | false =>
        repeat' first | (refine Holds.condT ?_ ?_; (· (simp [go_sem, List.take_of_length_le, hiL, hix, rules_set, ruleC, stepi] <;> with_reducible rfl))) | (refine Holds.condF ?_ ?_; (· (simp [go_sem, List.take_of_length_le, hiL, hix, rules_set, ruleC, stepi] <;> with_reducible rfl))) | refine Holds.seq ?_ | refine Holds.skip ?_ | refine Holds.exit ?_ | refine Holds.ret ?_ | refine thenA_normal ?_ | refine thenA_exit ?_ | refine thenA_ret ?_ | refine inB_normal ?_ | refine inB_ret ?_ | refine inB_here ?_ | (refine inB_past ?_ ?_; (· exact rfl)) | refine Holds.reg ?_ | refine Holds.block ?_ | refine GS.nil ?_ | (refine GS.step (s' := ?_) ?_ ?_ ?_; rotate_left; (· exact rfl); (· (simp [go_sem, List.take_of_length_le, hiL, hix, rules_set, ruleC, stepi] <;> with_reducible rfl))) | (refine GS.skip ?_ ?_ ?_; (· exact rfl); (· exact rfl)) | fail
        refine ⟨(i + 1, j + 1, L.set i x), hD.keep hxj hp, by dsimp only; omega, ?_⟩
        rw [stepj]
        exact Cov.ofn (id) rfl (by simp [go_sem, List.take_of_length_le, ren, ren1, ren2, okr, okr1, okr2, ChkT, ChkN, BlkN, nf, cellsN, ruleC, rules_set]) (by simp [go_sem, List.take_of_length_le, ren, ren1, ren2, okr, okr1, okr2, ChkT, ChkN, BlkN, nf, cellsN, ruleC, rules_set])
      | true =>
        repeat' first | (refine Holds.condT ?_ ?_; (· (simp [go_sem, List.take_of_length_le] <;> with_reducible rfl))) | (refine Holds.condF ?_ ?_; (· (simp [go_sem, List.take_of_length_le] <;> with_reducible rfl))) | refine Holds.seq ?_ | refine Holds.skip ?_ | refine Holds.exit ?_ | refine Holds.ret ?_ | refine thenA_normal ?_ | refine thenA_exit ?_ | refine thenA_ret ?_ | refine inB_normal ?_ | refine inB_ret ?_ | refine inB_here ?_ | (refine inB_past ?_ ?_; (· exact rfl)) | refine Holds.reg ?_ | refine Holds.block ?_ | refine GS.nil ?_ | (refine GS.step (s' := ?_) ?_ ?_ ?_; rotate_left; (· exact rfl); (· (simp [go_sem, List.take_of_length_le] <;> with_reducible rfl))) | (refine GS.skip ?_ ?_ ?_; (· exact rfl); (· exact rfl)) | fail
        refine ⟨(i, j + 1, L), hD.skip hxj hp, by dsimp only; omega, ?_⟩
        rw [stepj]
        exact Cov.ofn (id) rfl (by simp [go_sem, List.take_of_length_le, ren, ren1, ren2, okr, okr1, okr2, ChkT, ChkN, BlkN, nf, cellsN]) (by simp [go_sem, List.take_of_length_le, ren, ren1, ren2, okr, okr1, okr2, ChkT, ChkN, BlkN, nf, cellsN])
    · have hje : j = xs.length := by simp at h; omega
      subst hje
      have hfin := hD.fin
      have hi2 : i ≤ xs.length := by omega
      have hiL : i ≤ L.length := by omega
      have hfl : (xs.filter fun x => !p x).length = i := by rw [← hfin, List.length_take]; omega
      rw [hfl, ← hfin]
      repeat' first | (refine Holds.condT ?_ ?_; (· (simp [go_sem, List.take_of_length_le, hi2, hiL] <;> with_reducible rfl))) | (refine Holds.condF ?_ ?_; (· (simp [go_sem, List.take_of_length_le, hi2, hiL] <;> with_reducible rfl))) | refine Holds.seq ?_ | refine Holds.skip ?_ | refine Holds.exit ?_ | refine Holds.ret ?_ | refine thenA_normal ?_ | refine thenA_exit ?_ | refine thenA_ret ?_ | refine inB_normal ?_ | refine inB_ret ?_ | refine inB_here ?_ | (refine inB_past ?_ ?_; (· exact rfl)) | refine Holds.reg ?_ | refine Holds.block ?_ | refine GS.nil ?_ | (refine GS.step (s' := ?_) ?_ ?_ ?_; rotate_left; (· exact rfl); (· (simp [go_sem, List.take_of_length_le, hi2, hiL] <;> with_reducible rfl))) | (refine GS.skip ?_ ?_ ?_; (· exact rfl); (· exact rfl)) | fail
      refine GS.clr (e := 60) (s1 := ?_) rfl rfl rfl rfl (by simp [go_sem]) zc60 ti60 rfl rfl rfl (by simp; omega) ?_ ?_
      rotate_left
      · simp [go_sem, rules_take] <;> with_reducible rfl
      repeat' first | (refine Holds.condT ?_ ?_; (· (simp [go_sem, List.take_of_length_le, hi2] <;> with_reducible rfl))) | (refine Holds.condF ?_ ?_; (· (simp [go_sem, List.take_of_length_le, hi2] <;> with_reducible rfl))) | refine Holds.seq ?_ | refine Holds.skip ?_ | refine Holds.exit ?_ | refine Holds.ret ?_ | refine thenA_normal ?_ | refine thenA_exit ?_ | refine thenA_ret ?_ | refine inB_normal ?_ | refine inB_ret ?_ | refine inB_here ?_ | (refine inB_past ?_ ?_; (· exact rfl)) | refine Holds.reg ?_ | refine Holds.block ?_ | refine GS.nil ?_ | (refine GS.step (s' := ?_) ?_ ?_ ?_; rotate_left; (· exact rfl); (· (simp [go_sem, List.take_of_length_le, hi2] <;> with_reducible rfl))) | (refine GS.skip ?_ ?_ ?_; (· exact rfl); (· exact rfl)) | fail
      refine OutF.mkn (xs := ?_) (nm [0, 1]) ?_ ?_ ?_ ?_ ?_ (by first | exact .inr rfl | exact .inl rfl)
      rotate_left
      · simp [go_sem, List.take_of_length_le, cellsN] <;> with_reducible rfl
      · simp [go_sem, List.take_of_length_le, ren, ren1, ren2, okr, okr1, okr2, ChkN, BlkN, List.range_succ, nf, cellsN]
      · simp [go_sem, List.take_of_length_le, ren, ren1, ren2, okr, okr1, okr2, ChkN, BlkN, List.range_succ, nf, cellsN]
      · simp [go_sem, List.take_of_length_le, ren, ren1, ren2, okr, okr1, okr2, ChkN, BlkN, List.range_succ, nf, cellsN]
      · rfl
theorem deleteRules2 (R : Int → Bool) (p : RuleT → Bool) (xs : List RuleT) (hx : xs.length < 1000000) (hg : ∀ x ∈ xs, Pure Try.prog 75 [.ag (ruleC x), .pi (cellsN R)] (.v (.bool (p x)))) : Fn Try.prog 72 2 [.own 0 2 0 xs.length, .fn 75 [.pb 1 6 0 0]] [(0, ⟨60, 2, rules xs⟩), (1, ⟨89, 6, [cellsN R]⟩)]
    (.own 0 2 0 (xs.filter fun x => !p x).length) 2 [(0, ⟨60, 2, rules (xs.filter fun x => !p x)⟩), (1, ⟨89, 6, [cellsN R]⟩)] := by
  have ci := indexFuncRule 75 [.pi (cellsN R)] p xs (by omega) rfl hg
  refine Fn.mk (rs := [.tmp 4]) (nt := 42) Try.func72 (by kernel_rfl) rfl rfl rfl (by simp) ?_
  simp only [sl]
  repeat' first | (refine Holds.condT ?_ ?_; (· (simp [go_sem, List.take_of_length_le] <;> with_reducible rfl))) | (refine Holds.condF ?_ ?_; (· (simp [go_sem, List.take_of_length_le] <;> with_reducible rfl))) | refine Holds.seq ?_ | refine Holds.skip ?_ | refine Holds.exit ?_ | refine Holds.ret ?_ | refine thenA_normal ?_ | refine thenA_exit ?_ | refine thenA_ret ?_ | refine inB_normal ?_ | refine inB_ret ?_ | refine inB_here ?_ | (refine inB_past ?_ ?_; (· exact rfl)) | refine Holds.reg ?_ | refine Holds.block ?_ | refine GS.nil ?_ | (refine GS.step (s' := ?_) ?_ ?_ ?_; rotate_left; (· exact rfl); (· (simp [go_sem, List.take_of_length_le] <;> with_reducible rfl))) | (refine GS.skip ?_ ?_ ?_; (· exact rfl); (· exact rfl)) | fail
  refine GS.cd (ci) rfl rfl rfl rfl (by simp [go_sem, List.take_of_length_le] <;> with_reducible rfl) rfl (by exact .cons (Fz.all rfl rfl (by simp) rfl (rules_ok _)) (.cons (Fz.fnL (.cons (Fz.box rfl rfl rfl rfl) .nil)) .nil)) rfl ?_
  repeat' first | (refine Holds.condT ?_ ?_; (· (simp [go_sem, List.take_of_length_le] <;> with_reducible rfl))) | (refine Holds.condF ?_ ?_; (· (simp [go_sem, List.take_of_length_le] <;> with_reducible rfl))) | refine Holds.seq ?_ | refine Holds.skip ?_ | refine Holds.exit ?_ | refine Holds.ret ?_ | refine thenA_normal ?_ | refine thenA_exit ?_ | refine thenA_ret ?_ | refine inB_normal ?_ | refine inB_ret ?_ | refine inB_here ?_ | (refine inB_past ?_ ?_; (· exact rfl)) | refine Holds.reg ?_ | refine Holds.block ?_ | refine GS.nil ?_ | (refine GS.step (s' := ?_) ?_ ?_ ?_; rotate_left; (· exact rfl); (· (simp [go_sem, List.take_of_length_le] <;> with_reducible rfl))) | (refine GS.skip ?_ ?_ ?_; (· exact rfl); (· exact rfl)) | fail
  rcases fstP_cases p xs with ⟨h1, h2⟩ | ⟨k, h1, hD⟩
  · rw [h1, h2]
    repeat' first | (refine Holds.condT ?_ ?_; (· (simp [go_sem, List.take_of_length_le] <;> with_reducible rfl))) | (refine Holds.condF ?_ ?_; (· (simp [go_sem, List.take_of_length_le] <;> with_reducible rfl))) | refine Holds.seq ?_ | refine Holds.skip ?_ | refine Holds.exit ?_ | refine Holds.ret ?_ | refine thenA_normal ?_ | refine thenA_exit ?_ | refine thenA_ret ?_ | refine inB_normal ?_ | refine inB_ret ?_ | refine inB_here ?_ | (refine inB_past ?_ ?_; (· exact rfl)) | refine Holds.reg ?_ | refine Holds.block ?_ | refine GS.nil ?_ | (refine GS.step (s' := ?_) ?_ ?_ ?_; rotate_left; (· exact rfl); (· (simp [go_sem, List.take_of_length_le] <;> with_reducible rfl))) | (refine GS.skip ?_ ?_ ?_; (· exact rfl); (· exact rfl)) | fail
    refine OutF.mkn (xs := ?_) (nm [0, 1]) ?_ ?_ ?_ ?_ ?_ (by first | exact .inr rfl | exact .inl rfl)
    rotate_left
    · simp [go_sem, List.take_of_length_le, cellsN] <;> with_reducible rfl
    · simp [go_sem, List.take_of_length_le, ren, ren1, ren2, okr, okr1, okr2, ChkN, BlkN, List.range_succ, nf, cellsN]
    · simp [go_sem, List.take_of_length_le, ren, ren1, ren2, okr, okr1, okr2, ChkN, BlkN, List.range_succ, nf, cellsN]
    · simp [go_sem, List.take_of_length_le, ren, ren1, ren2, okr, okr1, okr2, ChkN, BlkN, List.range_succ, nf, cellsN]
    · rfl
  · rw [h1]
    have hk1 : ((k : Int) == -1) = false := by rw [beq_eq_false_iff_ne]; omega
    have hk2 : ¬ (k : Int) = -1 := by omega
    have stepk : wr64 ((k : Int) + 1) = ((k + 1 : Nat) : Int) := wr64_id (by have := hD.jl; omega) (by have := hD.jl; omega)
    repeat' first | (refine Holds.condT ?_ ?_; (· (simp [go_sem, List.take_of_length_le, hk1, hk2, stepk] <;> with_reducible rfl))) | (refine Holds.condF ?_ ?_; (· (simp [go_sem, List.take_of_length_le, hk1, hk2, stepk] <;> with_reducible rfl))) | refine Holds.seq ?_ | refine Holds.skip ?_ | refine Holds.exit ?_ | refine Holds.ret ?_ | refine thenA_normal ?_ | refine thenA_exit ?_ | refine thenA_ret ?_ | refine inB_normal ?_ | refine inB_ret ?_ | refine inB_here ?_ | (refine inB_past ?_ ?_; (· exact rfl)) | refine Holds.reg ?_ | refine Holds.block ?_ | refine GS.nil ?_ | (refine GS.step (s' := ?_) ?_ ?_ ?_; rotate_left; (· exact rfl); (· (simp [go_sem, List.take_of_length_le, hk1, hk2, stepk] <;> with_reducible rfl))) | (refine GS.skip ?_ ?_ ?_; (· exact rfl); (· exact rfl)) | fail
    refine Holds.loop (ι := Nat × Nat × List RuleT) (fun i => ⟨[(0, .own 0 2 0 xs.length), (1, .fn 75 [.pb 1 6 0 0]), (5, .v (.int .i64 i.1)), (6, .v (.int .i64 i.2.1))], [(0, ⟨60, 2, rules i.2.2⟩), (1, ⟨89, 6, [cellsN R]⟩)], 2⟩)
      (fun i => DelI p xs i.2.2 i.1 i.2.1) (fun i => xs.length - i.2.1) (k, k + 1, xs) hD ?_ ?_
    · exact Cov.ofn (id) rfl (by simp [go_sem, List.take_of_length_le, ren, ren1, ren2, okr, okr1, okr2, ChkT, ChkN, BlkN, nf, cellsN]) (by simp [go_sem, List.take_of_length_le, ren, ren1, ren2, okr, okr1, okr2, ChkT, ChkN, BlkN, nf, cellsN])
    clear hD h1 hk1 hk2 stepk
    rintro ⟨i, j, L⟩ hD
    dsimp only at hD ⊢
    have hij := hD.ij
    have hjl := hD.jl
    have hln := hD.ln
    have stepi : wr64 ((i : Int) + 1) = ((i + 1 : Nat) : Int) := wr64_id (by omega) (by omega)
    have stepj : wr64 ((j : Int) + 1) = ((j + 1 : Nat) : Int) := wr64_id (by omega) (by omega)
    repeat' first | (refine Holds.condT ?_ ?_; (· (simp [go_sem, List.take_of_length_le] <;> with_reducible rfl))) | (refine Holds.condF ?_ ?_; (· (simp [go_sem, List.take_of_length_le] <;> with_reducible rfl))) | refine Holds.seq ?_ | refine Holds.skip ?_ | refine Holds.exit ?_ | refine Holds.ret ?_ | refine thenA_normal ?_ | refine thenA_exit ?_ | refine thenA_ret ?_ | refine inB_normal ?_ | refine inB_ret ?_ | refine inB_here ?_ | (refine inB_past ?_ ?_; (· exact rfl)) | refine Holds.reg ?_ | refine Holds.block ?_ | refine GS.nil ?_ | (refine GS.step (s' := ?_) ?_ ?_ ?_; rotate_left; (· exact rfl); (· (simp [go_sem, List.take_of_length_le] <;> with_reducible rfl))) | (refine GS.skip ?_ ?_ ?_; (· exact rfl); (· exact rfl)) | fail
    refine Holds.cond rfl (fun h => ?_) (fun h => ?_)
    · have hlt : j < xs.length := by simpa using h
      have hxj : xs[j]? = some xs[j] := List.getElem?_eq_getElem hlt
      have hgj := hg _ (List.getElem_mem hlt)
      generalize xs[j] = x at hxj hgj
      have hLj : L[j]? = some x := hD.at_.trans hxj
      have hlL : j < L.length := by omega
      have hiL : i < L.length := by omega
      have hix : i < xs.length := by omega
      repeat' first | (refine Holds.condT ?_ ?_; (· (simp [go_sem, List.take_of_length_le, get_E hLj, hLj, hlt, hlL, ruleC] <;> with_reducible rfl))) | (refine Holds.condF ?_ ?_; (· (simp [go_sem, List.take_of_length_le, get_E hLj, hLj, hlt, hlL, ruleC] <;> with_reducible rfl))) | refine Holds.seq ?_ | refine Holds.skip ?_ | refine Holds.exit ?_ | refine Holds.ret ?_ | refine thenA_normal ?_ | refine thenA_exit ?_ | refine thenA_ret ?_ | refine inB_normal ?_ | refine inB_ret ?_ | refine inB_here ?_ | (refine inB_past ?_ ?_; (· exact rfl)) | refine Holds.reg ?_ | refine Holds.block ?_ | refine GS.nil ?_ | (refine GS.step (s' := ?_) ?_ ?_ ?_; rotate_left; (· exact rfl); (· (simp [go_sem, List.take_of_length_le, get_E hLj, hLj, hlt, hlL, ruleC] <;> with_reducible rfl))) | (refine GS.skip ?_ ?_ ?_; (· exact rfl); (· exact rfl)) | fail
      refine GS.cd (hgj) rfl rfl rfl rfl (by simp [go_sem, List.take_of_length_le, ruleC] <;> with_reducible rfl) rfl (by exact .cons (Fz.cl rfl) (.cons (Fz.box rfl rfl rfl rfl) .nil)) rfl ?_
      repeat' first | (refine Holds.condT ?_ ?_; (· (simp [go_sem, List.take_of_length_le] <;> with_reducible rfl))) | (refine Holds.condF ?_ ?_; (· (simp [go_sem, List.take_of_length_le] <;> with_reducible rfl))) | refine Holds.seq ?_ | refine Holds.skip ?_ | refine Holds.exit ?_ | refine Holds.ret ?_ | refine thenA_normal ?_ | refine thenA_exit ?_ | refine thenA_ret ?_ | refine inB_normal ?_ | refine inB_ret ?_ | refine inB_here ?_ | (refine inB_past ?_ ?_; (· exact rfl)) | refine Holds.reg ?_ | refine Holds.block ?_ | refine GS.nil ?_ | (refine GS.step (s' := ?_) ?_ ?_ ?_; rotate_left; (· exact rfl); (· (simp [go_sem, List.take_of_length_le] <;> with_reducible rfl))) | (refine GS.skip ?_ ?_ ?_; (· exact rfl); (· exact rfl)) | fail
      cases hp : p x with
      | false =>
        repeat' first | (refine Holds.condT ?_ ?_; (· (simp [go_sem, List.take_of_length_le, hiL, hix, rules_set, ruleC, stepi] <;> with_reducible rfl))) | (refine Holds.condF ?_ ?_; (· (simp [go_sem, List.take_of_length_le, hiL, hix, rules_set, ruleC, stepi] <;> with_reducible rfl))) | refine Holds.seq ?_ | refine Holds.skip ?_ | refine Holds.exit ?_ | refine Holds.ret ?_ | refine thenA_normal ?_ | refine thenA_exit ?_ | refine thenA_ret ?_ | refine inB_normal ?_ | refine inB_ret ?_ | refine inB_here ?_ | (refine inB_past ?_ ?_; (· exact rfl)) | refine Holds.reg ?_ | refine Holds.block ?_ | refine GS.nil ?_ | (refine GS.step (s' := ?_) ?_ ?_ ?_; rotate_left; (· exact rfl); (· (simp [go_sem, List.take_of_length_le, hiL, hix, rules_set, ruleC, stepi] <;> with_reducible rfl))) | (refine GS.skip ?_ ?_ ?_; (· exact rfl); (· exact rfl)) | fail
        refine ⟨(i + 1, j + 1, L.set i x), hD.keep hxj hp, by dsimp only; omega, ?_⟩
        rw [stepj]
        exact Cov.ofn (id) rfl (by simp [go_sem, List.take_of_length_le, ren, ren1, ren2, okr, okr1, okr2, ChkT, ChkN, BlkN, nf, cellsN, ruleC, rules_set]) (by simp [go_sem, List.take_of_length_le, ren, ren1, ren2, okr, okr1, okr2, ChkT, ChkN, BlkN, nf, cellsN, ruleC, rules_set])
      | true =>
        repeat' first | (refine Holds.condT ?_ ?_; (· (simp [go_sem, List.take_of_length_le] <;> with_reducible rfl))) | (refine Holds.condF ?_ ?_; (· (simp [go_sem, List.take_of_length_le] <;> with_reducible rfl))) | refine Holds.seq ?_ | refine Holds.skip ?_ | refine Holds.exit ?_ | refine Holds.ret ?_ | refine thenA_normal ?_ | refine thenA_exit ?_ | refine thenA_ret ?_ | refine inB_normal ?_ | refine inB_ret ?_ | refine inB_here ?_ | (refine inB_past ?_ ?_; (· exact rfl)) | refine Holds.reg ?_ | refine Holds.block ?_ | refine GS.nil ?_ | (refine GS.step (s' := ?_) ?_ ?_ ?_; rotate_left; (· exact rfl); (· (simp [go_sem, List.take_of_length_le] <;> with_reducible rfl))) | (refine GS.skip ?_ ?_ ?_; (· exact rfl); (· exact rfl)) | fail
        refine ⟨(i, j + 1, L), hD.skip hxj hp, by dsimp only; omega, ?_⟩
        rw [stepj]
        exact Cov.ofn (id) rfl (by simp [go_sem, List.take_of_length_le, ren, ren1, ren2, okr, okr1, okr2, ChkT, ChkN, BlkN, nf, cellsN]) (by simp [go_sem, List.take_of_length_le, ren, ren1, ren2, okr, okr1, okr2, ChkT, ChkN, BlkN, nf, cellsN])
    · have hje : j = xs.length := by simp at h; omega
      subst hje
      have hfin := hD.fin
      have hi2 : i ≤ xs.length := by omega
      have hiL : i ≤ L.length := by omega
      have hfl : (xs.filter fun x => !p x).length = i := by rw [← hfin, List.length_take]; omega
      rw [hfl, ← hfin]
      repeat' first | (refine Holds.condT ?_ ?_; (· (simp [go_sem, List.take_of_length_le, hi2, hiL] <;> with_reducible rfl))) | (refine Holds.condF ?_ ?_; (· (simp [go_sem, List.take_of_length_le, hi2, hiL] <;> with_reducible rfl))) | refine Holds.seq ?_ | refine Holds.skip ?_ | refine Holds.exit ?_ | refine Holds.ret ?_ | refine thenA_normal ?_ | refine thenA_exit ?_ | refine thenA_ret ?_ | refine inB_normal ?_ | refine inB_ret ?_ | refine inB_here ?_ | (refine inB_past ?_ ?_; (· exact rfl)) | refine Holds.reg ?_ | refine Holds.block ?_ | refine GS.nil ?_ | (refine GS.step (s' := ?_) ?_ ?_ ?_; rotate_left; (· exact rfl); (· (simp [go_sem, List.take_of_length_le, hi2, hiL] <;> with_reducible rfl))) | (refine GS.skip ?_ ?_ ?_; (· exact rfl); (· exact rfl)) | fail
      refine GS.clr (e := 60) (s1 := ?_) rfl rfl rfl rfl (by simp [go_sem]) zc60 ti60 rfl rfl rfl (by simp; omega) ?_ ?_
      rotate_left
      · simp [go_sem, rules_take] <;> with_reducible rfl
      repeat' first | (refine Holds.condT ?_ ?_; (· (simp [go_sem, List.take_of_length_le, hi2] <;> with_reducible rfl))) | (refine Holds.condF ?_ ?_; (· (simp [go_sem, List.take_of_length_le, hi2] <;> with_reducible rfl))) | refine Holds.seq ?_ | refine Holds.skip ?_ | refine Holds.exit ?_ | refine Holds.ret ?_ | refine thenA_normal ?_ | refine thenA_exit ?_ | refine thenA_ret ?_ | refine inB_normal ?_ | refine inB_ret ?_ | refine inB_here ?_ | (refine inB_past ?_ ?_; (· exact rfl)) | refine Holds.reg ?_ | refine Holds.block ?_ | refine GS.nil ?_ | (refine GS.step (s' := ?_) ?_ ?_ ?_; rotate_left; (· exact rfl); (· (simp [go_sem, List.take_of_length_le, hi2] <;> with_reducible rfl))) | (refine GS.skip ?_ ?_ ?_; (· exact rfl); (· exact rfl)) | fail
      refine OutF.mkn (xs := ?_) (nm [0, 1]) ?_ ?_ ?_ ?_ ?_ (by first | exact .inr rfl | exact .inl rfl)
      rotate_left
      · simp [go_sem, List.take_of_length_le, cellsN] <;> with_reducible rfl
      · simp [go_sem, List.take_of_length_le, ren, ren1, ren2, okr, okr1, okr2, ChkN, BlkN, List.range_succ, nf, cellsN]
      · simp [go_sem, List.take_of_length_le, ren, ren1, ren2, okr, okr1, okr2, ChkN, BlkN, List.range_succ, nf, cellsN]
      · simp [go_sem, List.take_of_length_le, ren, ren1, ren2, okr, okr1, okr2, ChkN, BlkN, List.range_succ, nf, cellsN]
      · rfl
end Go.Proofs.Ytabdnpgahdbciaa.En
end
section
namespace Go.Proofs.Ytabdnpgahdbciaa.En
open Go.RowKit
set_option linter.unusedSimpArgs false
set_option linter.unusedVariables false
set_option maxHeartbeats 4000000
theorem rules_snoc (l : List RuleT) (r : RuleT) : rules l ++ [[.v (.int .i64 r.1), .im 1 (ints r.2)]] = rules (l ++ [r]) := by simp [rules, ruleC]
theorem fz_ruleC (r : RuleT) : ∀ (i : Nat) (x y : AV), (ruleC r)[i]? = some x → (ruleC r)[i]? = some y → Fz [] x y := fun i x y hx hy => by
  rw [hx] at hy; cases hy
  match i, hx with
  | 0, hx => simp only [ruleC, List.getElem?_cons_zero, Option.some.injEq] at hx; subst hx; exact .v _
  | 1, hx => simp only [ruleC, List.getElem?_cons_succ, List.getElem?_cons_zero, Option.some.injEq] at hx; subst hx; exact .im _ _
  | n + 2, hx => simp [ruleC] at hx
theorem inner_snoc (L : List RuleT) (r : RuleT) (e : TypeId) (j : Nat) (row row' : List AV) (h1 : (rules L ++ [[.v (.int .i64 r.1), .ow e 1 (ints r.2)]])[j]? = some row) (h2 : (rules (L ++ [r]))[j]? = some row') : row'.length = row.length ∧ ∀ (i : Nat) (x y : AV), row[i]? = some x → row'[i]? = some y → Fz [] x y := by
  have he : rules (L ++ [r]) = rules L ++ [ruleC r] := by simp [rules]
  rw [he] at h2
  rcases Nat.lt_or_ge j (rules L).length with hj | hj
  · rw [List.getElem?_append_left hj] at h1 h2
    rw [h1] at h2; cases h2
    rw [rules_get, Option.map_eq_some_iff] at h1
    obtain ⟨q, _, rfl⟩ := h1
    exact ⟨rfl, fz_ruleC q⟩
  · rw [List.getElem?_append_right hj] at h1 h2
    match j - (rules L).length, h1, h2 with
    | 0, h1, h2 =>
      simp only [List.getElem?_cons_zero, Option.some.injEq] at h1 h2
      subst h1 h2
      refine ⟨rfl, fun i x y hx hy => ?_⟩
      match i, hx, hy with
      | 0, hx, hy => simp only [ruleC, List.getElem?_cons_zero, Option.some.injEq] at hx hy; subst hx hy; exact .v _
      | 1, hx, hy => simp only [ruleC, List.getElem?_cons_succ, List.getElem?_cons_zero, Option.some.injEq] at hx hy; subst hx hy; exact Fz.owI (ints_cl _)
      | n + 2, hx, hy => simp at hx
    | m + 1, h1, h2 => simp at h1
theorem copyG (g : GrammarT) (hG : OkG g) : Fn Try.prog 71 0 [.ag (grammarC g)] [] (.ag [.v (.int .i64 g.1), .v (.int .i64 g.2.1), .own 0 2 0 g.2.2.length]) 1 [(0, ⟨60, 2, rules g.2.2⟩)] := by
  have hlen := hG.len
  refine Fn.mk (rs := [.cell 2 31]) (nt := 32) Try.func71 (by kernel_rfl) rfl rfl rfl (by simp) ?_
  simp only [sl, grammarC]
  repeat' first | (refine Holds.condT ?_ ?_; (· (simp [go_sem, List.take_of_length_le, grammarC] <;> with_reducible rfl))) | (refine Holds.condF ?_ ?_; (· (simp [go_sem, List.take_of_length_le, grammarC] <;> with_reducible rfl))) | refine Holds.seq ?_ | refine Holds.skip ?_ | refine Holds.exit ?_ | refine Holds.ret ?_ | refine thenA_normal ?_ | refine thenA_exit ?_ | refine thenA_ret ?_ | refine inB_normal ?_ | refine inB_ret ?_ | refine inB_here ?_ | (refine inB_past ?_ ?_; (· exact rfl)) | refine Holds.reg ?_ | refine Holds.block ?_ | refine GS.nil ?_ | refine Gd.nil ?_ | (refine Holds.any mixed ?_ ?_; (· kernel_rfl)) | (refine GS.step (s' := ?_) ?_ ?_ ?_; rotate_left; (· exact rfl); (· (simp [go_sem, List.take_of_length_le, grammarC] <;> with_reducible rfl))) | (refine GS.skip ?_ ?_ ?_; (· exact rfl); (· exact rfl)) | (refine Gd.go (s' := ?_) ?_ ?_ ?_; rotate_left; (· exact rfl); (· (simp [go_sem, List.take_of_length_le, grammarC] <;> with_reducible rfl))) | (refine Gd.skip ?_ ?_ ?_; (· exact rfl); (· exact rfl)) | fail
  refine Holds.nir 2 0 2 60 2 rfl rfl rfl (by simp [go_sem]; rfl) ?_
  refine Holds.loop (ι := Nat) (fun i => ⟨[(1, .pb 0 3 0 0), (2, .pb 1 3 0 0), (3, .pb 2 3 0 0), (12, .im 2 (rules g.2.2)), (13, .v (.int .i64 g.2.2.length)), (14, .v (.int .i64 i))],
    [(3, ⟨60, 2, rules (g.2.2.take i)⟩), (2, ⟨31, 3, [[.v (.int .i64 g.1), .v (.int .i64 g.2.1), .own 3 2 0 i]]⟩), (1, ⟨31, 3, [[.v (.int .i64 0), .v (.int .i64 0), .v (.slice none 0 0)]]⟩), (0, ⟨31, 3, [grammarC g]⟩)], 4⟩)
    (fun i => i ≤ g.2.2.length) (fun i => g.2.2.length - i) 0 (Nat.zero_le _) ?_ ?_
  · exact Cov.ofn (id) rfl (by simp [go_sem, List.take_of_length_le, ren, ren1, ren2, okr, okr1, okr2, ChkT, ChkN, BlkN, nf, grammarC, show rules [] = [] from rfl]) (by simp [go_sem, List.take_of_length_le, ren, ren1, ren2, okr, okr1, okr2, ChkT, ChkN, BlkN, nf, grammarC, show rules [] = [] from rfl])
  intro i hi
  have stepi : wr64 ((i : Int) + 1) = ((i + 1 : Nat) : Int) := wr64_id (by omega) (by omega)
  repeat' first | (refine Holds.condT ?_ ?_; (· (simp [go_sem, List.take_of_length_le] <;> with_reducible rfl))) | (refine Holds.condF ?_ ?_; (· (simp [go_sem, List.take_of_length_le] <;> with_reducible rfl))) | refine Holds.seq ?_ | refine Holds.skip ?_ | refine Holds.exit ?_ | refine Holds.ret ?_ | refine thenA_normal ?_ | refine thenA_exit ?_ | refine thenA_ret ?_ | refine inB_normal ?_ | refine inB_ret ?_ | refine inB_here ?_ | (refine inB_past ?_ ?_; (· exact rfl)) | refine Holds.reg ?_ | refine Holds.block ?_ | refine GS.nil ?_ | refine Gd.nil ?_ | (refine Holds.any mixed ?_ ?_; (· kernel_rfl)) | (refine GS.step (s' := ?_) ?_ ?_ ?_; rotate_left; (· exact rfl); (· (simp [go_sem, List.take_of_length_le] <;> with_reducible rfl))) | (refine GS.skip ?_ ?_ ?_; (· exact rfl); (· exact rfl)) | (refine Gd.go (s' := ?_) ?_ ?_ ?_; rotate_left; (· exact rfl); (· (simp [go_sem, List.take_of_length_le] <;> with_reducible rfl))) | (refine Gd.skip ?_ ?_ ?_; (· exact rfl); (· exact rfl)) | fail
  refine Holds.cond rfl (fun h => ?_) (fun h => ?_)
  · have hlt : i < g.2.2.length := by simp at h; omega
    have hri : g.2.2[i]? = some g.2.2[i] := List.getElem?_eq_getElem hlt
    have hmem := List.getElem_mem hlt
    generalize g.2.2[i] = r at hri hmem
    have hr4 := hG.r4 r hmem
    have hnx : g.2.2.take (i + 1) = g.2.2.take i ++ [r] := by rw [List.take_add_one, hri]; rfl
    have hml : (g.2.2.take i).length = i := by rw [List.length_take]; omega
    generalize g.2.2.take i = L at hnx hml ⊢
    have hb : (i + 1) * 32 ≤ 140737488355328 := by omega
    have hb2 : r.2.length * 8 ≤ 140737488355328 := by omega
    repeat' first | (refine Holds.condT ?_ ?_; (· (simp [go_sem, List.take_of_length_le, get_E hri, hri, hlt, ruleC] <;> with_reducible rfl))) | (refine Holds.condF ?_ ?_; (· (simp [go_sem, List.take_of_length_le, get_E hri, hri, hlt, ruleC] <;> with_reducible rfl))) | refine Holds.seq ?_ | refine Holds.skip ?_ | refine Holds.exit ?_ | refine Holds.ret ?_ | refine thenA_normal ?_ | refine thenA_exit ?_ | refine thenA_ret ?_ | refine inB_normal ?_ | refine inB_ret ?_ | refine inB_here ?_ | (refine inB_past ?_ ?_; (· exact rfl)) | refine Holds.reg ?_ | refine Holds.block ?_ | refine GS.nil ?_ | refine Gd.nil ?_ | (refine GS.step (s' := ?_) ?_ ?_ ?_; rotate_left; (· exact rfl); (· (simp [go_sem, List.take_of_length_le, get_E hri, hri, hlt, ruleC] <;> with_reducible rfl))) | (refine GS.skip ?_ ?_ ?_; (· exact rfl); (· exact rfl)) | (refine Gd.go (s' := ?_) ?_ ?_ ?_; rotate_left; (· exact rfl); (· (simp [go_sem, List.take_of_length_le, get_E hri, hri, hlt, ruleC] <;> with_reducible rfl))) | (refine Gd.skip ?_ ?_ ?_; (· exact rfl); (· exact rfl)) | fail
    refine Holds.anx [4, 7, 8, 9, 1010, 1012] [0, 1, 2, 3, 5, 6] (fun n => decide (5 ≤ n)) mixed ?_ ?_ ?_; (· kernel_rfl); (· kernel_rfl)
    repeat' first | (refine Holds.condT ?_ ?_; (· (simp [go_sem, List.take_of_length_le, hml, hb, hb2, ruleC, ints_all] <;> with_reducible rfl))) | (refine Holds.condF ?_ ?_; (· (simp [go_sem, List.take_of_length_le, hml, hb, hb2, ruleC, ints_all] <;> with_reducible rfl))) | refine Holds.seq ?_ | refine Holds.skip ?_ | refine Holds.exit ?_ | refine Holds.ret ?_ | refine thenA_normal ?_ | refine thenA_exit ?_ | refine thenA_ret ?_ | refine inB_normal ?_ | refine inB_ret ?_ | refine inB_here ?_ | (refine inB_past ?_ ?_; (· exact rfl)) | refine Holds.reg ?_ | refine Holds.block ?_ | refine GS.nil ?_ | refine Gd.nil ?_ | (refine GS.step (s' := ?_) ?_ ?_ ?_; rotate_left; (· exact rfl); (· (simp [go_sem, List.take_of_length_le, hml, hb, hb2, ruleC, ints_all] <;> with_reducible rfl))) | (refine GS.skip ?_ ?_ ?_; (· exact rfl); (· exact rfl)) | (refine Gd.go (s' := ?_) ?_ ?_ ?_; rotate_left; (· exact rfl); (· (simp [go_sem, List.take_of_length_le, hml, hb, hb2, ruleC, ints_all] <;> with_reducible rfl))) | (refine Gd.skip ?_ ?_ ?_; (· exact rfl); (· exact rfl)) | refine Gx.nil ?_ | (refine Gx.go (s' := ?_) rfl ?_ ?_ ?_; rotate_left; (· exact rfl); (· (simp [go_sem, List.take_of_length_le, hml, hb, hb2, ruleC, ints_all] <;> with_reducible rfl))) | (refine Gx.skip rfl ?_ ?_ ?_; (· exact rfl); (· exact rfl)) | (refine Gx.skipO rfl ?_ ?_ ?_; (· exact rfl); (· exact rfl)) | (refine Gx.wo (s' := ?_) rfl ?_ ?_ ?_; rotate_left; (· exact rfl); (· (simp [go_sem, List.take_of_length_le, hml, hb, hb2, ruleC, ints_all] <;> with_reducible rfl))) | (refine Gx.skipW rfl ?_ ?_ ?_; (· exact rfl); (· exact rfl)) | (refine Gx.skipH rfl ?_ ?_ ?_; (· exact rfl); (· exact rfl)) | (refine Gx.hid (r := ?_) rfl ?_ ?_ ?_ ?_; rotate_left; (· exact rfl); (· exact rfl); (· (simp [go_sem, List.take_of_length_le, hml, hb, hb2, ruleC, ints_all] <;> with_reducible rfl))) | (refine Gx.wr (s' := ?_) rfl ?_ ?_ ?_ ?_; rotate_left; (· exact rfl); (· (simp [go_sem, List.take_of_length_le, hml, hb, hb2, ruleC, ints_all] <;> with_reducible rfl)); (· (simp [go_sem, List.take_of_length_le, hml, hb, hb2, ruleC, ints_all]))) | fail
    refine ⟨i + 1, by omega, by omega, ?_⟩
    rw [stepi, hnx]
    have hset : ∀ q q' : List AV, (rules L ++ [q]).set L.length q' = rules L ++ [q'] := fun q q' => by have := set_snoc (rules L) q q'; rwa [rules_len] at this
    refine Cov.trans ?_ (Cov.close 10 L.length 1 (row := [.v (.int .i64 r.1), .own 7 1 0 r.2.length]) rfl (by have := get_snoc (rules L) ([.v (.int .i64 r.1), .own 7 1 0 r.2.length] : List AV); rwa [rules_len] at this) rfl rfl rfl rfl (by simp) (by simp [nf]))
    simp only [rm, st, hset, List.set_cons_zero, List.set_cons_succ]
    refine Cov.trans ?_ (Cov.inner (n := 10) (k' := ⟨60, 2, rules (L ++ [r])⟩) rfl rfl rfl (by simp) (fun j row row' h1 h2 => inner_snoc L r 3 j row row' h1 h2))
    exact Cov.ofn (nm [0, 1, 2, 10]) rfl (by simp [go_sem, List.take_of_length_le, ren, ren1, ren2, okr, okr1, okr2, ChkT, ChkN, BlkN, nf, grammarC]) (by simp [go_sem, List.take_of_length_le, ren, ren1, ren2, okr, okr1, okr2, ChkT, ChkN, BlkN, nf, grammarC])
  · have hie : i = g.2.2.length := by simp at h; omega
    subst hie
    rw [List.take_length]
    repeat' first | (refine Holds.condT ?_ ?_; (· (simp [go_sem, List.take_of_length_le] <;> with_reducible rfl))) | (refine Holds.condF ?_ ?_; (· (simp [go_sem, List.take_of_length_le] <;> with_reducible rfl))) | refine Holds.seq ?_ | refine Holds.skip ?_ | refine Holds.exit ?_ | refine Holds.ret ?_ | refine thenA_normal ?_ | refine thenA_exit ?_ | refine thenA_ret ?_ | refine inB_normal ?_ | refine inB_ret ?_ | refine inB_here ?_ | (refine inB_past ?_ ?_; (· exact rfl)) | refine Holds.reg ?_ | refine Holds.block ?_ | refine GS.nil ?_ | refine Gd.nil ?_ | (refine Holds.any mixed ?_ ?_; (· kernel_rfl)) | (refine GS.step (s' := ?_) ?_ ?_ ?_; rotate_left; (· exact rfl); (· (simp [go_sem, List.take_of_length_le] <;> with_reducible rfl))) | (refine GS.skip ?_ ?_ ?_; (· exact rfl); (· exact rfl)) | (refine Gd.go (s' := ?_) ?_ ?_ ?_; rotate_left; (· exact rfl); (· (simp [go_sem, List.take_of_length_le] <;> with_reducible rfl))) | (refine Gd.skip ?_ ?_ ?_; (· exact rfl); (· exact rfl)) | refine Gx.nil ?_ | (refine Gx.go (s' := ?_) rfl ?_ ?_ ?_; rotate_left; (· exact rfl); (· (simp [go_sem, List.take_of_length_le] <;> with_reducible rfl))) | (refine Gx.skip rfl ?_ ?_ ?_; (· exact rfl); (· exact rfl)) | (refine Gx.skipO rfl ?_ ?_ ?_; (· exact rfl); (· exact rfl)) | (refine Gx.wo (s' := ?_) rfl ?_ ?_ ?_; rotate_left; (· exact rfl); (· (simp [go_sem, List.take_of_length_le] <;> with_reducible rfl))) | (refine Gx.skipW rfl ?_ ?_ ?_; (· exact rfl); (· exact rfl)) | (refine Gx.skipH rfl ?_ ?_ ?_; (· exact rfl); (· exact rfl)) | (refine Gx.hid (r := ?_) rfl ?_ ?_ ?_ ?_; rotate_left; (· exact rfl); (· exact rfl); (· (simp [go_sem, List.take_of_length_le] <;> with_reducible rfl))) | (refine Gx.wr (s' := ?_) rfl ?_ ?_ ?_ ?_; rotate_left; (· exact rfl); (· (simp [go_sem, List.take_of_length_le] <;> with_reducible rfl)); (· (simp [go_sem, List.take_of_length_le]))) | fail
    refine OutF.mkn (xs := ?_) (nm [3]) ?_ ?_ ?_ ?_ ?_ (by first | exact .inr rfl | exact .inl rfl)
    rotate_left
    · simp [go_sem, List.take_of_length_le] <;> with_reducible rfl
    · simp [go_sem, List.take_of_length_le, ren, ren1, ren2, okr, okr1, okr2, ChkN, BlkN, List.range_succ, nf]
    · simp [go_sem, List.take_of_length_le, ren, ren1, ren2, okr, okr1, okr2, ChkN, BlkN, List.range_succ, nf]
    · simp [go_sem, List.take_of_length_le, ren, ren1, ren2, okr, okr1, okr2, ChkN, BlkN, List.range_succ, nf]
    · rfl
end Go.Proofs.Ytabdnpgahdbciaa.En
end
