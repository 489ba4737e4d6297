/- Own words, 7: a row's part under a new name; a row that grows; append. -/
import Derived.Test.YtaiefncpgkoniaaEn6
import Derived.Deep.AppendSrc
namespace Go.Proofs.Ytaiefncpgkoniaa.En
open Go.RowKit
set_option linter.unusedSimpArgs false
set_option linter.unusedVariables false

section
variable {C : Ctx} {s : AS} {a : Act} {w : World} {S : Nat → Prop} {Ow : Owners} {L : Names} {P : Program}

def reow (n off m : Nat) : Path → Path
  | [] => []
  | [x] => if x = n + 1 then [m + 1] else [x]
  | x :: j :: r => if x = n + 1 ∧ off ≤ j then (m + 1) :: (j - off) :: r else x :: j :: r
theorem reow_head {n off m : Nat} {p q : Path} {x : Nat} (h : reow n off m p = x :: q) : x = m + 1 ∨ ∃ r, p = x :: r := by
  unfold reow at h
  split at h
  · cases h
  · split at h
    · cases h; exact .inl rfl
    · cases h; exact .inr ⟨_, rfl⟩
  · split at h
    · cases h; exact .inl rfl
    · cases h; exact .inr ⟨_, rfl⟩
theorem reow_other {n off m x : Nat} {q : Path} (h : x ≠ n + 1) : reow n off m (x :: q) = x :: q := by
  unfold reow
  cases q with
  | nil => simp [h]
  | cons j r => simp [h]

/-- A part of a row, under a new name. -/
theorem RelX.rename (h : RelX C s a w S Ow L) {n sz off len : Nat} {k : Blk} {u : Value} (hk : lb s.bl n = some k) (hsz : k.sz = sz) (hfit : off + len ≤ k.xs.length) (hr : Rep w S Ow L [0] (.own n sz off len) u) :
    ∃ Ow' L' loc, RelX C { s with bl := (s.nx, { k with xs := (k.xs.drop off).take len }) :: rm s.bl n, nx := s.nx + 1 } a w S Ow' L' ∧ L' s.nx = .at loc ∧ Rep w S Ow' L' [0] (.own s.nx sz 0 len) u ∧ ∀ x v, Rep w S Ow L [0] x v → Rep w S Ow' L' [0] x v := by
  obtain ⟨loc, hl, hB⟩ := h.blk n k hk
  have hnx : n < s.nx := by
    rcases Nat.lt_or_ge n s.nx with g | g
    · exact g
    · have := h.fresh n g
      rw [hl] at this; cases this
  -- the new place
  obtain ⟨loc2, hloc2, hrep2⟩ : ∃ loc2 : Loc, (∀ Ow' L', (∀ b p, Ow b = some p → Ow' b = some (reow n off s.nx p)) → (∀ m, L m = .free ∨ L' m = L m ∨ L' m = .gone) → BlkRep w S Ow' L' s.nx { k with xs := (k.xs.drop off).take len } loc2) ∧ ∀ Ow' L', L' s.nx = .at loc2 → Rep w S Ow' L' [0] (.own s.nx sz 0 len) u := by
    have mk : ∀ b o cap, BlkRep w S Ow L n k (some (b, o, cap)) → off ≤ cap → off + len ≤ cap → ∀ Ow' L', (∀ b p, Ow b = some p → Ow' b = some (reow n off s.nx p)) → (∀ m, L m = .free ∨ L' m = L m ∨ L' m = .gone) → BlkRep w S Ow' L' s.nx { k with xs := (k.xs.drop off).take len } (some (b, o + off, cap - off)) := by
      intro b o cap hB hoc hlc Ow' L' hOw hLn
      obtain ⟨g1, cs, us, g2, g3, g4, g5, g6, g7⟩ := hB
      have sub : ∀ (j : Nat) (row : List AV), ((k.xs.drop off).take len)[j]? = some row → k.xs[off + j]? = some row := fun j row hj => by
        rw [List.getElem?_take] at hj
        split at hj
        · simpa [List.getElem?_drop] using hj
        · cases hj
      refine ⟨by rw [hOw _ _ g1]; simp [reow], cs, fun j i => us (off + j) i, g2, by rw [g3]; congr 1; omega, by simp; omega, fun j row hj => g5 _ row (sub j row hj), fun j row i x hj hi => ?_, fun j row i x hj hi => ?_⟩
      · have := g6 (off + j) row i x (sub j row hj) hi
        rw [← this]; simp only [Nat.add_assoc]
      · refine (g7 (off + j) row i x (sub j row hj) hi).names hLn (fun b q hb => ?_)
        rw [hOw _ _ hb]
        simp [reow]
    cases hr with
    | own _ _ _ _ b o cap hL hle =>
      rw [hl] at hL
      cases hL
      refine ⟨some (b, o + off, cap - off), mk b o cap hB (by omega) hle, fun Ow' L' hL' => ?_⟩
      have := Rep.own (w := w) (S := S) (Ow := Ow') (L := L') (p := [0]) s.nx sz 0 len b (o + off) (cap - off) hL' (by omega)
      simpa using this
    | own_end _ _ _ b o cap ad hL hle =>
      rw [hl] at hL
      cases hL
      exact ⟨some (b, o + off, cap - off), mk b o cap hB (by omega) (by omega), fun Ow' L' hL' => .own_end s.nx sz 0 b (o + off) (cap - off) ad hL' (by omega)⟩
    | own_nil _ _ hL =>
      rw [hl] at hL
      cases hL
      exact ⟨none, fun Ow' L' _ _ => by show (k.xs.drop 0).take 0 = []; simp, fun Ow' L' hL' => .own_nil s.nx sz hL'⟩
    | own_gone _ _ _ _ _ hL _ => rw [hl] at hL; cases hL
  let L' : Names := fun m => if m = s.nx then .at loc2 else if m = n then .gone else L m
  let Ow' : Owners := fun b => (Ow b).map (reow n off s.nx)
  have hOw : ∀ b p, Ow b = some p → Ow' b = some (reow n off s.nx p) := fun b p hb => by simp [Ow', hb]
  have hLx : L' s.nx = .at loc2 := by simp [L']
  have hLn : ∀ m, L m = .free ∨ L' m = L m ∨ L' m = .gone := fun m => by
    by_cases e : m = s.nx
    · exact .inl (h.fresh m (by omega))
    · by_cases e2 : m = n
      · exact .inr (.inr (by simp [L', e, e2]; omega))
      · exact .inr (.inl (by simp [L', e, e2]))
  refine ⟨Ow', L', loc2, ?_, hLx, hrep2 Ow' L' hLx, fun x v hx => hx.names hLn (fun b q hq => absurd hq (h.ow0 b q))⟩
  refine { fix := fix_of h.fix hLn, keep := h.keep, inS := h.inS, upS := h.upS, ltS := h.ltS, owS := fun b hb => by simp [Ow', h.owS b hb], ow := fun b p hb => ?_, ow0 := fun b q hb => ?_, blk := ?_, fresh := ?_, named := ?_, freshO := ?_, slot := ?_, size := h.size, defers := h.defers }
  · simp only [Ow', Option.map_eq_some_iff] at hb
    obtain ⟨p', hp', _⟩ := hb
    exact h.ow b p' hp'
  · simp only [Ow', Option.map_eq_some_iff] at hb
    obtain ⟨p', hp', hq⟩ := hb
    rcases reow_head hq with e | ⟨r, rfl⟩
    · cases e
    · exact h.ow0 b r hp'
  · intro m kk hm
    by_cases e : m = s.nx
    · subst e
      simp only [lb, if_true, Option.some.injEq] at hm
      subst hm
      exact ⟨loc2, hLx, hloc2 Ow' L' hOw hLn⟩
    · simp only [lb, show ¬ s.nx = m from fun he => e he.symm, if_false, lb_rm] at hm
      by_cases e2 : n = m
      · simp [e2] at hm
      · rw [if_neg e2] at hm
        obtain ⟨loc3, hl3, hB3⟩ := h.blk m kk hm
        refine ⟨loc3, by simp [L', e, show ¬ m = n from fun he => e2 he.symm, hl3], hB3.names hLn (fun b q hb => ?_)⟩
        rw [hOw _ _ hb, reow_other (by omega)]
  · intro m hm
    have hm' : s.nx + 1 ≤ m := hm
    simp only [L', show m ≠ s.nx by omega, show m ≠ n by omega, if_false]
    exact h.fresh m (by omega)
  · intro m hm
    have hm' : m < s.nx + 1 := hm
    by_cases e : m = s.nx
    · simp [L', e]
    · by_cases e2 : m = n
      · subst e2; simp [L', e]
      · simp only [L', e, e2, if_false]; exact h.named m (by omega)
  · intro b m q hb
    simp only [Ow', Option.map_eq_some_iff] at hb
    obtain ⟨p', hp', hq⟩ := hb
    show m ≤ s.nx + 1
    rcases reow_head hq with e | ⟨r, rfl⟩
    · omega
    · have := h.freshO b m r hp'; omega
  · intro t x hx
    obtain ⟨v, hv, hR⟩ := h.slot t x hx
    exact ⟨v, hv, hR.names hLn (fun b q hq => absurd hq (h.ow0 b q))⟩

/-- Rows of cells, one behind the other. -/
def RowsR (w : World) (S : Nat → Prop) (Ow : Owners) (L : Names) (sz : Nat) (ys : List (List AV)) (vs : List Value) : Prop :=
  vs.length = ys.length * sz ∧ (∀ v ∈ vs, v.oneCell' = true) ∧ (∀ (j : Nat) (row : List AV), ys[j]? = some row → row.length = sz) ∧
    ∀ (j : Nat) (row : List AV) (i : Nat) (x : AV) (v : Value), ys[j]? = some row → row[i]? = some x → vs[j * sz + i]? = some v → Rep w S Ow L [0] x v

theorem app_get {ys xs : List (List AV)} {j : Nat} {row : List AV} (h : (xs ++ ys)[j]? = some row) : xs[j]? = some row ∨ (xs.length ≤ j ∧ ys[j - xs.length]? = some row) := by
  by_cases e : j < xs.length
  · rw [List.getElem?_append_left e] at h; exact .inl h
  · rw [List.getElem?_append_right (by omega)] at h; exact .inr ⟨by omega, h⟩

/-- A row grows where it lies. -/
theorem RelX.extend (h : RelX C s a w S Ow L) {n : Nat} {k : Blk} {b o cap : Nat} (hk : lb s.bl n = some k) (hL : L n = .at (some (b, o, cap))) (ys : List (List AV)) (vs : List Value) (hR : RowsR w S Ow L k.sz ys vs) (hfit : k.xs.length + ys.length ≤ cap) :
    ∃ w', (storeCells ⟨b, (o + k.xs.length) * k.sz, none⟩ vs).run P w = .ok () w' ∧ RelX C { s with bl := st s.bl n { k with xs := k.xs ++ ys } } a w' S Ow L := by
  obtain ⟨loc, hl', hB⟩ := h.blk n k hk
  rw [hL] at hl'
  cases hl'
  obtain ⟨hob, cs, us, hh, hcs, hxs, hz, hcell, hrep⟩ := hB
  obtain ⟨hvl, h1, hyz, hyr⟩ := hR
  have hroom : (o + k.xs.length) * k.sz + vs.length ≤ cs.size := by
    rw [hcs, hvl, ← Nat.add_mul]
    exact Nat.mul_le_mul_right _ (by omega)
  have hrun := run_storeCells_at (P := P) b ((o + k.xs.length) * k.sz) k.e vs 0 cs w hh (by omega) h1
  simp only [Nat.add_zero] at hrun
  refine ⟨_, hrun, ?_⟩
  refine h.write n k _ b o cap hL hk _ rfl rfl rfl (by simp) (fun c hc => setRow_other w b c _ hc) (fun _ mv => ?_)
  have hne : ∀ (j' i' : Nat) (x : AV) (u : Value), Rep w S Ow L [n + 1, j', i'] x u → Rep _ S Ow L [n + 1, j', i'] x u := fun j' i' x u hx => mv _ x u (fun q hq => by rw [hob] at hq; simp at hq) hx
  refine ⟨hob, _, fun j i => if j < k.xs.length then us j i else vs.getD ((j - k.xs.length) * k.sz + i) undef, setRow_heap w b cs _ k.e (0, 0) hh, by simp; omega, by simp; omega, fun j row hj => ?_, fun j row i x hj hi => ?_, fun j row i x hj hi => ?_⟩
  · rcases app_get hj with g | ⟨_, g⟩
    · exact hz j row g
    · exact hyz _ row g
  · dsimp only at hj ⊢
    rw [cut_get _ _ _ (by simpa using hroom)]
    rcases app_get hj with g | ⟨g0, g⟩
    · have hlt : j < k.xs.length := (List.getElem?_eq_some_iff.1 g).1
      have hi' : i < k.sz := by rw [← hz j row g]; exact (List.getElem?_eq_some_iff.1 hi).1
      have : (o + j) * k.sz + k.sz ≤ (o + k.xs.length) * k.sz := by rw [← Nat.succ_mul]; exact Nat.mul_le_mul_right _ (by omega)
      rw [if_neg (by omega), if_pos hlt]
      simpa using hcell j row i x g hi
    · have hlt : j - k.xs.length < ys.length := (List.getElem?_eq_some_iff.1 g).1
      have hi' : i < k.sz := by rw [← hyz _ row g]; exact (List.getElem?_eq_some_iff.1 hi).1
      have e1 : (o + j) * k.sz = (o + k.xs.length) * k.sz + (j - k.xs.length) * k.sz := by rw [← Nat.add_mul]; congr 1; omega
      have e2 : (j - k.xs.length) * k.sz + k.sz ≤ ys.length * k.sz := by rw [← Nat.succ_mul]; exact Nat.mul_le_mul_right _ (by omega)
      rw [if_pos (by omega), if_neg (by omega), e1, show (o + k.xs.length) * k.sz + (j - k.xs.length) * k.sz + i - (o + k.xs.length) * k.sz = (j - k.xs.length) * k.sz + i by omega]
      have : (j - k.xs.length) * k.sz + i < vs.length := by omega
      simp [this]
  · dsimp only at hj ⊢
    rcases app_get hj with g | ⟨g0, g⟩
    · have hlt : j < k.xs.length := (List.getElem?_eq_some_iff.1 g).1
      rw [if_pos hlt]
      exact hne j i x _ (hrep j row i x g hi)
    · have hlt : j - k.xs.length < ys.length := (List.getElem?_eq_some_iff.1 g).1
      have hi' : i < k.sz := by rw [← hyz _ row g]; exact (List.getElem?_eq_some_iff.1 hi).1
      have e2 : (j - k.xs.length) * k.sz + k.sz ≤ ys.length * k.sz := by rw [← Nat.succ_mul]; exact Nat.mul_le_mul_right _ (by omega)
      rw [if_neg (by omega)]
      have : (j - k.xs.length) * k.sz + i < vs.length := by omega
      exact hne j i x _ ((hyr _ row i x _ g hi (by simp [this])).names (fun _ => .inr (.inl rfl)) (fun b q hq => absurd hq (h.ow0 b q)))

/-- A row's own cells. -/
theorem row_cells {n : Nat} {k : Blk} {b o cap : Nat} (hB : BlkRep w S Ow L n k (some (b, o, cap))) :
    ∃ vs : List Value, vs.length = k.xs.length * k.sz ∧ (∀ j u, vs[j]? = some u → w.cell? ⟨b, o * k.sz + j, none⟩ = some u) ∧ ∀ (j : Nat) (row : List AV) (i : Nat) (x : AV) (v : Value), k.xs[j]? = some row → row[i]? = some x → vs[j * k.sz + i]? = some v → Rep w S Ow L [n + 1, j, i] x v := by
  obtain ⟨hob, cs, us, hh, hcs, hxs, hz, hcell, hrep⟩ := hB
  have hle : o * k.sz + k.xs.length * k.sz ≤ cs.size := by rw [hcs, ← Nat.add_mul]; exact Nat.mul_le_mul_right _ (by omega)
  refine ⟨(cs.toList.drop (o * k.sz)).take (k.xs.length * k.sz), by rw [List.length_take, List.length_drop, Array.length_toList]; omega, fun j u hu => ?_, fun j row i x v hj hi hv => ?_⟩
  · rw [List.getElem?_take] at hu
    split at hu
    · rw [cell_of_row w b _ cs k.e (0, 0) hh]
      simpa [List.getElem?_drop] using hu
    · cases hu
  · have hlt : j < k.xs.length := (List.getElem?_eq_some_iff.1 hj).1
    have hi' : i < k.sz := by rw [← hz j row hj]; exact (List.getElem?_eq_some_iff.1 hi).1
    have e2 : j * k.sz + k.sz ≤ k.xs.length * k.sz := by rw [← Nat.succ_mul]; exact Nat.mul_le_mul_right _ (by omega)
    rw [List.getElem?_take, if_pos (by omega), List.getElem?_drop] at hv
    have e3 := hcell j row i x hj hi
    rw [Nat.add_mul, Nat.add_assoc] at e3
    rw [show cs.toList[o * k.sz + (j * k.sz + i)]? = cs[o * k.sz + (j * k.sz + i)]? by simp, e3] at hv
    cases hv
    exact hrep j row i x hj hi

/-- A row is laid anew, and grows. -/
theorem RelX.reloc (h : RelX C s a w S Ow L) {n : Nat} {k : Blk} (hk : lb s.bl n = some k) (ys : List (List AV)) (olds news : List Value) (zs : Array Value) (cap : Nat) (hol : olds.length = k.xs.length * k.sz) (hzk : ∀ (j : Nat) (row : List AV), k.xs[j]? = some row → row.length = k.sz)
    (hor : ∀ (j : Nat) (row : List AV) (i : Nat) (x : AV) (v : Value), k.xs[j]? = some row → row[i]? = some x → olds[j * k.sz + i]? = some v → Rep w S Ow L [n + 1, j, i] x v) (hR : RowsR w S Ow L k.sz ys news) (hcap : k.xs.length + ys.length ≤ cap) (hzs : zs.size = (cap - (k.xs.length + ys.length)) * k.sz) :
    ∃ Ow' L', RelX C { s with bl := (s.nx, { k with xs := k.xs ++ ys }) :: rm s.bl n, nx := s.nx + 1 } a (w.alloc (.cells ((olds ++ news).toArray ++ zs) k.e)) S Ow' L' ∧ L' s.nx = .at (some (w.heap.size, 0, cap)) := by
  obtain ⟨loc, hl, hB⟩ := h.blk n k hk
  obtain ⟨hvl, h1, hyz, hyr⟩ := hR
  have hnx : n < s.nx := by
    rcases Nat.lt_or_ge n s.nx with g | g
    · exact g
    · have := h.fresh n g
      rw [hl] at this; cases this
  have hnew := heap_alloc_new w (Obj.cells ((olds ++ news).toArray ++ zs) k.e)
  generalize hO : Obj.cells ((olds ++ news).toArray ++ zs) k.e = ob at hnew ⊢
  have hb : ∀ b : Nat, b < w.heap.size → (w.alloc ob).heap[b]? = w.heap[b]? := fun b hb => heap_alloc_old w _ b hb
  have hsz : (w.alloc ob).heap.size = w.heap.size + 1 := by simp
  have hS : ∀ b : Nat, S b → (w.alloc ob).heap[b]? = w.heap[b]? := fun b hb' => hb b (h.ltS b hb')
  have hO' : ∀ (b : Nat) (p : Path), Ow b = some p → (w.alloc ob).heap[b]? = w.heap[b]? := fun b p hp => hb b (h.ow b p hp).2
  have hne : ∀ (b : Nat) (p : Path), Ow b = some p → b ≠ w.heap.size := fun b p hp => by have := (h.ow b p hp).2; omega
  let L' : Names := fun m => if m = s.nx then .at (some (w.heap.size, 0, cap)) else if m = n then .gone else L m
  let Ow' : Owners := fun b => if b = w.heap.size then some [s.nx + 1] else (Ow b).map (reow n 0 s.nx)
  have hOw : ∀ b p, Ow b = some p → Ow' b = some (reow n 0 s.nx p) := fun b p hp => by simp [Ow', hne b p hp, hp]
  have hLn : ∀ m, L m = .free ∨ L' m = L m ∨ L' m = .gone := fun m => by
    by_cases e : m = s.nx
    · exact .inl (h.fresh m (by omega))
    · by_cases e2 : m = n
      · exact .inr (.inr (by simp [L', e, e2]; omega))
      · exact .inr (.inl (by simp [L', e, e2]))
  have hkeep : Keep C.W C.X (w.alloc ob) := ⟨h.keep.os, h.keep.tape, h.keep.output, by have := h.keep.size; omega, fun b hb' hx => (hb b (by have := h.keep.size; omega)).trans (h.keep.block b hb' hx)⟩
  refine ⟨Ow', L', ?_, by simp [L']⟩
  refine { fix := fix_of h.fix hLn, keep := hkeep, inS := h.inS, upS := h.upS, ltS := fun b hb => by have := h.ltS b hb; omega, owS := fun b hb => ?_, ow := fun b p hp => ?_, ow0 := fun b q hp => ?_, blk := ?_, fresh := ?_, named := ?_, freshO := ?_, slot := ?_, size := h.size, defers := h.defers }
  · have := h.ltS b hb
    simp [Ow', show b ≠ w.heap.size by omega, h.owS b hb]
  · by_cases e : b = w.heap.size
    · subst e; exact ⟨.inl h.keep.size, by omega⟩
    · simp only [Ow', e, if_false, Option.map_eq_some_iff] at hp
      obtain ⟨p', hp', _⟩ := hp
      exact ⟨(h.ow b p' hp').1, by have := (h.ow b p' hp').2; omega⟩
  · by_cases e : b = w.heap.size
    · simp [Ow', e] at hp
    · simp only [Ow', e, if_false, Option.map_eq_some_iff] at hp
      obtain ⟨p', hp', hq⟩ := hp
      rcases reow_head hq with e | ⟨r, rfl⟩
      · cases e
      · exact h.ow0 b r hp'
  · intro m kk hm
    by_cases e : m = s.nx
    · subst e
      simp only [lb, if_true, Option.some.injEq] at hm
      subst hm
      have hov : (olds ++ news).length = (k.xs.length + ys.length) * k.sz := by rw [List.length_append, hol, hvl, Nat.add_mul]
      have hle : (k.xs.length + ys.length) * k.sz + (cap - (k.xs.length + ys.length)) * k.sz = cap * k.sz := by rw [← Nat.add_mul]; congr 1; omega
      refine ⟨some (w.heap.size, 0, cap), by simp [L'], by simp [Ow'], (olds ++ news).toArray ++ zs, fun j i => (olds ++ news).getD (j * k.sz + i) undef, by rw [hnew, ← hO], ?_, by simpa using hcap, fun j row hj => ?_, fun j row i x hj hi => ?_, fun j row i x hj hi => ?_⟩
      · show ((olds ++ news).toArray ++ zs).size = (0 + cap) * k.sz
        rw [Nat.zero_add]
        simp only [Array.size_append, List.size_toArray, hov, hzs]; omega
      · rcases app_get hj with g | ⟨_, g⟩
        · exact hzk j row g
        · exact hyz _ row g
      · dsimp only at hj ⊢
        have hlt : j < k.xs.length + ys.length := by have := (List.getElem?_eq_some_iff.1 hj).1; simpa using this
        have hi' : i < k.sz := by
          rcases app_get hj with g | ⟨_, g⟩
          · rw [← hzk j row g]; exact (List.getElem?_eq_some_iff.1 hi).1
          · rw [← hyz _ row g]; exact (List.getElem?_eq_some_iff.1 hi).1
        have e2 : j * k.sz + k.sz ≤ (k.xs.length + ys.length) * k.sz := by rw [← Nat.succ_mul]; exact Nat.mul_le_mul_right _ (by omega)
        have hlt2 : j * k.sz + i < (olds ++ news).length := by omega
        rw [Nat.zero_add, Array.getElem?_append_left (by simpa using hlt2)]
        simp only [List.getElem?_toArray, List.getD_eq_getElem?_getD, List.getElem?_eq_getElem hlt2, Option.getD_some]
      · dsimp only at hj ⊢
        rcases app_get hj with g | ⟨g0, g⟩
        · have hlt : j < k.xs.length := (List.getElem?_eq_some_iff.1 g).1
          have hi' : i < k.sz := by rw [← hzk j row g]; exact (List.getElem?_eq_some_iff.1 hi).1
          have e2 : j * k.sz + k.sz ≤ k.xs.length * k.sz := by rw [← Nat.succ_mul]; exact Nat.mul_le_mul_right _ (by omega)
          have hlt2 : j * k.sz + i < olds.length := by omega
          have hv : olds[j * k.sz + i]? = some ((olds ++ news).getD (j * k.sz + i) undef) := by
            simp only [List.getD_eq_getElem?_getD, List.getElem?_append_left hlt2, List.getElem?_eq_getElem hlt2, Option.getD_some]
          refine ((hor j row i x _ g hi hv).world (by omega) (fun _ hk => hk) hS (fun b q hq => hO' b _ hq)).names hLn (fun b q hq => ?_)
          rw [hOw _ _ hq]
          simp [reow]
        · have hlt : j - k.xs.length < ys.length := (List.getElem?_eq_some_iff.1 g).1
          have hi' : i < k.sz := by rw [← hyz _ row g]; exact (List.getElem?_eq_some_iff.1 hi).1
          have e2 : (j - k.xs.length) * k.sz + k.sz ≤ ys.length * k.sz := by rw [← Nat.succ_mul]; exact Nat.mul_le_mul_right _ (by omega)
          have e3 : j * k.sz = k.xs.length * k.sz + (j - k.xs.length) * k.sz := by rw [← Nat.add_mul]; congr 1; omega
          have hlt2 : (j - k.xs.length) * k.sz + i < news.length := by omega
          have hv : news[(j - k.xs.length) * k.sz + i]? = some ((olds ++ news).getD (j * k.sz + i) undef) := by
            simp only [List.getD_eq_getElem?_getD]
            rw [List.getElem?_append_right (by omega), show j * k.sz + i - olds.length = (j - k.xs.length) * k.sz + i by omega, List.getElem?_eq_getElem hlt2, Option.getD_some]
          exact ((hyr _ row i x _ g hi hv).world (by omega) (fun _ hk => hk) hS (fun b q hq => absurd hq (h.ow0 b q))).names hLn (fun b q hq => absurd hq (h.ow0 b q))
    · simp only [lb, show ¬ s.nx = m from fun he => e he.symm, if_false, lb_rm] at hm
      by_cases e2 : n = m
      · simp [e2] at hm
      · rw [if_neg e2] at hm
        obtain ⟨loc3, hl3, hB3⟩ := h.blk m kk hm
        refine ⟨loc3, by simp [L', e, show ¬ m = n from fun he => e2 he.symm, hl3], (hB3.world (by omega) hS (fun b q hq => hO' b _ hq)).names hLn (fun b q hb => ?_)⟩
        rw [hOw _ _ hb, reow_other (by omega)]
  · intro m hm
    have hm' : s.nx + 1 ≤ m := hm
    simp only [L', show m ≠ s.nx by omega, show m ≠ n by omega, if_false]
    exact h.fresh m (by omega)
  · intro m hm
    have hm' : m < s.nx + 1 := hm
    by_cases e : m = s.nx
    · simp [L', e]
    · by_cases e2 : m = n
      · subst e2; simp [L', e]
      · simp only [L', e, e2, if_false]; exact h.named m (by omega)
  · intro b m q hb
    show m ≤ s.nx + 1
    by_cases e : b = w.heap.size
    · simp [Ow', e] at hb; omega
    · simp only [Ow', e, if_false, Option.map_eq_some_iff] at hb
      obtain ⟨p', hp', hq⟩ := hb
      rcases reow_head hq with e | ⟨r, rfl⟩
      · omega
      · have := h.freshO b m r hp'; omega
  · intro t x hx
    obtain ⟨v, hv, hR⟩ := h.slot t x hx
    exact ⟨v, hv, (hR.world (by omega) (fun _ hk => hk) hS (fun b q hq => absurd hq (h.ow0 b q))).names hLn (fun b q hq => absurd hq (h.ow0 b q))⟩

/-- What is appended: its rows. -/
def srcRows (s : AS) (x : Operand) : Option (List (List AV)) :=
  match ev s x with
  | some (.im _ ys) => if ys.all (·.all c1) then some ys else none
  | some (.own m z off len) => match lb s.bl m with
    | some k => if k.sz = z ∧ off + len ≤ k.xs.length ∧ ((k.xs.drop off).take len).all (·.all flat) then some ((k.xs.drop off).take len) else none
    | none => none
  | some (.v (.slice none 0 0)) => some []
  | _ => none
/-- .. of elements of so many cells. -/
def srcSz (s : AS) (x : Operand) (sz : Nat) : Bool :=
  match ev s x with
  | some (.im z _) | some (.own _ z _ _) => z == sz
  | _ => true
theorem flat_any (h : RelX C s a w S Ow L) {p p' : Path} {x : AV} {u : Value} (hf : flat x = true) (hr : Rep w S Ow L p x u) : Rep w S Ow L p' x u := hr.flat hf
theorem src_sound (h : RelX C s a w S Ow L) {x : Operand} {ys : List (List AV)} {sz : Nat} {tx e' : TypeId} (hx : srcRows s x = some ys) (hz : srcSz s x sz = true) (ht : P.underlying tx = some (.slice e')) :
    ∃ vs, Src P sz tx (a.eval x) ys.length vs w ∧ RowsR w S Ow L sz ys vs := by
  unfold srcRows at hx
  unfold srcSz at hz
  split at hx
  · rename_i z ys' hy
    split at hx
    case isFalse => cases hx
    rename_i hall
    cases hx
    simp only [hy, beq_iff_eq] at hz
    subst hz
    have hr := ev_rep h hy
    have c1_ : ∀ (j : Nat) (row : List AV) (i : Nat) (x : AV), ys[j]? = some row → row[i]? = some x → c1 x = true := fun j row i x hj hi => by
      simp only [List.all_eq_true] at hall
      exact hall row (List.mem_of_getElem? hj) x (List.mem_of_getElem? hi)
    generalize a.eval x = u at hr
    cases hr with
    | im _ _ A c ad us hc ha hS hzr hcell hrr =>
      have hlen : ((List.range (ys.length * z)).map fun q => us (q / z) (q % z)).length = ys.length * z := by simp
      have getv : ∀ (q : Nat) (v : Value), ((List.range (ys.length * z)).map fun q => us (q / z) (q % z))[q]? = some v → q < ys.length * z ∧ v = us (q / z) (q % z) := fun q v hv => by
        simp only [List.getElem?_map, Option.map_eq_some_iff] at hv
        obtain ⟨m, hm, rfl⟩ := hv
        have hlt : q < ys.length * z := by have := (List.getElem?_eq_some_iff.1 hm).1; simpa using this
        rw [List.getElem?_range hlt] at hm
        cases hm
        exact ⟨hlt, rfl⟩
      have split_ : ∀ q, q < ys.length * z → ∃ row x, ys[q / z]? = some row ∧ row[q % z]? = some x := fun q hq => by
        have hz0 : 0 < z := by rcases Nat.eq_zero_or_pos z with e | e
                               · rw [e] at hq; omega
                               · exact e
        have h1 : q / z < ys.length := (Nat.div_lt_iff_lt_mul hz0).2 hq
        have h2 := hzr _ _ (List.getElem?_eq_getElem h1)
        have h3 : q % z < ys[q / z].length := by rw [h2]; exact Nat.mod_lt _ hz0
        exact ⟨_, _, List.getElem?_eq_getElem h1, List.getElem?_eq_getElem h3⟩
      refine ⟨(List.range (ys.length * z)).map fun q => us (q / z) (q % z), ?_, hlen, fun v hv => ?_, hzr, fun j row i y v hj hi hv => ?_⟩
      · have hone : ∀ u ∈ (List.range (ys.length * z)).map fun q => us (q / z) (q % z), u.oneCell' = true := fun v hv => by
          obtain ⟨q, hq⟩ := List.getElem?_of_mem hv
          obtain ⟨hlt, rfl⟩ := getv q v hq
          obtain ⟨row, y, hrow, hy'⟩ := split_ q hlt
          exact (hrr _ row _ y hrow hy').one (c1_ _ row _ y hrow hy')
        cases hys : ys with
        | nil =>
          subst hys
          cases A with
          | none => simpa using Src.ofNil (P := P) (w := w) (size := z) ht c
          | some ad' => exact Src.ofSlice w ht ad' 0 c _ (by simp) (fun j u hu => by simp at hu) (by simp)
        | cons y0 yr =>
          have hne : ys ≠ [] := by rw [hys]; simp
          rw [← hys, ha hne]
          refine Src.ofSlice w ht ad ys.length c _ (by simp) (fun q v hv => ?_) hone
          obtain ⟨hlt, rfl⟩ := getv q v hv
          obtain ⟨row, y, hrow, hy'⟩ := split_ q hlt
          have hz0 : 0 < z := by rcases Nat.eq_zero_or_pos z with e | e
                                 · rw [e] at hlt; omega
                                 · exact e
          have := hcell _ row _ y hrow hy'
          have e1 : q / z * z + q % z = q := by rw [Nat.mul_comm]; exact Nat.div_add_mod q z
          rw [e1] at this
          have hsp := (hS hne).2.2
          have : ad.add q = ⟨ad.block, ad.off + q, none⟩ := by
            obtain ⟨bb, oo, sp⟩ := ad
            simp at hsp; subst hsp
            simp [Addr.add_lit]
          rw [this]; assumption
      · obtain ⟨q, hq⟩ := List.getElem?_of_mem hv
        obtain ⟨hlt, rfl⟩ := getv q v hq
        obtain ⟨row, y, hrow, hy'⟩ := split_ q hlt
        exact (hrr _ row _ y hrow hy').one (c1_ _ row _ y hrow hy')
      · obtain ⟨hlt, rfl⟩ := getv _ v hv
        have hi' : i < z := by rw [← hzr j row hj]; exact (List.getElem?_eq_some_iff.1 hi).1
        have hz0 : 0 < z := by omega
        have e1 : (j * z + i) / z = j := by rw [Nat.mul_comm, Nat.mul_add_div hz0, Nat.div_eq_of_lt hi', Nat.add_zero]
        have e2 : (j * z + i) % z = i := by rw [Nat.mul_comm, Nat.mul_add_mod, Nat.mod_eq_of_lt hi']
        rw [e1, e2]
        exact (hrr j row i y hj hi).any
  · rename_i m z off len hy
    split at hx
    · rename_i k hk
      split at hx
      · rename_i hc
        cases hx
        obtain ⟨hkz, hfit, hall⟩ := hc
        simp only [hy, beq_iff_eq] at hz
        subst hz
        have hr := ev_rep h hy
        generalize a.eval x = u at hr
        have fl : ∀ (j : Nat) (row : List AV) (i : Nat) (y : AV), ((k.xs.drop off).take len)[j]? = some row → row[i]? = some y → flat y = true := fun j row i y hj hi => by
          simp only [List.all_eq_true] at hall
          exact hall row (List.mem_of_getElem? hj) y (List.mem_of_getElem? hi)
        have fc : ∀ y, flat y = true → c1 y = true := fun y hf => by cases y <;> simp_all [flat, c1]
        have hlen : ((k.xs.drop off).take len).length = len := by rw [List.length_take, List.length_drop]; omega
        have sub : ∀ (j : Nat) (row : List AV), ((k.xs.drop off).take len)[j]? = some row → k.xs[off + j]? = some row := fun j row hj => by
          rw [List.getElem?_take] at hj
          split at hj
          · simpa [List.getElem?_drop] using hj
          · cases hj
        obtain ⟨loc, hl, hB⟩ := h.blk m k hk
        subst hkz
        have none_ : len = 0 → ∀ c, (∃ A, u = .slice A 0 c) → ∃ vs, Src P k.sz tx u ((k.xs.drop off).take len).length vs w ∧ RowsR w S Ow L k.sz ((k.xs.drop off).take len) vs := fun h0 c hA => by
          subst h0
          obtain ⟨A, rfl⟩ := hA
          refine ⟨[], ?_, by simp, by simp, by simp, by simp⟩
          cases A with
          | none => simpa using Src.ofNil (P := P) (w := w) (size := k.sz) ht c
          | some ad => simpa using Src.ofSlice w ht ad 0 c [] (by simp) (fun j u hu => by simp at hu) (by simp)
        cases hr with
        | own _ _ _ _ b o cap hL hle =>
          rw [hl] at hL
          cases hL
          obtain ⟨hob, cs, us, hh, hcs, hxs, hz, hcell, hrep⟩ := hB
          have hroom : (o + off) * k.sz + len * k.sz ≤ cs.size := by rw [hcs, ← Nat.add_mul]; exact Nat.mul_le_mul_right _ (by omega)
          have getv : ∀ (q : Nat) (v : Value), ((cs.toList.drop ((o + off) * k.sz)).take (len * k.sz))[q]? = some v → q < len * k.sz ∧ cs[(o + off) * k.sz + q]? = some v := fun q v hv => by
            rw [List.getElem?_take] at hv
            split at hv
            · rename_i hq; exact ⟨hq, by simpa [List.getElem?_drop] using hv⟩
            · cases hv
          have rep_ : ∀ (q : Nat) (v : Value), ((cs.toList.drop ((o + off) * k.sz)).take (len * k.sz))[q]? = some v → ∃ (j : Nat) (row : List AV) (i : Nat) (y : AV), ((k.xs.drop off).take len)[j]? = some row ∧ row[i]? = some y ∧ Rep w S Ow L [m + 1, off + j, i] y v := fun q v hv => by
            obtain ⟨hq, hc⟩ := getv q v hv
            have hz0 : 0 < k.sz := by rcases Nat.eq_zero_or_pos k.sz with e | e
                                      · rw [e] at hq; omega
                                      · exact e
            have h1 : q / k.sz < len := (Nat.div_lt_iff_lt_mul hz0).2 hq
            have hrow := List.getElem?_eq_getElem (show q / k.sz < ((k.xs.drop off).take len).length by omega)
            have h2 := hz _ _ (sub _ _ hrow)
            have h3 : q % k.sz < (((k.xs.drop off).take len)[q / k.sz]'(by omega)).length := by rw [h2]; exact Nat.mod_lt _ hz0
            refine ⟨_, _, q % k.sz, _, hrow, List.getElem?_eq_getElem h3, ?_⟩
            have g := hcell _ _ _ _ (sub _ _ hrow) (List.getElem?_eq_getElem h3)
            have e1 : (o + (off + q / k.sz)) * k.sz + q % k.sz = (o + off) * k.sz + q := by
              rw [← Nat.add_assoc, Nat.add_mul, Nat.add_assoc]; congr 1
              rw [Nat.mul_comm]; exact Nat.div_add_mod q k.sz
            rw [e1, hc] at g
            cases g
            exact hrep _ _ _ _ (sub _ _ hrow) (List.getElem?_eq_getElem h3)
          have hone : ∀ v ∈ (cs.toList.drop ((o + off) * k.sz)).take (len * k.sz), v.oneCell' = true := fun v hv => by
            obtain ⟨q, hq⟩ := List.getElem?_of_mem hv
            obtain ⟨j, row, i, y, hj, hi, hR⟩ := rep_ q v hq
            exact hR.one (fc _ (fl j row i y hj hi))
          have hvl : ((cs.toList.drop ((o + off) * k.sz)).take (len * k.sz)).length = len * k.sz := by rw [List.length_take, List.length_drop, Array.length_toList]; omega
          refine ⟨_, ?_, by rw [hvl, hlen], hone, fun j row hj => hz _ row (sub j row hj), fun j row i y v hj hi hv => ?_⟩
          · rw [hlen]
            refine Src.ofSlice w ht ⟨b, (o + off) * k.sz, none⟩ len (cap - off) _ hvl (fun q v hv => ?_) hone
            rw [Addr.add_lit, cell_of_row w b _ cs k.e (0, 0) hh]
            exact (getv q v hv).2
          · have g := hcell _ _ _ _ (sub j row hj) hi
            obtain ⟨_, hc⟩ := getv _ v hv
            have e1 : (o + (off + j)) * k.sz + i = (o + off) * k.sz + (j * k.sz + i) := by rw [← Nat.add_assoc, Nat.add_mul, Nat.add_assoc]
            rw [e1, hc] at g
            cases g
            exact (hrep _ _ _ _ (sub j row hj) hi).flat (fl j row i y hj hi)
        | own_end _ _ _ b o cap ad hL hle => exact none_ rfl 0 ⟨_, rfl⟩
        | own_nil _ _ hL => exact none_ rfl 0 ⟨_, rfl⟩
        | own_gone _ _ _ _ _ hg _ => rw [hl] at hg; cases hg
      · cases hx
    · cases hx
  · rename_i hy
    cases hx
    obtain ⟨e, _⟩ := (ev_rep h hy).v_inv
    rw [e]
    exact ⟨[], by simpa using Src.ofNil (P := P) (w := w) (size := sz) ht 0, by simp, by simp, by simp, by simp⟩
  · cases hx
end
end Go.Proofs.Ytaiefncpgkoniaa.En
