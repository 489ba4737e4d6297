/- Own words, 8: append; a slice of a slice. -/
import Derived.Test.YtaiefncpgkoniaaEn7
namespace Go.Proofs.Ytaiefncpgkoniaa.En
open Go.RowKit
set_option linter.unusedSimpArgs false
set_option linter.unusedVariables false

section
variable {C : Ctx} {s : AS} {a : Act} {w : World} {S : Nat → Prop} {Ow : Owners} {L : Names} {P : Program}

def aappend (P : Program) (s : AS) (x y : Operand) (t tx : TypeId) : Option (AV × AS) :=
  match elT P t, elT P tx, srcRows s y, ev s x with
  | some e, some _, some ys, some (.own n sz off len) => match ti P e, zc P e, lb s.bl n with
    | some i, some _, some k => if srcSz s y sz = true ∧ k.sz = sz ∧ sz = i.sz ∧ k.e = e ∧ off + len ≤ k.xs.length ∧ 1 ≤ i.bytes ∧ (len + ys.length) * i.bytes ≤ 140737488355328 then
        some (.own (s.nx + 1) sz 0 (len + ys.length), { s with bl := (s.nx + 1, { k with xs := (k.xs.drop off).take len ++ ys }) :: rm (rm s.bl n) s.nx, nx := s.nx + 2 }) else none
    | _, _, _ => none
  | some e, some _, some ys, some (.v (.slice none 0 0)) => match ti P e, zc P e with
    | some i, some _ => if srcSz s y i.sz = true ∧ 1 ≤ i.bytes ∧ ys.length * i.bytes ≤ 140737488355328 then some (.own s.nx i.sz 0 ys.length, { s with bl := (s.nx, ⟨e, i.sz, ys⟩) :: s.bl, nx := s.nx + 1 }) else none
    | _, _ => none
  | _, _, _, _ => none

theorem ti_info {t : TypeId} {i : TI} (h : ti P t = some i) : ∃ i', P.info? t = some i' ∧ i'.size = i.sz ∧ i'.bytes = i.bytes := by
  unfold ti at h
  split at h
  · rename_i d i' hd hi; cases h; exact ⟨i', hi, rfl, rfl⟩
  · cases h
theorem zc_zero {t : TypeId} {z : List AV} {i : TypeInfo} (h : zc P t = some z) (hi : P.info? t = some i) : ∃ v, i.zero = some v ∧ v.cells.size = i.size := by
  unfold zc at h
  simp only [hi, Option.bind_some, Option.bind_eq_some_iff] at h
  obtain ⟨v, hv, h⟩ := h
  split at h
  · rename_i hc; exact ⟨v, hv, hc.2⟩
  · cases h
theorem zeroCells_size (z : Array Value) (n : Nat) : (Builtin.zeroCells z n).size = n * z.size := by simp [Builtin.zeroCells]

theorem rm_rm (l : List (Nat × Blk)) (m : Nat) (x : Blk) : rm ((m, x) :: l) m = rm l m := by simp [rm]
theorem st_hd (l : List (Nat × Blk)) (m : Nat) (x y : Blk) : st ((m, x) :: l) m y = (m, y) :: l := by simp [st]

theorem own_inv {p : Path} {n sz off len : Nat} {u : Value} (hr : Rep w S Ow L p (.own n sz off len) u) : (∃ b o cap, L n = .at (some (b, o, cap)) ∧ off + len ≤ cap ∧ u = .slice (some ⟨b, (o + off) * sz, none⟩) len (cap - off)) ∨
    (∃ b o cap ad, L n = .at (some (b, o, cap)) ∧ off = cap ∧ len = 0 ∧ u = .slice (some ad) 0 0) ∨ (L n = .at none ∧ off = 0 ∧ len = 0 ∧ u = .slice none 0 0) ∨ L n = .gone := by
  cases hr with
  | own _ _ _ _ b o cap hL hle => exact .inl ⟨b, o, cap, hL, hle, rfl⟩
  | own_end _ _ _ b o cap ad hL hle => exact .inr (.inl ⟨b, o, cap, ad, hL, hle, rfl, rfl⟩)
  | own_nil _ _ hL => exact .inr (.inr (.inl ⟨hL, rfl, rfl, rfl⟩))
  | own_gone _ _ _ _ _ hL _ => exact .inr (.inr (.inr hL))

/-- A named row, whole, grows. -/
theorem grow (h : RelX C s a w S Ow L) {n : Nat} {k : Blk} {u : Value} (hk : lb s.bl n = some k) (hr : Rep w S Ow L [0] (.own n k.sz 0 k.xs.length) u) {i : TI} {z : List AV} {t tx : TypeId} (ht : elT P t = some k.e) (hi : ti P k.e = some i) (hsz : k.sz = i.sz) (hz : zc P k.e = some z)
    {ys : List (List AV)} {vs : List Value} {x : Value} (hs : Src P k.sz tx x ys.length vs w) (hR : RowsR w S Ow L k.sz ys vs) (hb : 1 ≤ i.bytes) (hfit : (k.xs.length + ys.length) * i.bytes ≤ 140737488355328) (ty : TypeId) :
    ∃ u' w' Ow' L', (Builtin.append_ #[t, tx] ty #[u, x]).run P w = .ok u' w' ∧ RelX C { s with bl := (s.nx, { k with xs := k.xs ++ ys }) :: rm s.bl n, nx := s.nx + 1 } a w' S Ow' L' ∧ Rep w' S Ow' L' [0] (.own s.nx k.sz 0 (k.xs.length + ys.length)) u' := by
  obtain ⟨i', hi', his, hib⟩ := ti_info hi
  obtain ⟨zv, hzv, hzs⟩ := zc_zero hz hi'
  have ht' := elT_run ht
  obtain ⟨loc, hl, hB⟩ := h.blk n k hk
  have hs' : Src P i'.size tx x ys.length vs w := by rw [his, ← hsz]; exact hs
  have hle1 : k.xs.length + ys.length ≤ 140737488355328 := Nat.le_trans (Nat.le_mul_of_pos_right _ hb) hfit
  have hgrow : ∀ cap, cap < k.xs.length + ys.length → Builtin.nextslicecap (k.xs.length + ys.length) cap * i'.bytes ≤ 281474976710656 := fun cap hc => growslice_fits hc (by rw [hib]; exact hfit)
  -- the new row, out of cells that are known
  have grown : ∀ (A : Option Addr) (cap : Nat) (olds : List Value), u = .slice A k.xs.length cap → cap < k.xs.length + ys.length → (Builtin.firstCells i'.size k.xs.length (.slice A k.xs.length cap)).run P w.drew = .ok olds.toArray w.drew → olds.length = k.xs.length * k.sz →
      (∀ (j : Nat) (row : List AV), k.xs[j]? = some row → row.length = k.sz) → (∀ (j : Nat) (row : List AV) (i : Nat) (x : AV) (v : Value), k.xs[j]? = some row → row[i]? = some x → olds[j * k.sz + i]? = some v → Rep w S Ow L [n + 1, j, i] x v) →
      ∃ u' w' Ow' L', (Builtin.append_ #[t, tx] ty #[u, x]).run P w = .ok u' w' ∧ RelX C { s with bl := (s.nx, { k with xs := k.xs ++ ys }) :: rm s.bl n, nx := s.nx + 1 } a w' S Ow' L' ∧ Rep w' S Ow' L' [0] (.own s.nx k.sz 0 (k.xs.length + ys.length)) u' := by
    intro A cap olds hu hcap hold hol hzk hor
    have hrun := run_append_grow_src (P := P) w t tx ty k.e i' zv ht' hi' hzv A k.xs.length cap olds hold x ys.length vs hs' hcap (by omega) (hgrow cap hcap)
    rw [← hu] at hrun
    have hge : k.xs.length + ys.length ≤ grownCap w (k.xs.length + ys.length) cap k.e := by unfold grownCap; simp only [Question.cut]; omega
    have hD := h.drawn (w' := w.drew) rfl rfl rfl rfl
    have hrD : ∀ (p : Path) (x : AV) (v : Value), Rep w S Ow L p x v → Rep w.drew S Ow L p x v := fun p x v hx => hx.world (Nat.le_refl _) (fun _ hk => hk) (fun _ _ => rfl) (fun _ _ _ => rfl)
    obtain ⟨Ow', L', hR', hL'⟩ := hD.reloc hk ys olds vs (Builtin.zeroCells zv.cells (grownCap w (k.xs.length + ys.length) cap k.e - (k.xs.length + ys.length))) (grownCap w (k.xs.length + ys.length) cap k.e) hol hzk (fun j row i x v hj hi hv => hrD _ _ _ (hor j row i x v hj hi hv))
      ⟨hR.1, hR.2.1, hR.2.2.1, fun j row i x v hj hi hv => hrD _ _ _ (hR.2.2.2 j row i x v hj hi hv)⟩ hge (by rw [zeroCells_size, hzs, his, hsz])
    refine ⟨_, _, Ow', L', hrun, hR', ?_⟩
    have := Rep.own (w := w.drew.alloc (.cells ((olds ++ vs).toArray ++ Builtin.zeroCells zv.cells (grownCap w (k.xs.length + ys.length) cap k.e - (k.xs.length + ys.length))) k.e)) (S := S) (Ow := Ow') (L := L') (p := [0]) s.nx k.sz 0 (k.xs.length + ys.length) w.heap.size 0 (grownCap w (k.xs.length + ys.length) cap k.e) hL' (by omega)
    simpa using this
  have stays : ∀ (A : Option Addr) (cap : Nat), u = .slice A k.xs.length cap → k.xs.length + ys.length ≤ cap → ys = [] → (A = none ∨ ∃ ad, A = some ad) → ∃ u' w' Ow' L', (Builtin.append_ #[t, tx] ty #[u, x]).run P w = .ok u' w' ∧ RelX C { s with bl := (s.nx, { k with xs := k.xs ++ ys }) :: rm s.bl n, nx := s.nx + 1 } a w' S Ow' L' ∧ Rep w' S Ow' L' [0] (.own s.nx k.sz 0 (k.xs.length + ys.length)) u' := by
    intro A cap hu hcap hys hA
    subst hys
    have hvs : vs = [] := List.eq_nil_of_length_eq_zero (by simpa using hR.1)
    subst hvs
    obtain ⟨Ow', L', loc', hR', _, hrep', _⟩ := h.rename hk rfl (off := 0) (len := k.xs.length) (by omega) hr
    refine ⟨u, w, Ow', L', ?_, by simpa using hR', by simpa using hrep'⟩
    subst hu
    have hc0 : (Builtin.firstCells i'.size 0 x).run P w = .ok #[] w := hs'.cells
    have hl0 : ∀ w' : World, (Builtin.lenOf x).run P w' = .ok 0 w' := hs'.len
    rcases hs'.kind with ⟨e', hkk⟩ | hkk <;> cases A <;> simp [Builtin.append_, run_underlying ht', run_underlying hkk, sizeOf, typeInfo, hi', hl0, show k.xs.length ≤ cap by simpa using hcap, hc0, storeCells]
  have empty_ : ∀ A : Option Addr, k.xs.length = 0 → u = .slice A 0 0 → ∃ u' w' Ow' L', (Builtin.append_ #[t, tx] ty #[u, x]).run P w = .ok u' w' ∧ RelX C { s with bl := (s.nx, { k with xs := k.xs ++ ys }) :: rm s.bl n, nx := s.nx + 1 } a w' S Ow' L' ∧ Rep w' S Ow' L' [0] (.own s.nx k.sz 0 (k.xs.length + ys.length)) u' := by
    intro A h0 hu
    have hx0 : k.xs = [] := List.eq_nil_of_length_eq_zero h0
    by_cases hys : ys = []
    · exact stays A 0 (by rw [hu, h0]) (by rw [h0, hys]; simp) hys (by cases A <;> simp)
    · have hpos : 0 < ys.length := List.length_pos_iff.2 hys
      refine grown A 0 [] (by rw [hu, h0]) (by omega) ?_ (by simp [h0]) (by simp [hx0]) (by simp [hx0])
      rw [h0]
      cases A with
      | none => exact run_firstCells_none w.drew i'.size 0 0 0
      | some ad => exact run_firstCells_some w.drew i'.size 0 ad 0 0 [] (by simp) (fun j v hv => by simp at hv)
  rcases own_inv hr with ⟨b, o, cap, hL, hle, rfl⟩ | ⟨b, o, cap, ad, hL, hle, h0, hu⟩ | ⟨hL, _, h0, hu⟩ | hg
  · rw [hl] at hL
    cases hL
    have hBB := hB
    obtain ⟨hob, cs, us, hh, hcs, hxs, hzk, hcell, hrep⟩ := hBB
    by_cases hroom : k.xs.length + ys.length ≤ cap
    · -- there is room
      obtain ⟨w', hrun, hX⟩ := h.extend (P := P) hk hl ys vs hR hroom
      have hu : Rep w' S Ow L [0] (.own n k.sz 0 (k.xs.length + ys.length)) (.slice (some ⟨b, (o + 0) * k.sz, none⟩) (k.xs.length + ys.length) (cap - 0)) := .own n k.sz 0 _ b o cap hl (by omega)
      have hk2 : lb (st s.bl n { k with xs := k.xs ++ ys }) n = some { k with xs := k.xs ++ ys } := by rw [lb_st, if_pos rfl, hk]; rfl
      obtain ⟨Ow', L', loc', hR', _, hrep', _⟩ := hX.rename hk2 rfl (off := 0) (len := k.xs.length + ys.length) (by simp) hu
      refine ⟨_, w', Ow', L', ?_, ?_, hrep'⟩
      · have hst : (storeCells ⟨b, o * k.sz + k.xs.length * i'.size, none⟩ vs).run P w = .ok () w' := by
          rw [his, ← hsz, ← Nat.add_mul]; exact hrun
        rcases hs'.kind with ⟨e', hkk⟩ | hkk <;> simp [Builtin.append_, run_underlying ht', run_underlying hkk, sizeOf, typeInfo, hi', hs'.len, hroom, hs'.cells, Addr.add_lit, hst]
      · have e1 : rm (st s.bl n { k with xs := k.xs ++ ys }) n = rm s.bl n := by
          clear hX hk2 hR' hrep' hu hrun hk
          induction s.bl with
          | nil => rfl
          | cons p r ih =>
            obtain ⟨q, y⟩ := p
            by_cases e : q = n
            · simp [st, rm, e]
            · simp [st, rm, e, ih]
        have e2 : (List.drop 0 (k.xs ++ ys)).take (k.xs.length + ys.length) = k.xs ++ ys := by rw [List.drop_zero]; exact List.take_of_length_le (by simp)
        rw [e1, e2] at hR'
        exact hR'
    · obtain ⟨olds, hol, hoc, hor⟩ := row_cells hB
      refine grown (some ⟨b, (o + 0) * k.sz, none⟩) (cap - 0) olds rfl (by omega) ?_ hol hzk hor
      have := run_firstCells_some (P := P) w.drew i'.size k.xs.length ⟨b, o * k.sz, none⟩ k.xs.length cap olds (by rw [hol, his, hsz]) (fun j v hv => by rw [Addr.add_lit]; exact hoc j v hv)
      simpa using this
  · exact empty_ (some ad) h0 hu
  · exact empty_ none h0 hu
  · rw [hl] at hg; cases hg

theorem rm_rm2 (l : List (Nat × Blk)) (m : Nat) (x : Blk) : rm ((m, x) :: l) m = rm l m := by simp [rm]

theorem aappend_sound (h : RelX C s a w S Ow L) {o : Oper} {x y : Operand} {t tx : TypeId} (ho : o.op = .call { callee := .builtin .append, args := #[x, y], argTypes := #[t, tx] }) {v : AV} {s' : AS} (hx : aappend P s x y t tx = some (v, s')) :
    ∃ u w' Ow' L', (execOp a.eval o).run P w = .ok (.value u) w' ∧ RelX C s' a w' S Ow' L' ∧ Rep w' S Ow' L' [0] v u := by
  have hexec : ∀ u w', (Builtin.append_ #[t, tx] o.type #[a.eval x, a.eval y]).run P w = .ok u w' → (execOp a.eval o).run P w = .ok (.value u) w' := fun u w' hr => by
    unfold execOp
    simp [ho, resolve, invoke, builtin, hr]
  unfold aappend at hx
  split at hx
  · rename_i e e2 ys n sz off len he he2 hys hd
    split at hx
    · rename_i i z k hi hz hk
      split at hx
      · rename_i hc
        simp only [Option.some.injEq, Prod.mk.injEq] at hx
        obtain ⟨rfl, rfl⟩ := hx
        obtain ⟨hsrc, hksz, hsi, hke, hfit, hb, hsize⟩ := hc
        subst hksz
        subst hke
        obtain ⟨vs, hs, hR⟩ := src_sound (P := P) h hys hsrc (elT_run he2)
        obtain ⟨Ow1, L1, loc, hX, hL1, hr1, hmv⟩ := h.rename hk rfl hfit (ev_rep h hd)
        have hlen : ((k.xs.drop off).take len).length = len := by rw [List.length_take, List.length_drop]; omega
        have hk1 : lb ((s.nx, { k with xs := (k.xs.drop off).take len }) :: rm s.bl n) s.nx = some { k with xs := (k.xs.drop off).take len } := by simp [lb]
        obtain ⟨u', w', Ow', L', hrun, hX', hr'⟩ := grow (P := P) hX hk1 (by simpa [hlen] using hr1) he hi hsi hz hs ⟨hR.1, hR.2.1, hR.2.2.1, fun j row i x v hj hi hv => hmv x v (hR.2.2.2 j row i x v hj hi hv)⟩ hb (by simpa [hlen] using hsize) o.type
        refine ⟨u', w', Ow', L', hexec _ _ hrun, ?_, by simpa [hlen] using hr'⟩
        simpa [rm_rm] using hX'
      · cases hx
    · cases hx
  · rename_i e e2 ys he he2 hys hd
    split at hx
    · rename_i i z hi hz
      split at hx
      · rename_i hc
        simp only [Option.some.injEq, Prod.mk.injEq] at hx
        obtain ⟨rfl, rfl⟩ := hx
        obtain ⟨hsrc, hb, hsize⟩ := hc
        obtain ⟨eu, _⟩ := (ev_rep h hd).v_inv
        obtain ⟨vs, hs, hR⟩ := src_sound (P := P) h hys hsrc (elT_run he2)
        obtain ⟨i', hi', his, hib⟩ := ti_info hi
        obtain ⟨zv, hzv, hzs⟩ := zc_zero hz hi'
        have hs' : Src P i'.size tx (a.eval y) ys.length vs w := by rw [his]; exact hs
        have hle1 : ys.length ≤ 140737488355328 := Nat.le_trans (Nat.le_mul_of_pos_right _ hb) hsize
        by_cases h0 : ys = []
        · subst h0
          have hc0 : (Builtin.firstCells i'.size 0 (a.eval y)).run P w = .ok vs.toArray w := hs'.cells
          have hl0 : ∀ w' : World, (Builtin.lenOf (a.eval y)).run P w' = .ok 0 w' := hs'.len
          obtain ⟨L', hX, hL, _⟩ := h.allocNil ⟨e, i.sz, []⟩ rfl
          refine ⟨.slice none 0 0, w, Ow, L', hexec _ _ ?_, hX, .own_nil s.nx i.sz hL⟩
          rw [eu]
          simp [Builtin.append_, run_underlying (elT_run he), run_underlying (elT_run he2), sizeOf, typeInfo, hi', hl0, hc0]
        · have hpos : 0 < ys.length := List.length_pos_iff.2 h0
          have hD := h.drawn (w' := w.drew) rfl rfl rfl rfl
          have hrD : ∀ (p : Path) (x : AV) (v : Value), Rep w S Ow L p x v → Rep w.drew S Ow L p x v := fun p x v hx => hx.world (Nat.le_refl _) (fun _ hk => hk) (fun _ _ => rfl) (fun _ _ _ => rfl)
          have hrun := run_append_grow_src (P := P) w t tx o.type e i' zv (elT_run he) hi' hzv none 0 0 [] (run_firstCells_none w.drew i'.size 0 0 0) (a.eval y) ys.length vs hs' (by omega) (by omega) (growslice_fits (by omega) (by rw [hib]; simpa using hsize))
          simp only [Nat.zero_add, List.nil_append] at hrun
          have hge : ys.length ≤ grownCap w ys.length 0 e := by unfold grownCap; simp only [Question.cut]; omega
          have hvl := hR.1
          have hget : ∀ (j : Nat) (row : List AV) (q : Nat) (x : AV), ys[j]? = some row → row[q]? = some x → j * i.sz + q < vs.length := fun j row q x hj hq => by
            have hlt : j < ys.length := (List.getElem?_eq_some_iff.1 hj).1
            have hq' : q < i.sz := by rw [← hR.2.2.1 j row hj]; exact (List.getElem?_eq_some_iff.1 hq).1
            have : j * i.sz + i.sz ≤ ys.length * i.sz := by rw [← Nat.succ_mul]; exact Nat.mul_le_mul_right _ (by omega)
            omega
          obtain ⟨Ow', L', hX, hL, _⟩ := hD.alloc ⟨e, i.sz, ys⟩ (vs.toArray ++ Builtin.zeroCells zv.cells (grownCap w ys.length 0 e - ys.length)) (grownCap w ys.length 0 e) (fun j q => vs.getD (j * i.sz + q) undef) (by
              simp only [Array.size_append, List.size_toArray, zeroCells_size, hzs, his, hvl]
              rw [← Nat.add_mul]; congr 1; omega) hge hR.2.2.1 (fun j row q x hj hq => by
              have := hget j row q x hj hq
              show (vs.toArray ++ _)[j * i.sz + q]? = _
              rw [Array.getElem?_append_left (by simpa using this)]
              simp [this]) (fun j row q x hj hq => hrD _ _ _ (hR.2.2.2 j row q x _ hj hq (by simp [hget j row q x hj hq])))
          refine ⟨_, _, Ow', L', hexec _ _ (by rw [eu]; exact hrun), hX, ?_⟩
          have := Rep.own (w := w.drew.alloc (.cells (vs.toArray ++ Builtin.zeroCells zv.cells (grownCap w ys.length 0 e - ys.length)) e)) (S := S) (Ow := Ow') (L := L') (p := [0]) s.nx i.sz 0 ys.length w.heap.size 0 (grownCap w ys.length 0 e) hL (by omega)
          simpa using this
      · cases hx
    · cases hx
  · cases hx

/-- A bound of a slice expression. -/
def bnd (s : AS) (x : Option Operand) (d : Nat) : Option Nat :=
  match x with
  | none => some d
  | some x => match ev s x with
    | some (.v (.int .i64 z)) => if 0 ≤ z then some z.toNat else none
    | _ => none
def aslice (P : Program) (s : AS) (t : TypeId) (x : Operand) (lo hi : Option Operand) : Option AV :=
  match elT P t, ev s x with
  | some e, some (.own n sz off len) => match ti P e, lb s.bl n, bnd s lo 0, bnd s hi len with
    | some i, some _, some l, some h => if i.sz = sz ∧ l ≤ h ∧ h ≤ len then some (.own n sz (off + l) (h - l)) else none
    | _, _, _, _ => none
  | some e, some (.im sz xs) => match ti P e, bnd s lo 0, bnd s hi xs.length with
    | some i, some l, some h => if i.sz = sz ∧ l ≤ h ∧ h ≤ xs.length then some (.im sz ((xs.take h).drop l)) else none
    | _, _, _ => none
  | _, _ => none
theorem bnd_run (h : RelX C s a w S Ow L) {x : Option Operand} {d q m : Nat} {code : BoundsCode} (hx : bnd s x d = some q) (hq : q ≤ m) (y : Operand) (hy : x = some y) : (Instr.sliceBound (a.eval y) m code).run P w = .ok q w := by
  subst hy
  simp only [bnd] at hx
  split at hx
  · rename_i z hz
    split at hx
    · rename_i h0
      cases hx
      obtain ⟨e, _⟩ := (ev_rep h hz).v_inv
      have : z ≤ (m : Int) := by omega
      simp [Instr.sliceBound, asIntOf, e, h0, this]
    · cases hx
  · cases hx
theorem bounds_run (h : RelX C s a w S Ow L) {lo hi : Option Operand} {l q len cap : Nat} (hl : bnd s lo 0 = some l) (hq : bnd s hi len = some q) (h1 : l ≤ q) (h2 : q ≤ len) (h3 : len ≤ cap) :
    (Instr.sliceBounds true len cap (lo.map a.eval) (hi.map a.eval) none).run P w = .ok (l, q, cap) w := by
  unfold Instr.sliceBounds
  cases hi with
  | none =>
    simp only [bnd, Option.some.injEq] at hq
    subst hq
    cases lo with
    | none => simp only [bnd, Option.some.injEq] at hl; subst hl; simp
    | some y => simp [bnd_run (P := P) h hl h1 y rfl]
  | some z =>
    have hz := bnd_run (P := P) (m := cap) (code := .sliceAcap) h hq (by omega) z rfl
    cases lo with
    | none => simp only [bnd, Option.some.injEq] at hl; subst hl; simp [hz]
    | some y => simp [hz, bnd_run (P := P) h hl h1 y rfl]
theorem aslice_sound (h : RelX C s a w S Ow L) {o : Oper} {t : TypeId} {x : Operand} {lo hi : Option Operand} (ho : o.op = .slice t x lo hi none) {v : AV} (hx : aslice P s t x lo hi = some v) :
    ∃ u, (execOp a.eval o).run P w = .ok (.value u) w ∧ Rep w S Ow L [0] v u := by
  unfold aslice at hx
  split at hx
  · rename_i e n sz off len he hv
    split at hx
    · rename_i i k l q hi' hk hl hq
      split at hx
      · rename_i hc
        cases hx
        obtain ⟨hsz, h1, h2⟩ := hc
        obtain ⟨loc, hloc, hB⟩ := h.blk n k hk
        have hu := elT_run he
        rcases own_inv (ev_rep h hv) with ⟨b, o', cap, hL, hle, eu⟩ | ⟨b, o', cap, ad, hL, hle, h0, eu⟩ | ⟨hL, hoff, h0, eu⟩ | hg
        · have hb := bounds_run (P := P) h hl hq h1 h2 (show len ≤ cap - off by omega)
          by_cases hcl : cap - off = l
          · refine ⟨.slice (some ⟨b, (o' + off) * sz, none⟩) (q - l) (cap - off - l), ?_, ?_⟩
            · rw [hcl] at hb
              unfold execOp
              simp [ho, Instr.sliceAt, Instr.slice, run_underlying hu, eu, hb, ti_size hi', hcl]
            · rw [show q - l = 0 by omega, show cap - off - l = 0 by omega]
              exact .own_end n sz (off + l) b o' cap _ hL (by omega)
          · refine ⟨.slice (some (Addr.add ⟨b, (o' + off) * sz, none⟩ (l * sz))) (q - l) (cap - off - l), ?_, ?_⟩
            · unfold execOp
              simp [ho, Instr.sliceAt, Instr.slice, run_underlying hu, eu, hb, ti_size hi', hcl, hsz]
            · have := Rep.own (w := w) (S := S) (Ow := Ow) (L := L) (p := [0]) n sz (off + l) (q - l) b o' cap hL (by omega)
              rw [Addr.add_lit, ← Nat.add_mul, show o' + off + l = o' + (off + l) by omega, show cap - off - l = cap - (off + l) by omega]
              exact this
        · subst h0
          have hq0 : q = 0 := by omega
          have hl0 : l = 0 := by omega
          subst hq0 hl0
          have hb := bounds_run (P := P) h hl hq h1 h2 (Nat.le_refl 0)
          refine ⟨.slice (some ad) 0 0, ?_, .own_end n sz (off + 0) b o' cap ad hL (by omega)⟩
          unfold execOp
          simp [ho, Instr.sliceAt, Instr.slice, run_underlying hu, eu, hb, ti_size hi']
        · subst h0
          have hq0 : q = 0 := by omega
          have hl0 : l = 0 := by omega
          subst hq0 hl0 hoff
          have hb := bounds_run (P := P) h hl hq h1 h2 (Nat.le_refl 0)
          refine ⟨.slice none 0 0, ?_, .own_nil n sz hL⟩
          unfold execOp
          simp [ho, Instr.sliceAt, Instr.slice, run_underlying hu, eu, hb, ti_size hi']
        · rw [hloc] at hg; cases hg
      · cases hx
    · cases hx
  · rename_i e sz xs he hv
    split at hx
    · rename_i i l q hi' hl hq
      split at hx
      · rename_i hc
        cases hx
        obtain ⟨hsz, h1, h2⟩ := hc
        have hu := elT_run he
        have hr := ev_rep h hv
        generalize eu : a.eval x = u at hr
        cases hr with
        | im _ _ A c ad us hc ha hS hz hcell hrr =>
          have hb := bounds_run (P := P) h hl hq h1 h2 hc
          have hlen : ((xs.take q).drop l).length = q - l := by rw [List.length_drop, List.length_take]; omega
          have sub : ∀ (j : Nat) (row : List AV), ((xs.take q).drop l)[j]? = some row → xs[l + j]? = some row := fun j row hj => by
            rw [List.getElem?_drop, List.getElem?_take] at hj
            split at hj
            · exact hj
            · cases hj
          have mk : ∀ A', ((xs.take q).drop l ≠ [] → A' = some (ad.add (l * sz))) → Rep w S Ow L [0] (.im sz ((xs.take q).drop l)) (.slice A' (q - l) (c - l)) := fun A' hA' => by
            have hbl : (ad.add (l * sz)).block = ad.block := by unfold Addr.add; split <;> rfl
            have hof : (ad.add (l * sz)).off = ad.off + l * sz := by unfold Addr.add; split <;> simp_all
            have ne : (xs.take q).drop l ≠ [] → xs ≠ [] := fun h e => h (by simp [e])
            rw [← hlen]
            refine .im sz _ A' (c - l) (ad.add (l * sz)) (fun j i => us (l + j) i) (by omega) hA' (fun hne => ?_) (fun j row hj => hz _ row (sub j row hj)) (fun j row i' y hj hi => ?_) (fun j row i' y hj hi => hrr _ row i' y (sub j row hj) hi)
            · have := hS (ne hne)
              refine ⟨by rw [hbl]; exact this.1, by rw [hbl]; exact this.2.1, ?_⟩
              unfold Addr.add; split
              · exact this.2.2
              · rfl
            · have := hcell _ row i' y (sub j row hj) hi
              rw [hbl, hof, Nat.add_assoc, ← Nat.add_assoc (l * sz), ← Nat.add_mul]
              exact this
          by_cases hcl : c = l
          · refine ⟨.slice A (q - l) (c - l), ?_, mk A (fun hne => absurd (List.eq_nil_of_length_eq_zero (by omega)) hne)⟩
            rw [hcl] at hb
            unfold execOp
            simp [ho, Instr.sliceAt, Instr.slice, run_underlying hu, eu, hb, ti_size hi', hcl]
          · refine ⟨.slice (A.map (·.add (l * sz))) (q - l) (c - l), ?_, mk _ (fun hne => ?_)⟩
            · unfold execOp
              simp [ho, Instr.sliceAt, Instr.slice, run_underlying hu, eu, hb, ti_size hi', hcl, hsz]
            · have : xs ≠ [] := fun e => hne (by simp [e])
              rw [ha this]; rfl
      · cases hx
    · cases hx
  · cases hx
end
end Go.Proofs.Ytaiefncpgkoniaa.En
