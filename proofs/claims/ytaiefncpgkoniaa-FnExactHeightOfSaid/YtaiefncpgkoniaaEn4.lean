/- Own words, 4: operations that read, write and make memory. -/
import Derived.Test.YtaiefncpgkoniaaEn3
import Derived.Laws.CopyRow
import Derived.Laws.Cells
import Derived.Laws.Tables
namespace Go.Proofs.Ytaiefncpgkoniaa.En
open Go.RowKit
set_option linter.unusedSimpArgs false
set_option linter.unusedVariables false

def cel : AV → List AV
  | .ag xs => xs
  | x => [x]
/-- A value of one cell. -/
def ok1 (s : AS) : AV → Bool
  | .ag _ | .tu _ | .ow _ _ _ => false
  | _ => true
/-- Cells put in place of those from i on. -/
def spl (row : List AV) (i : Nat) : List AV → List AV
  | [y] => row.set i y
  | ys => row.take i ++ ys ++ row.drop (i + ys.length)
/-- A type's zero value, its cells. -/
def zc (P : Program) (t : TypeId) : Option (List AV) := (P.info? t).bind fun i => i.zero.bind fun z => if z.cells.all Value.oneCell' ∧ z.cells.size = i.size then some (z.cells.toList.map .v) else none

def loadOne (s : AS) (n : Nat) (b : Blk) (j : Nat) (row : List AV) (i : Nat) : Option (AV × AS) :=
  match row[i]? with
  | some (.ow e z ys) => some (.own s.nx z 0 ys.length, { s with bl := (s.nx, ⟨e, z, ys⟩) :: st s.bl n { b with xs := b.xs.set j (row.set i (.own s.nx z 0 ys.length)) }, nx := s.nx + 1 })
  | some y => if flat y then some (y, s) else none
  | none => none

section
variable {C : Ctx} {s : AS} {a : Act} {w : World} {S : Nat → Prop} {Ow : Owners} {L : Names} {P : Program}

theorem ok1_cell (h : RelX C s a w S Ow L) {x : AV} {u : Value} {p : Path} (hr : Rep w S Ow L p x u) (hk : ok1 s x = true) : u.oneCell' = true :=
  hr.one (by cases x <;> simp_all [ok1, c1])
/-- A slot's value, its cells. -/
theorem cel_rep (h : RelX C s a w S Ow L) {x : AV} {u : Value} (hr : Rep w S Ow L [0] x u) (hk : (cel x).all (ok1 s) = true) :
    u.cells.size = (cel x).length ∧ (∀ v ∈ u.cells.toList, v.oneCell' = true) ∧ ∀ (i : Nat) (y : AV) (v : Value) (p : Path), (cel x)[i]? = some y → u.cells[i]? = some v → Rep w S Ow L p y v := by
  have any : ∀ (y : AV) (v : Value) (p p' : Path), (∃ q, p = 0 :: q) → Rep w S Ow L p y v → Rep w S Ow L p' y v := by
    rintro y v p p' ⟨q, rfl⟩ hy
    exact hy.names (fun _ => .inr (.inl rfl)) (fun b q' hq => absurd hq (h.ow0 b _))
  cases hx : x with
  | ag xs =>
    rw [hx] at hr hk
    obtain ⟨us, rfl, hl, hR⟩ := hr.ag_inv
    simp only [cel, List.all_eq_true] at hk ⊢
    refine ⟨by simpa [Value.cells] using hl, fun v hv => ?_, fun i y v p hy hv => ?_⟩
    · simp only [Value.cells] at hv
      obtain ⟨i, hi⟩ := List.getElem?_of_mem hv
      have hlt : i < xs.length := by have := (List.getElem?_eq_some_iff.1 hi).1; omega
      exact ok1_cell h (hR i xs[i] v (List.getElem?_eq_getElem hlt) hi) (hk _ (List.getElem_mem hlt))
    · exact any y v _ p ⟨_, rfl⟩ (hR i y v hy (by simpa [Value.cells] using hv))
  | tu xs => rw [hx] at hk; simp [cel, ok1] at hk
  | ow e z ys => rw [hx] at hk; simp [cel, ok1] at hk
  | _ =>
    rw [hx] at hr hk
    simp only [cel, List.all_cons, List.all_nil, Bool.and_true] at hk
    have h1 := ok1_cell h hr hk
    have e : u.cells = #[u] := by cases u <;> simp_all [Value.cells, Value.oneCell']
    refine ⟨by simp [e, cel], fun v hv => by rw [e] at hv; simp at hv; subst hv; exact h1, fun i y v p hy hv => ?_⟩
    rw [e] at hv
    have hi0 : i = 0 := by have := (Array.getElem?_eq_some_iff.1 hv).1; simpa using this
    subst hi0
    simp [cel] at hy hv
    subst hy hv
    exact any _ _ _ p ⟨_, rfl⟩ hr

theorem zc_run {t : TypeId} {z : List AV} {i : TI} (hz : zc P t = some z) (hi : ti P t = some i) : ∃ v, (zeroValue t).run P w = .ok v w ∧ v.cells.size = i.sz ∧ z = v.cells.toList.map .v ∧ ∀ x ∈ v.cells.toList, x.oneCell' = true := by
  unfold zc at hz
  unfold ti at hi
  split at hi
  · rename_i d i' hd hi'
    cases hi
    simp only [hi', Option.bind_some, Option.bind_eq_some_iff] at hz
    obtain ⟨v, hv, hz⟩ := hz
    split at hz
    · rename_i hc
      cases hz
      refine ⟨v, by simp [zeroValue, typeInfo, hi', hv], hc.2, rfl, fun x hx => ?_⟩
      have := hc.1
      rw [Array.all_eq_true_iff_forall_mem] at this
      exact this x (by simpa using hx)
    · cases hz
  · cases hi

/-- A new variable in memory. -/
theorem newVar_sound (h : RelX C s a w S Ow L) (t : TypeId) (u : Value) (xs : List AV) (hl : u.cells.size = xs.length) (hr : ∀ (i : Nat) (y : AV) (v : Value), xs[i]? = some y → u.cells[i]? = some v → Rep w S Ow L [0] y v) :
    ∃ w' Ow' L', (newVar t u).run P w = .ok ⟨w.heap.size, 0, none⟩ w' ∧ RelX C { s with bl := (s.nx, ⟨t, xs.length, [xs]⟩) :: s.bl, nx := s.nx + 1 } a w' S Ow' L' ∧ Rep w' S Ow' L' [0] (.pb s.nx xs.length 0 0) (.pointer (some ⟨w.heap.size, 0, none⟩)) := by
  obtain ⟨Ow', L', hR, hL, _⟩ := h.alloc ⟨t, xs.length, [xs]⟩ u.cells 1 (fun _ i => u.cells.getD i undef) (by simpa using hl) (by simp) (fun j row hj => by
      cases j with
      | zero => simp at hj; subst hj; rfl
      | succ j => simp at hj)
    (fun j row i x hj hi => by
      cases j with
      | succ j => simp at hj
      | zero =>
        simp at hj; subst hj
        have hlt : i < u.cells.size := by have := (List.getElem?_eq_some_iff.1 hi).1; omega
        simp [hlt])
    (fun j row i x hj hi => by
      cases j with
      | succ j => simp at hj
      | zero =>
        simp at hj; subst hj
        have hlt : i < u.cells.size := by have := (List.getElem?_eq_some_iff.1 hi).1; omega
        exact hr i x _ hi (by simp [hlt]))
  refine ⟨_, Ow', L', by simp [newVar, newRow], hR, ?_⟩
  have := Rep.pb (w := w.alloc (.cells u.cells t)) (S := S) (Ow := Ow') (L := L') (p := [0]) s.nx xs.length 0 0 w.heap.size 0 1 hL
  simpa using this

theorem blk_row {n : Nat} {k : Blk} {loc : Loc} {j : Nat} {row : List AV} (hB : BlkRep w S Ow L n k loc) (hj : k.xs[j]? = some row) : ∃ b o cap, loc = some (b, o, cap) ∧ Ow b = some [n + 1] ∧ row.length = k.sz ∧ ∃ (cs : Array Value) (us : Nat → Value), w.heap[b]? = some (.cells cs k.e (0, 0)) ∧ (o + j) * k.sz + k.sz ≤ cs.size ∧
    (∀ (i : Nat) (x : AV), row[i]? = some x → cs[(o + j) * k.sz + i]? = some (us i)) ∧ ∀ (i : Nat) (x : AV), row[i]? = some x → Rep w S Ow L [n + 1, j, i] x (us i) := by
  cases loc with
  | none => rw [show k.xs = [] from hB] at hj; simp at hj
  | some l =>
    obtain ⟨b, o, cap⟩ := l
    obtain ⟨h1, cs, us, h2, h3, h4, h5, h6, h7⟩ := hB
    have hlt : j < k.xs.length := (List.getElem?_eq_some_iff.1 hj).1
    refine ⟨b, o, cap, rfl, h1, h5 j row hj, cs, us j, h2, ?_, fun i x hi => h6 j row i x hj hi, fun i x hi => h7 j row i x hj hi⟩
    rw [h3]
    have : (o + j) * k.sz + k.sz = (o + j + 1) * k.sz := by rw [Nat.succ_mul]
    rw [this]
    exact Nat.mul_le_mul_right _ (by omega)

/-- A slice inside a named row gets a name of its own. -/
def reown (n j i m : Nat) : Path → Path
  | a :: b :: c :: r => if a = n + 1 ∧ b = j ∧ c = i then (m + 1) :: r else a :: b :: c :: r
  | p => p
theorem reown_pre (n j i m : Nat) (q : Path) : reown n j i m ([n + 1, j, i] ++ q) = (m + 1) :: q := by simp [reown]
theorem reown_other {n j i m : Nat} {p : Path} (h : ∀ q, p ≠ [n + 1, j, i] ++ q) : reown n j i m p = p := by
  unfold reown
  split
  · rename_i a b c r
    split
    · rename_i e
      obtain ⟨rfl, rfl, rfl⟩ := e
      exact absurd rfl (h r)
    · rfl
  · rfl
theorem RelX.openOw (h : RelX C s a w S Ow L) {n j i : Nat} {b : Blk} {row : List AV} {e : TypeId} {z : Nat} {ys : List (List AV)} (hb : lb s.bl n = some b) (hrow : b.xs[j]? = some row) (hi : row[i]? = some (.ow e z ys)) :
    ∃ Ow' L' u, RelX C { s with bl := (s.nx, ⟨e, z, ys⟩) :: st s.bl n { b with xs := b.xs.set j (row.set i (.own s.nx z 0 ys.length)) }, nx := s.nx + 1 } a w S Ow' L' ∧ Rep w S Ow' L' [0] (.own s.nx z 0 ys.length) u ∧
      ∃ b' o' cap, L n = .at (some (b', o', cap)) ∧ w.cell? ⟨b', (o' + j) * b.sz + i, none⟩ = some u := by
  obtain ⟨loc, hl, hB⟩ := h.blk n b hb
  obtain ⟨b', o', cap, rfl, hob, hrl, cs, us, hh, hfit, hcell, hrep⟩ := blk_row hB hrow
  have hne : n ≠ s.nx := fun e' => by
    have := h.fresh n (by omega)
    rw [hl] at this; cases this
  have hnx : n < s.nx := by
    rcases Nat.lt_or_ge n s.nx with g | g
    · exact g
    · have := h.fresh n g
      rw [hl] at this; cases this
  have hu := hrep i _ hi
  -- where the inner slice lies
  obtain ⟨loc2, hloc2, hrep2⟩ : ∃ loc2 : Loc, (∀ Ow' L', (∀ k p, Ow k = some p → Ow' k = some (reown n j i s.nx p)) → L' s.nx = .at loc2 → BlkRep w S Ow' L' s.nx ⟨e, z, ys⟩ loc2) ∧ ∀ Ow' L', L' s.nx = .at loc2 → Rep w S Ow' L' [0] (.own s.nx z 0 ys.length) (us i) := by
    generalize us i = u at hu
    cases hu with
    | ow _ _ _ b2 o2 cap2 cs2 us2 ho2 hh2 hs2 hc2 hz2 hcell2 hr2 =>
      refine ⟨some (b2, o2, cap2), fun Ow' L' hOw hL' => ⟨?_, cs2, us2, hh2, hs2, hc2, hz2, hcell2, fun j' row' i' x hj' hi' => ?_⟩, fun Ow' L' hL' => ?_⟩
      · have := hOw _ _ ho2
        rw [this]
        simp [reown]
      · refine (hr2 j' row' i' x hj' hi').names (fun _ => .inl rfl) (fun k q hq => ?_)
        have := hOw k _ hq
        rw [this, List.append_assoc, reown_pre]
        rfl
      · have := Rep.own (w := w) (S := S) (Ow := Ow') (L := L') (p := [0]) s.nx z 0 ys.length b2 o2 cap2 hL' (by omega)
        simpa using this
    | ow_nil => exact ⟨none, fun Ow' L' _ hL' => rfl, fun Ow' L' hL' => .own_nil s.nx z hL'⟩
  let L' : Names := fun m => if m = s.nx then .at loc2 else L m
  let Ow' : Owners := fun k => (Ow k).map (reown n j i s.nx)
  have hOw : ∀ k p, Ow k = some p → Ow' k = some (reown n j i s.nx p) := fun k p hk => by simp [Ow', hk]
  have hLx : L' s.nx = .at loc2 := by simp [L']
  have hLn : ∀ m, L m = .free ∨ L' m = L m ∨ L' m = .gone := fun m => by
    by_cases e' : m = s.nx
    · exact .inl (h.fresh m (by omega))
    · exact .inr (.inl (by simp [L', e']))
  have hOk : ∀ (p : Path), (∀ q r, p ++ q ≠ [n + 1, j, i] ++ r) → ∀ k q, Ow k = some (p ++ q) → Ow' k = some (p ++ q) := fun p hp k q hk => by
    rw [hOw k _ hk, reown_other (fun r => hp q r)]
  refine ⟨Ow', L', us i, ?_, hrep2 Ow' L' hLx, b', o', cap, hl, ?_⟩
  case refine_2 => rw [cell_of_row w b' _ cs b.e (0, 0) hh]; exact hcell i _ hi
  refine { fix := fix_of h.fix hLn, keep := h.keep, inS := h.inS, upS := h.upS, ltS := h.ltS, owS := fun k hk => by simp [Ow', h.owS k hk], ow := fun k p hk => ?_, ow0 := fun k q hk => ?_, blk := ?_, fresh := ?_, named := ?_, freshO := ?_, slot := ?_, size := h.size, defers := h.defers }
  · simp only [Ow', Option.map_eq_some_iff] at hk
    obtain ⟨p', hp', _⟩ := hk
    exact h.ow k p' hp'
  · simp only [Ow', Option.map_eq_some_iff] at hk
    obtain ⟨p', hp', hq⟩ := hk
    unfold reown at hq
    split at hq
    · split at hq
      · cases hq
      · rw [hq] at hp'; exact h.ow0 k q hp'
    · rw [hq] at hp'; exact h.ow0 k q hp'
  · intro m kk hm
    by_cases e' : m = s.nx
    · subst e'
      simp only [lb, if_true, Option.some.injEq] at hm
      subst hm
      exact ⟨loc2, hLx, hloc2 Ow' L' hOw hLx⟩
    · simp only [lb, show ¬ s.nx = m from fun he => e' he.symm, if_false, lb_st] at hm
      by_cases e2 : n = m
      · subst e2
        rw [if_pos rfl, hb] at hm
        simp only [Option.map_some, Option.some.injEq] at hm
        subst hm
        refine ⟨some (b', o', cap), by simp [L', hne, hl], ?_⟩
        obtain ⟨g1, cs', us', g2, g3, g4, g5, g6, g7⟩ := hB
        have hcs : cs' = cs := by rw [g2] at hh; cases hh; rfl
        subst hcs
        refine ⟨by rw [hOw _ _ g1]; rfl, cs', us', g2, g3, by simpa using g4, fun j' row' hj' => ?_, fun j' row' i' x hj' hi' => ?_, fun j' row' i' x hj' hi' => ?_⟩
        · rw [List.getElem?_set] at hj'
          split at hj'
          · split at hj'
            · cases hj'; simpa using hrl
            · cases hj'
          · exact g5 j' row' hj'
        · rw [List.getElem?_set] at hj'
          split at hj'
          · rename_i ej
            subst ej
            split at hj'
            · cases hj'
              have hlt : i' < row.length := by have := (List.getElem?_eq_some_iff.1 hi').1; simpa using this
              exact g6 j row i' row[i'] hrow (List.getElem?_eq_getElem hlt)
            · cases hj'
          · exact g6 j' row' i' x hj' hi'
        · have other : ∀ (j2 i2 : Nat) (x2 : AV) (u2 : Value), ¬ (j2 = j ∧ i2 = i) → Rep w S Ow L [n + 1, j2, i2] x2 u2 → Rep w S Ow' L' [n + 1, j2, i2] x2 u2 := fun j2 i2 x2 u2 hn2 hr2 =>
            hr2.names hLn (hOk [n + 1, j2, i2] (fun q r hq => by simp at hq; exact hn2 ⟨hq.1, hq.2.1⟩))
          rw [List.getElem?_set] at hj'
          split at hj'
          · rename_i ej
            subst ej
            split at hj'
            · cases hj'
              rw [List.getElem?_set] at hi'
              split at hi'
              · rename_i ei
                subst ei
                split at hi'
                · cases hi'
                  have e3 : us' j i = us i := by
                    have a1 := g6 j row i _ hrow hi
                    have a2 := hcell i _ hi
                    rw [a1] at a2; exact Option.some.inj a2
                  rw [e3]
                  exact (hrep2 Ow' L' hLx).sim rfl
                · cases hi'
              · rename_i ei
                exact other j i' x _ (fun hh => ei hh.2.symm) (g7 j row i' x hrow hi')
            · cases hj'
          · rename_i ej
            exact other j' i' x _ (fun hh => ej hh.1.symm) (g7 j' row' i' x hj' hi')
      · rw [if_neg e2] at hm
        obtain ⟨loc3, hl3, hB3⟩ := h.blk m kk hm
        refine ⟨loc3, by simp [L', e', hl3], hB3.names hLn (fun k q hk => hOk [m + 1] (fun q' r hq => ?_) k q hk)⟩
        simp at hq
        exact e2 hq.1.symm
  · intro m hm
    have hm' : s.nx + 1 ≤ m := hm
    simp only [L', show m ≠ s.nx by omega, if_false]
    exact h.fresh m (by omega)
  · intro m hm
    have hm' : m < s.nx + 1 := hm
    by_cases e' : m = s.nx
    · simp [L', e']
    · simp only [L', e', if_false]; exact h.named m (by omega)
  · intro k m q hk
    simp only [Ow', Option.map_eq_some_iff] at hk
    obtain ⟨p', hp', hq⟩ := hk
    show m ≤ s.nx + 1
    unfold reown at hq
    split at hq
    · split at hq
      · cases hq; omega
      · rw [hq] at hp'; have := h.freshO k m q hp'; omega
    · rw [hq] at hp'; have := h.freshO k m q hp'; omega
  · intro t x hx
    obtain ⟨v, hv, hR⟩ := h.slot t x hx
    exact ⟨v, hv, hR.names hLn (fun k q hq => absurd hq (h.ow0 k q))⟩

/-- A load out of a named row. -/
def aload (P : Program) (s : AS) (t : TypeId) (x : Operand) : Option (AV × AS) :=
  match ev s x, ti P t with
  | some (.pb n sz j i), some k => match lb s.bl n with
    | some b => if b.sz = sz then match b.xs[j]? with
      | some row => if k.agg then (if ((row.drop i).take k.sz).all flat ∧ i + k.sz ≤ sz then some (.ag ((row.drop i).take k.sz), s) else none) else loadOne s n b j row i
      | none => none
      else none
    | none => none
  | some (.pi xs), some k => if k.agg then (if k.sz ≤ xs.length then some (.ag (xs.take k.sz), s) else none) else (xs[0]?).map fun y => (y, s)
  | _, _ => none

theorem load_cells (t : TypeId) (k : TI) (hi : ti P t = some k) (hk : k.agg = true) (ad : Addr) (us : List Value) (hl : us.length = k.sz) (hc : ∀ j v, us[j]? = some v → w.cell? (ad.add j) = some v) : (loadVar t ad).run P w = .ok (.agg us.toArray) w := by
  have := run_loadCells_list (P := P) w ad us hc
  rw [hl] at this
  simp [loadVar, ti_agg hi, hk, ti_size hi, this]
theorem load_cell (t : TypeId) (k : TI) (hi : ti P t = some k) (hk : k.agg = false) (ad : Addr) (u : Value) (hc : w.cell? ad = some u) : (loadVar t ad).run P w = .ok u w := by
  simp [loadVar, ti_agg hi, hk, hc]

theorem aload_sound (h : RelX C s a w S Ow L) {o : Oper} {t : TypeId} {p : Operand} (ho : o.op = .load t p) {x : AV} {s' : AS} (hx : aload P s t p = some (x, s')) :
    ∃ u Ow' L', (∀ w' : World, (∀ k, k < w.heap.size → w'.heap[k]? = w.heap[k]?) → (execOp a.eval o).run P w' = .ok (.value u) w') ∧ RelX C s' a w S Ow' L' ∧ Rep w S Ow' L' [0] x u := by
  have hexec : ∀ ad u, a.eval p = .pointer (some ad) → (∀ w' : World, (∀ k, k < w.heap.size → w'.heap[k]? = w.heap[k]?) → (loadVar t ad).run P w' = .ok u w') → ∀ w' : World, (∀ k, k < w.heap.size → w'.heap[k]? = w.heap[k]?) → (execOp a.eval o).run P w' = .ok (.value u) w' := fun ad u he hr w' hw' => by
    have hr := hr w' hw'
    unfold execOp
    simp [ho, Instr.loadAt, he, Instr.sureAddr, hr]
  unfold aload at hx
  split at hx
  · rename_i n sz j i k hp hi
    split at hx
    · rename_i b hb
      split at hx
      · rename_i hsz
        split at hx
        · rename_i row hrow
          obtain ⟨b', o', cap, hl, eu⟩ := pb_known h hb (ev_rep h hp)
          obtain ⟨loc, hl', hB⟩ := h.blk n b hb
          rw [hl] at hl'
          cases hl'
          obtain ⟨_, _, _, e1, hob, hrl, cs, us, hh, hfit, hcell, hrep⟩ := blk_row hB hrow
          cases e1
          subst hsz
          have hc0 : ∀ q y, row[q]? = some y → w.cell? ⟨b', (o' + j) * b.sz + q, none⟩ = some (us q) := fun q y hq => by
            rw [cell_of_row w b' _ cs b.e (0, 0) hh]; exact hcell q y hq
          have hbs : b' < w.heap.size := (h.ow b' _ hob).2
          have hc : ∀ w' : World, (∀ k, k < w.heap.size → w'.heap[k]? = w.heap[k]?) → ∀ q y, row[q]? = some y → w'.cell? ⟨b', (o' + j) * b.sz + q, none⟩ = some (us q) := fun w' hw' q y hq => (cell_of (p := ⟨b', (o' + j) * b.sz + q, none⟩) (hw' b' hbs)).trans (hc0 q y hq)
          split at hx
          · rename_i hag
            split at hx
            · rename_i hall
              simp only [Option.some.injEq, Prod.mk.injEq] at hx
              obtain ⟨rfl, rfl⟩ := hx
              have hlen : ((row.drop i).take k.sz).length = k.sz := by rw [List.length_take, List.length_drop]; omega
              refine ⟨.agg ((List.range k.sz).map fun q => us (i + q)).toArray, Ow, L, hexec _ _ eu (fun w2 hw2 => load_cells t k hi hag _ _ (by simp) (fun q v hq => ?_)), h, ?_⟩
              · have hlt : q < k.sz := by have := (List.getElem?_eq_some_iff.1 hq).1; simpa using this
                simp only [List.getElem?_map, List.getElem?_range hlt, Option.map_some, Option.some.injEq] at hq
                subst hq
                rw [Addr.add_lit, Nat.add_assoc]
                exact hc w2 hw2 (i + q) row[i + q] (List.getElem?_eq_getElem (by omega))
              · refine .ag _ _ (by simp [hlen]) (fun q y v hy hv => ?_)
                rw [List.getElem?_take] at hy
                split at hy
                · rename_i hq
                  rw [List.getElem?_drop] at hy
                  simp only [List.getElem?_map, List.getElem?_range hq, Option.map_some, Option.some.injEq] at hv
                  subst hv
                  refine (hrep _ y hy).flat ?_
                  have := hall.1
                  rw [List.all_eq_true] at this
                  exact this y (List.mem_of_getElem? (i := q) (by rw [List.getElem?_take, if_pos hq, List.getElem?_drop]; exact hy))
                · cases hy
            · cases hx
          · rename_i hag
            have hag : k.agg = false := by simpa using hag
            unfold loadOne at hx
            split at hx
            · rename_i e z ys hy
              simp only [Option.some.injEq, Prod.mk.injEq] at hx
              obtain ⟨rfl, rfl⟩ := hx
              obtain ⟨Ow', L', u, hR, hu, b2, o2, cap2, hl2, hc2⟩ := h.openOw hb hrow hy
              rw [hl] at hl2
              cases hl2
              exact ⟨u, Ow', L', hexec _ _ eu (fun w2 hw2 => load_cell t k hi hag _ _ ((cell_of (hw2 _ hbs)).trans hc2)), hR, hu⟩
            · rename_i y _ hy
              split at hx
              · rename_i hf
                simp only [Option.some.injEq, Prod.mk.injEq] at hx
                obtain ⟨rfl, rfl⟩ := hx
                exact ⟨us i, Ow, L, hexec _ _ eu (fun w2 hw2 => load_cell t k hi hag _ _ (hc w2 hw2 i _ hy)), h, (hrep i _ hy).flat hf⟩
              · cases hx
            · cases hx
        · cases hx
      · cases hx
    · cases hx
  · rename_i xs k hp hi
    obtain ⟨ad, eu, hI⟩ := (ev_rep h hp).pi_inv
    obtain ⟨hS, us, hcell, hrep⟩ := hI
    have hadd : ∀ q, ad.add q = ⟨ad.block, ad.off + q, none⟩ := fun q => by
      obtain ⟨bb, oo, sp⟩ := ad
      have : sp = none := hS.2.2
      subst this
      simp [Addr.add_lit]
    split at hx
    · rename_i hag
      split at hx
      · rename_i hall
        simp only [Option.some.injEq, Prod.mk.injEq] at hx
        obtain ⟨rfl, rfl⟩ := hx
        have hlen : (xs.take k.sz).length = k.sz := by rw [List.length_take]; omega
        refine ⟨.agg ((List.range k.sz).map us).toArray, Ow, L, hexec _ _ eu (fun w2 hw2 => load_cells t k hi hag _ _ (by simp) (fun q v hq => ?_)), h, ?_⟩
        · have hlt : q < k.sz := by have := (List.getElem?_eq_some_iff.1 hq).1; simpa using this
          simp only [List.getElem?_map, List.getElem?_range hlt, Option.map_some, Option.some.injEq] at hq
          subst hq
          rw [hadd]
          refine (cell_of (p := ⟨ad.block, ad.off + q, none⟩) (hw2 _ hS.2.1)).trans ?_
          exact hcell q xs[q] (List.getElem?_eq_getElem (by omega))
        · refine .ag _ _ (by simp [hlen]) (fun q y v hy hv => ?_)
          rw [List.getElem?_take] at hy
          split at hy
          · rename_i hq
            simp only [List.getElem?_map, List.getElem?_range hq, Option.map_some, Option.some.injEq] at hv
            subst hv
            exact (hrep _ y hy).any
          · cases hy
      · cases hx
    · rename_i hag
      have hag : k.agg = false := by simpa using hag
      simp only [Option.map_eq_some_iff, Prod.mk.injEq] at hx
      obtain ⟨y, hy, rfl, rfl⟩ := hx
      refine ⟨us 0, Ow, L, hexec _ _ eu (fun w2 hw2 => load_cell t k hi hag _ _ ((cell_of (hw2 _ hS.2.1)).trans ?_)), h, (hrep 0 y hy).any⟩
      have := hcell 0 y hy
      rwa [← hadd, Addr.add_zero'] at this
  · cases hx
end
end Go.Proofs.Ytaiefncpgkoniaa.En
