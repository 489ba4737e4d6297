/- Own words, 5: stores; what is made: variables, rows, structs; slices cut. -/
import Derived.Test.YtaiefncpgkoniaaEn4
import Derived.Laws.IdiomCopy
namespace Go.Proofs.Ytaiefncpgkoniaa.En
open Go.RowKit
set_option linter.unusedSimpArgs false
set_option linter.unusedVariables false

theorem spl_get (row : List AV) (i : Nat) (ys : List AV) (h : i + ys.length ≤ row.length) (q : Nat) : (spl row i ys)[q]? = if i ≤ q ∧ q < i + ys.length then ys[q - i]? else row[q]? := by
  have general : (row.take i ++ ys ++ row.drop (i + ys.length))[q]? = if i ≤ q ∧ q < i + ys.length then ys[q - i]? else row[q]? := by
    have e : (row.take i).length = i := by rw [List.length_take]; omega
    by_cases h1 : q < i
    · rw [if_neg (by omega), List.append_assoc, List.getElem?_append_left (by omega), List.getElem?_take, if_pos h1]
    · by_cases h2 : q < i + ys.length
      · rw [if_pos ⟨by omega, h2⟩, List.append_assoc, List.getElem?_append_right (by omega), e, List.getElem?_append_left (by omega)]
      · rw [if_neg (by omega), List.getElem?_append_right (by rw [List.length_append]; omega), List.length_append, e, List.getElem?_drop]
        congr 1; omega
  unfold spl
  split
  · rename_i y
    rw [List.getElem?_set]
    by_cases e : i = q
    · subst e; simp at h; simp [show i < row.length by omega]
    · simp only [e, if_false]
      rw [if_neg (by simp; omega)]
  · exact general
theorem spl_length (row : List AV) (i : Nat) (ys : List AV) (h : i + ys.length ≤ row.length) : (spl row i ys).length = row.length := by
  unfold spl
  split
  · simp
  · simp; omega
theorem idx_far {o j j' sz i len i' : Nat} (hj : j' ≠ j) (hi' : i' < sz) (hi : i + len ≤ sz) : (o + j') * sz + i' < (o + j) * sz + i ∨ (o + j) * sz + i + len ≤ (o + j') * sz + i' := by
  rcases Nat.lt_or_gt_of_ne hj with h | h
  · left
    have : (o + j') * sz + sz ≤ (o + j) * sz := by rw [← Nat.succ_mul]; exact Nat.mul_le_mul_right _ (by omega)
    omega
  · right
    have : (o + j) * sz + sz ≤ (o + j') * sz := by rw [← Nat.succ_mul]; exact Nat.mul_le_mul_right _ (by omega)
    omega
theorem cut_get (cs : List Value) (off : Nat) (vs : List Value) (h : off + vs.length ≤ cs.length) (q : Nat) : (cs.take off ++ vs ++ cs.drop (off + vs.length)).toArray[q]? = if off ≤ q ∧ q < off + vs.length then vs[q - off]? else cs[q]? := by
  have e : (cs.take off).length = off := by rw [List.length_take]; omega
  simp only [List.getElem?_toArray]
  by_cases h1 : q < off
  · rw [if_neg (by omega), List.append_assoc, List.getElem?_append_left (by omega), List.getElem?_take, if_pos h1]
  · by_cases h2 : q < off + vs.length
    · rw [if_pos ⟨by omega, h2⟩, List.append_assoc, List.getElem?_append_right (by omega), e, List.getElem?_append_left (by omega)]
    · rw [if_neg (by omega), List.getElem?_append_right (by rw [List.length_append]; omega), List.length_append, e, List.getElem?_drop]
      congr 1; omega

section
variable {C : Ctx} {s : AS} {a : Act} {w : World} {S : Nat → Prop} {Ow : Owners} {L : Names} {P : Program}

/-- Cells of a named row are written. -/
theorem RelX.cells (h : RelX C s a w S Ow L) {n j i : Nat} {b : Blk} {row : List AV} (hb : lb s.bl n = some b) (hrow : b.xs[j]? = some row) (ys : List AV) (vs : List Value) (hl : vs.length = ys.length) (hfit : i + ys.length ≤ b.sz)
    (h1 : ∀ v ∈ vs, v.oneCell' = true) (hr : ∀ (q : Nat) (y : AV) (v : Value) (p : Path), ys[q]? = some y → vs[q]? = some v → Rep w S Ow L p y v) {b' o' cap : Nat} (hL : L n = .at (some (b', o', cap))) :
    ∃ w', (storeCells ⟨b', (o' + j) * b.sz + i, none⟩ vs).run P w = .ok () w' ∧ RelX C { s with bl := st s.bl n { b with xs := b.xs.set j (spl row i ys) } } a w' S Ow L := by
  obtain ⟨loc, hl', hB⟩ := h.blk n b hb
  rw [hL] at hl'
  cases hl'
  obtain ⟨hob, cs, us, hh, hcs, hxs, hz, hcell, hrep⟩ := hB
  have hrl := hz j row hrow
  have hj : j < b.xs.length := (List.getElem?_eq_some_iff.1 hrow).1
  have hroom : (o' + j) * b.sz + i + vs.length ≤ cs.size := by
    rw [hcs]
    have : (o' + j) * b.sz + b.sz ≤ (o' + cap) * b.sz := by rw [← Nat.succ_mul]; exact Nat.mul_le_mul_right _ (by omega)
    omega
  have hrun := run_storeCells_at (P := P) b' ((o' + j) * b.sz + i) b.e vs 0 cs w hh (by omega) h1
  simp only [Nat.add_zero] at hrun
  refine ⟨_, hrun, ?_⟩
  refine h.write n b _ b' o' cap hL hb _ rfl rfl rfl (by simp) (fun c hc => setRow_other w b' c _ hc) (fun _ mv => ?_)
  have hne : ∀ (j' i' : Nat) (x : AV) (u : Value), Rep w S Ow L [n + 1, j', i'] x u → Rep (w.setRow b' (cs.toList.take ((o' + j) * b.sz + i) ++ vs ++ cs.toList.drop ((o' + j) * b.sz + i + vs.length)).toArray) S Ow L [n + 1, j', i'] x u := fun j' i' x u hx =>
    mv _ x u (fun q hq => by rw [hob] at hq; simp at hq) hx
  refine ⟨hob, _, fun j' i' => if j' = j ∧ i ≤ i' ∧ i' < i + vs.length then vs.getD (i' - i) undef else us j' i', setRow_heap w b' cs _ b.e (0, 0) hh, ?_, by simpa using hxs, ?_, ?_, ?_⟩
  · simp; omega
  · intro j' row' hj'
    rw [List.getElem?_set] at hj'
    by_cases ej : j = j'
    · rw [if_pos ej, if_pos hj] at hj'
      cases hj'; show (spl row i ys).length = b.sz
      rw [spl_length _ _ _ (by omega)]; exact hrl
    · rw [if_neg ej] at hj'
      exact hz j' row' hj'
  · intro j' row' i' x hj' hi'
    dsimp only at hj' ⊢
    rw [cut_get _ _ _ (by simpa using hroom)]
    rw [List.getElem?_set] at hj'
    by_cases ej : j = j'
    · subst ej
      rw [if_pos rfl, if_pos hj] at hj'
      cases hj'
      rw [spl_get _ _ _ (by omega)] at hi'
      by_cases hin : i ≤ i' ∧ i' < i + ys.length
      · rw [if_pos hin] at hi'
        have hlt : i' - i < vs.length := by omega
        rw [if_pos (show (o' + j) * b.sz + i ≤ (o' + j) * b.sz + i' ∧ (o' + j) * b.sz + i' < (o' + j) * b.sz + i + vs.length by omega), if_pos (by omega), show (o' + j) * b.sz + i' - ((o' + j) * b.sz + i) = i' - i by omega]
        simp [hlt]
      · rw [if_neg hin] at hi'
        rw [if_neg (show ¬ ((o' + j) * b.sz + i ≤ (o' + j) * b.sz + i' ∧ (o' + j) * b.sz + i' < (o' + j) * b.sz + i + vs.length) by omega), if_neg (by omega)]
        simpa using hcell j row i' x hrow hi'
    · rw [if_neg ej] at hj'
      have hlt : i' < b.sz := by rw [← hz j' row' hj']; exact (List.getElem?_eq_some_iff.1 hi').1
      have hfar := idx_far (o := o') (j := j) (j' := j') (sz := b.sz) (i := i) (len := vs.length) (i' := i') (fun e => ej e.symm) hlt (by omega)
      rw [if_neg (show ¬ ((o' + j) * b.sz + i ≤ (o' + j') * b.sz + i' ∧ (o' + j') * b.sz + i' < (o' + j) * b.sz + i + vs.length) by omega), if_neg (by omega)]
      simpa using hcell j' row' i' x hj' hi'
  · intro j' row' i' x hj' hi'
    dsimp only at hj' ⊢
    rw [List.getElem?_set] at hj'
    by_cases ej : j = j'
    · subst ej
      rw [if_pos rfl, if_pos hj] at hj'
      cases hj'
      rw [spl_get _ _ _ (by omega)] at hi'
      by_cases hin : i ≤ i' ∧ i' < i + ys.length
      · rw [if_pos hin] at hi'
        have hlt : i' - i < vs.length := by omega
        rw [if_pos (by omega)]
        refine hne j i' x _ (hr (i' - i) x _ _ hi' (by simp [hlt]))
      · rw [if_neg hin] at hi'
        rw [if_neg (by omega)]
        exact hne j i' x _ (hrep j row i' x hrow hi')
    · rw [if_neg ej] at hj'
      rw [if_neg (by omega)]
      exact hne j' i' x _ (hrep j' row' i' x hj' hi')

def astore (P : Program) (s : AS) (t : TypeId) (p x : Operand) : Option AS :=
  match ev s p, ev s x, ti P t with
  | some (.pb n sz j i), some y, some k => match lb s.bl n with
    | some b => if b.sz = sz ∧ (cel y).length = k.sz ∧ (cel y).all (ok1 s) ∧ i + k.sz ≤ sz then (b.xs[j]?).map fun row => { s with bl := st s.bl n { b with xs := b.xs.set j (spl row i (cel y)) } } else none
    | none => none
  | _, _, _ => none
theorem astore_sound (h : RelX C s a w S Ow L) {o : Oper} {t : TypeId} {p x : Operand} (ho : o.op = .store t p x) {s' : AS} (hx : astore P s t p x = some s') :
    ∃ w', (execOp a.eval o).run P w = .ok .skip w' ∧ RelX C s' a w' S Ow L := by
  unfold astore at hx
  split at hx
  · rename_i n sz j i y k hp hy hi
    split at hx
    · rename_i b hb
      split at hx
      · rename_i hc
        simp only [Option.map_eq_some_iff] at hx
        obtain ⟨row, hrow, rfl⟩ := hx
        obtain ⟨hsz, hlen, hok, hfit⟩ := hc
        subst hsz
        obtain ⟨b', o', cap, hl, eu⟩ := pb_known h hb (ev_rep h hp)
        obtain ⟨hsize, hone, hrep⟩ := cel_rep h (ev_rep h hy) hok
        obtain ⟨w', hrun, hR⟩ := h.cells (P := P) (i := i) hb hrow (cel y) (a.eval x).cells.toList (by simpa using hsize) (by omega) hone (fun q y' v p' hy' hv => hrep q y' v p' hy' (by simpa using hv)) hl
        refine ⟨w', ?_, hR⟩
        unfold execOp
        simp [ho, Instr.storeAt, eu, Instr.sureAddr, storeVar, ti_size hi, hsize, hlen, hrun]
      · cases hx
    · cases hx
  · cases hx

def anew (s : AS) (t : TypeId) (xs : List AV) : AV × AS := (.pb s.nx xs.length 0 0, { s with bl := (s.nx, ⟨t, xs.length, [xs]⟩) :: s.bl, nx := s.nx + 1 })
def abox (s : AS) (t : TypeId) (x : Operand) : Option (AV × AS) :=
  match ev s x with
  | some y => if (cel y).all (ok1 s) then some (anew s t (cel y)) else none
  | none => none
theorem abox_sound (h : RelX C s a w S Ow L) {o : Oper} {t : TypeId} {x : Operand} (ho : o.op = .box t x) {y : AV} {s' : AS} (hx : abox s t x = some (y, s')) :
    ∃ u w' Ow' L', (execOp a.eval o).run P w = .ok (.value u) w' ∧ RelX C s' a w' S Ow' L' ∧ Rep w' S Ow' L' [0] y u := by
  unfold abox at hx
  split at hx
  · rename_i z hz
    split at hx
    · rename_i hok
      simp only [anew, Option.some.injEq, Prod.mk.injEq] at hx
      obtain ⟨rfl, rfl⟩ := hx
      obtain ⟨hsize, hone, hrep⟩ := cel_rep h (ev_rep h hz) hok
      obtain ⟨w', Ow', L', hrun, hR, hr⟩ := newVar_sound (P := P) h t (a.eval x) (cel z) hsize (fun i y v hy hv => hrep i y v _ hy hv)
      refine ⟨_, w', Ow', L', ?_, hR, hr⟩
      unfold execOp
      simp [ho, Instr.box, hrun]
    · cases hx
  · cases hx
def aalloc (P : Program) (s : AS) (t : TypeId) : Option (AV × AS) :=
  match zc P t, ti P t with
  | some z, some _ => some (anew s t z)
  | _, _ => none
theorem aalloc_sound (h : RelX C s a w S Ow L) {o : Oper} {t : TypeId} (ho : o.op = .alloc t) {y : AV} {s' : AS} (hx : aalloc P s t = some (y, s')) :
    ∃ u w' Ow' L', (execOp a.eval o).run P w = .ok (.value u) w' ∧ RelX C s' a w' S Ow' L' ∧ Rep w' S Ow' L' [0] y u := by
  unfold aalloc at hx
  split at hx
  · rename_i z i hz hi
    simp only [anew, Option.some.injEq, Prod.mk.injEq] at hx
    obtain ⟨rfl, rfl⟩ := hx
    obtain ⟨v, hv, hsz, hzz, hone⟩ := zc_run (w := w) hz hi
    obtain ⟨w', Ow', L', hrun, hR, hr⟩ := newVar_sound (P := P) h t v z (by rw [hzz]; simp) (fun i y v' hy hv' => by
      rw [hzz, List.getElem?_map, Option.map_eq_some_iff] at hy
      obtain ⟨x, hx, rfl⟩ := hy
      have : x = v' := by have e : v.cells[i]? = some x := by simpa using hx
                          rw [hv'] at e; exact (Option.some.inj e).symm
      subst this
      exact .v _ (hone x (List.mem_of_getElem? hx)))
    refine ⟨_, w', Ow', L', ?_, hR, hr⟩
    unfold execOp
    simp [ho, Instr.alloc, hv, hrun]
  · cases hx
end
end Go.Proofs.Ytaiefncpgkoniaa.En
