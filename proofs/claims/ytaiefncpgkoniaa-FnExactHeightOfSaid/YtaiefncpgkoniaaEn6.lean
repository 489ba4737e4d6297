/- Own words, 6: structs and rows written out; rows of a length; slices cut. -/
import Derived.Test.YtaiefncpgkoniaaEn5
namespace Go.Proofs.Ytaiefncpgkoniaa.En
open Go.RowKit
set_option linter.unusedSimpArgs false
set_option linter.unusedVariables false

section
variable {C : Ctx} {s : AS} {a : Act} {w : World} {S : Nat → Prop} {Ow : Owners} {L : Names} {P : Program}

theorem fold_set (off : Nat) : ∀ (vs : List Value) (k : Nat) (cs : Array Value) (q : Nat), off + k + vs.length ≤ cs.size →
    ((vs.zipIdx k).foldl (fun cs x => cs.setIfInBounds (off + x.2) x.1) cs).size = cs.size ∧
    ((vs.zipIdx k).foldl (fun cs x => cs.setIfInBounds (off + x.2) x.1) cs)[q]? = if off + k ≤ q ∧ q < off + k + vs.length then vs[q - (off + k)]? else cs[q]?
  | [], k, cs, q, h => by simp; intro h1 h2; omega
  | v :: r, k, cs, q, h => by
    simp only [List.length_cons] at h
    obtain ⟨h1, h2⟩ := fold_set off r (k + 1) (cs.setIfInBounds (off + k) v) q (by simp; omega)
    simp only [List.zipIdx_cons, List.foldl_cons]
    refine ⟨by rw [h1]; simp, ?_⟩
    rw [h2, Array.getElem?_setIfInBounds]
    by_cases e : off + k = q
    · subst e
      rw [if_neg (by omega), if_pos rfl, if_pos (by omega), if_pos (by simp), Nat.sub_self]
      rfl
    · by_cases hin : off + (k + 1) ≤ q ∧ q < off + (k + 1) + r.length
      · rw [if_pos hin, if_pos (by simp; omega), show q - (off + k) = (q - (off + (k + 1))) + 1 by omega, List.getElem?_cons_succ]
      · rw [if_neg hin, if_neg e, if_neg (by simp; omega)]

/-- Values put into cells. -/
def fillA (place : Nat → Option (Nat × Nat)) (s : AS) : List AV → List (Nat × Operand) → Option (List AV)
  | zs, [] => some zs
  | zs, (i, x) :: r => match place i, ev s x with
    | some (off, size), some y => if (cel y).length = size ∧ (cel y).all (ok1 s) ∧ off + size ≤ zs.length then fillA place s (spl zs off (cel y)) r else none
    | _, _ => none
/-- Cells, one by one. -/
def Cells (w : World) (S : Nat → Prop) (Ow : Owners) (L : Names) (zs : List AV) (cs : Array Value) : Prop :=
  cs.size = zs.length ∧ ∀ (q : Nat) (x : AV) (u : Value), zs[q]? = some x → cs[q]? = some u → u.oneCell' = true ∧ Rep w S Ow L [0] x u
theorem fillA_sound (h : RelX C s a w S Ow L) (place : Nat → Option (Nat × Nat)) : ∀ (parts : List (Nat × Operand)) (zs zs' : List AV) (cs : Array Value), fillA place s zs parts = some zs' → Cells w S Ow L zs cs →
    ∃ cs', Instr.fill place cs (parts.map fun x => (x.1, a.eval x.2)) = some cs' ∧ Cells w S Ow L zs' cs'
  | [], zs, zs', cs, hf, hc => by
    simp only [fillA, Option.some.injEq] at hf
    subst hf
    exact ⟨cs, rfl, hc⟩
  | (i, x) :: r, zs, zs', cs, hf, hc => by
    simp only [fillA] at hf
    split at hf
    · rename_i off size y hp hy
      split at hf
      · rename_i hcond
        obtain ⟨hlen, hok, hfit⟩ := hcond
        obtain ⟨hsize, hone, hrep⟩ := cel_rep h (ev_rep h hy) hok
        have hvl : (a.eval x).cells.toList.length = size := by simp [hsize, hlen]
        have hfs := fun q => fold_set off (a.eval x).cells.toList 0 cs q (by rw [hvl, hc.1]; simpa using hfit)
        have hC : Cells w S Ow L (spl zs off (cel y)) (((a.eval x).cells.toList.zipIdx 0).foldl (fun cs x => cs.setIfInBounds (off + x.2) x.1) cs) := by
          refine ⟨by rw [(hfs 0).1, spl_length _ _ _ (by omega)]; exact hc.1, fun q z u hz hu => ?_⟩
          rw [spl_get _ _ _ (by omega)] at hz
          rw [(hfs q).2, hvl] at hu
          by_cases hin : off ≤ q ∧ q < off + (cel y).length
          · rw [if_pos hin] at hz
            rw [if_pos (by omega)] at hu
            simp only [Nat.add_zero] at hu
            exact ⟨hone u (List.mem_of_getElem? hu), hrep (q - off) z u _ hz (by simpa using hu)⟩
          · rw [if_neg hin] at hz
            rw [if_neg (by omega)] at hu
            exact hc.2 q z u hz hu
        obtain ⟨cs', hcs', hCs'⟩ := fillA_sound h place r _ zs' _ hf hC
        refine ⟨cs', ?_, hCs'⟩
        have hsz : (a.eval x).cells.size = size := by rw [hsize, hlen]
        have hle : ¬ (cs.size < off + size) := by rw [hc.1]; omega
        simp only [List.map_cons, Instr.fill, hp]
        rw [if_neg (by simp [hsz]; rw [hc.1]; omega)]
        rw [← hcs']
        congr 1
        rw [← Array.foldl_toList, Array.toList_zipIdx]
      · cases hf
    · cases hf

/-- The places of a struct's fields, of an array's elements. -/
def plc (P : Program) (t : TypeId) : Option (Nat → Option (Nat × Nat)) :=
  match P.underlying t with
  | some (.struct fs) => (fs.toList.mapM fun f => (ti P f.type).map fun i => (f.offset, i.sz)).map fun l i => l[i]?
  | some (.array _ e) => (ti P e).map fun k i => some (i * k.sz, k.sz)
  | _ => none
theorem mapM_places : ∀ (fs : List Field) (l : List (Nat × Nat)), (fs.mapM fun f => (ti P f.type).map fun i => (f.offset, i.sz)) = some l → (fs.mapM fun f => Prod.mk f.offset <$> sizeOf f.type : Sem (List (Nat × Nat))).run P w = .ok l w
  | [], l, h => by simp at h; subst h; rfl
  | f :: fs, l, h => by
    simp only [List.mapM_cons, Option.bind_eq_bind, Option.bind_eq_some_iff, Option.map_eq_some_iff, Option.pure_def, Option.some.injEq] at h
    obtain ⟨x, ⟨i, hi, rfl⟩, ls, hls, rfl⟩ := h
    have h2 := mapM_places fs ls hls
    have h1 : (Prod.mk f.offset <$> sizeOf f.type : Sem (Nat × Nat)).run P w = .ok (f.offset, i.sz) w := by
      rw [← bind_pure_comp, Sem.run_bind, ti_size hi]; rfl
    rw [List.mapM_cons, Sem.run_bind, h1, Result.andThen_ok, Sem.run_bind, h2]
    rfl

def abuild (P : Program) (s : AS) (t : TypeId) (parts : Array (Nat × Operand)) : Option (AV × AS) :=
  match zc P t, ti P t, plc P t with
  | some z, some i, some p => if i.agg then (fillA p s z parts.toList).map fun zs => (.ag zs, s) else none
  | _, _, _ => none
theorem zc_cells {t : TypeId} {z : List AV} {i : TI} (hz : zc P t = some z) (hi : ti P t = some i) : ∃ v, (zeroValue t).run P w = .ok v w ∧ Cells w S Ow L z v.cells ∧ v.cells.size = i.sz ∧ z = v.cells.toList.map .v ∧ ∀ x ∈ v.cells.toList, x.oneCell' = true := by
  obtain ⟨v, hv, hsz, hzz, hone⟩ := zc_run (w := w) hz hi
  refine ⟨v, hv, ⟨by rw [hzz]; simp, fun q x u hx hu => ?_⟩, hsz, hzz, hone⟩
  rw [hzz, List.getElem?_map, Option.map_eq_some_iff] at hx
  obtain ⟨y, hy, rfl⟩ := hx
  have e : v.cells[q]? = some y := by simpa using hy
  rw [hu] at e
  cases e
  have := hone u (List.mem_of_getElem? hy)
  exact ⟨this, .v _ this⟩
theorem abuild_sound (h : RelX C s a w S Ow L) {o : Oper} {t : TypeId} {parts : Array (Nat × Operand)} (ho : o.op = .build t parts) {y : AV} {s' : AS} (hx : abuild P s t parts = some (y, s')) :
    ∃ u, s' = s ∧ (execOp a.eval o).run P w = .ok (.value u) w ∧ Rep w S Ow L [0] y u := by
  unfold abuild at hx
  split at hx
  · rename_i z i p hz hi hp
    split at hx
    · rename_i hag
      simp only [Option.map_eq_some_iff, Prod.mk.injEq] at hx
      obtain ⟨zs, hf, rfl, rfl⟩ := hx
      obtain ⟨v, hv, hC, _⟩ := zc_cells (w := w) (S := S) (Ow := Ow) (L := L) hz hi
      obtain ⟨cs', hcs', hC'⟩ := fillA_sound h p parts.toList z zs v.cells hf hC
      have hrep : Rep w S Ow L [0] (.ag zs) (.agg cs') := by
        have e : cs' = cs'.toList.toArray := by simp
        rw [e]
        refine .ag zs _ (by simpa using hC'.1) (fun q x u hx hu => ?_)
        have := (hC'.2 q x u hx (by simpa using hu)).2
        exact this.names (fun _ => .inr (.inl rfl)) (fun b q' hq => absurd hq (h.ow0 b _))
      refine ⟨.agg cs', rfl, ?_, hrep⟩
      have hpm : (parts.map fun x => (x.1, a.eval x.2)).toList = parts.toList.map fun x => (x.1, a.eval x.2) := by simp
      unfold plc at hp
      unfold execOp
      split at hp
      · rename_i fs hu
        simp only [Option.map_eq_some_iff] at hp
        obtain ⟨l, hl, rfl⟩ := hp
        have hm := mapM_places (P := P) (w := w) fs.toList l hl
        have hm2 : (fs.mapM fun f => Prod.mk f.offset <$> sizeOf f.type : Sem (Array (Nat × Nat))).run P w = .ok l.toArray w := by
          rw [Array.mapM_eq_mapM_toList, ← bind_pure_comp, Sem.run_bind, hm]
          rfl
        simp [ho, Instr.build, hv, run_underlying hu, hm2, hcs']
      · rename_i n e hu
        simp only [Option.map_eq_some_iff] at hp
        obtain ⟨k, hk, rfl⟩ := hp
        simp [ho, Instr.build, hv, run_underlying hu, ti_size hk, hcs']
      · cases hp
    · cases hx
  · cases hx

/-- Cells taken as elements. -/
def chunk (sz n : Nat) (zs : List AV) : List (List AV) := (List.range n).map fun j => (zs.drop (j * sz)).take sz
theorem chunk_get {sz n j i : Nat} {zs row : List AV} {x : AV} (hj : (chunk sz n zs)[j]? = some row) (hi : row[i]? = some x) : j < n ∧ i < sz ∧ zs[j * sz + i]? = some x := by
  simp only [chunk, List.getElem?_map, Option.map_eq_some_iff] at hj
  obtain ⟨m, hm, rfl⟩ := hj
  have hlt : j < n := by have := (List.getElem?_eq_some_iff.1 hm).1; simpa using this
  rw [List.getElem?_range hlt] at hm
  cases hm
  rw [List.getElem?_take] at hi
  split at hi
  · rename_i h
    exact ⟨hlt, h, by simpa [List.getElem?_drop] using hi⟩
  · cases hi
theorem chunk_len {sz n j : Nat} {zs row : List AV} (hz : zs.length = n * sz) (hj : (chunk sz n zs)[j]? = some row) : row.length = sz := by
  simp only [chunk, List.getElem?_map, Option.map_eq_some_iff] at hj
  obtain ⟨m, hm, rfl⟩ := hj
  have hlt : j < n := by have := (List.getElem?_eq_some_iff.1 hm).1; simpa using this
  rw [List.getElem?_range hlt] at hm
  cases hm
  rw [List.length_take, List.length_drop, hz]
  have : j * sz + sz ≤ n * sz := by rw [← Nat.succ_mul]; exact Nat.mul_le_mul_right _ (by omega)
  omega
theorem chunk_length (sz n : Nat) (zs : List AV) : (chunk sz n zs).length = n := by simp [chunk]

/-- A new row out of cells. -/
theorem newRow_sound (h : RelX C s a w S Ow L) (e : TypeId) (sz n cap : Nat) (zs : List AV) (cs : Array Value) (hC : Cells w S Ow L zs cs) (hz : zs.length = cap * sz) (hn : n ≤ cap) :
    ∃ w' Ow' L', (newRow e cs).run P w = .ok ⟨w.heap.size, 0, none⟩ w' ∧ RelX C { s with bl := (s.nx, ⟨e, sz, chunk sz n zs⟩) :: s.bl, nx := s.nx + 1 } a w' S Ow' L' ∧ Rep w' S Ow' L' [0] (.own s.nx sz 0 n) (.slice (some ⟨w.heap.size, 0, none⟩) n cap) := by
  obtain ⟨Ow', L', hR, hL, _⟩ := h.alloc ⟨e, sz, chunk sz n zs⟩ cs cap (fun j i => cs.getD (j * sz + i) undef) (by rw [hC.1, hz]) (by rw [chunk_length]; exact hn) (fun j row hj => by
      simp only [chunk, List.getElem?_map, Option.map_eq_some_iff] at hj
      obtain ⟨m, hm, rfl⟩ := hj
      have hlt : j < n := by have := (List.getElem?_eq_some_iff.1 hm).1; simpa using this
      rw [List.getElem?_range hlt] at hm
      cases hm
      show ((zs.drop (j * sz)).take sz).length = sz
      rw [List.length_take, List.length_drop, hz]
      have : j * sz + sz ≤ cap * sz := by rw [← Nat.succ_mul]; exact Nat.mul_le_mul_right _ (by omega)
      omega)
    (fun j row i x hj hi => by
      obtain ⟨_, _, hx⟩ := chunk_get hj hi
      have hlt : j * sz + i < cs.size := by rw [hC.1]; exact (List.getElem?_eq_some_iff.1 hx).1
      simp [hlt])
    (fun j row i x hj hi => by
      obtain ⟨_, _, hx⟩ := chunk_get hj hi
      have hlt : j * sz + i < cs.size := by rw [hC.1]; exact (List.getElem?_eq_some_iff.1 hx).1
      exact (hC.2 _ x _ hx (by simp [hlt])).2)
  refine ⟨_, Ow', L', by simp [newRow], hR, ?_⟩
  have := Rep.own (w := w.alloc (.cells cs e)) (S := S) (Ow := Ow') (L := L') (p := [0]) s.nx sz 0 n w.heap.size 0 cap hL (by omega)
  simpa using this

theorem rep_get (z : List AV) (n q : Nat) (hq : q < n * z.length) : (List.replicate n z).flatten[q]? = z[q % z.length]? := by
  induction n generalizing q with
  | zero => omega
  | succ n ih =>
    rw [List.replicate_succ, List.flatten_cons]
    by_cases h : q < z.length
    · rw [List.getElem?_append_left h, Nat.mod_eq_of_lt h]
    · rw [List.getElem?_append_right (by omega), ih _ (by rw [Nat.succ_mul] at hq; omega)]
      congr 1
      rw [← Nat.mod_eq_sub_mod (by omega)]
theorem zeros_cells {z : List AV} {v : Value} (n : Nat) (hC : Cells w S Ow L z v.cells) : Cells w S Ow L (List.replicate n z).flatten ((Array.range (n * v.cells.size)).map (v.cells[· % v.cells.size]!)) := by
  refine ⟨by simp [hC.1], fun q x u hx hu => ?_⟩
  have hq : q < n * z.length := by have := (List.getElem?_eq_some_iff.1 hx).1; simpa using this
  rw [rep_get z n q hq] at hx
  have hq2 : q < n * v.cells.size := by rw [hC.1]; exact hq
  simp only [Array.getElem?_map, Array.getElem?_range, hq2, if_true, Option.map_some, Option.some.injEq] at hu
  subst hu
  have hm : q % z.length < z.length := (List.getElem?_eq_some_iff.1 hx).1
  refine hC.2 _ x _ hx ?_
  rw [hC.1, getElem!_pos _ _ (by rw [hC.1]; exact hm)]
  simp [hC.1, hm]

def abuildSlice (P : Program) (s : AS) (t : TypeId) (len : Nat) (parts : Array (Nat × Operand)) : Option (AV × AS) :=
  match elT P t with
  | some e => match ti P e, zc P e with
    | some i, some z => if len * i.sz ≤ 65536 then (fillA (fun k => some (k * i.sz, i.sz)) s (List.replicate len z).flatten parts.toList).map fun zs => (.own s.nx i.sz 0 len, { s with bl := (s.nx, ⟨e, i.sz, chunk i.sz len zs⟩) :: s.bl, nx := s.nx + 1 }) else none
    | _, _ => none
  | none => none
theorem abuildSlice_sound (h : RelX C s a w S Ow L) {o : Oper} {t : TypeId} {len : Nat} {parts : Array (Nat × Operand)} (ho : o.op = .buildSlice t len parts) {y : AV} {s' : AS} (hx : abuildSlice P s t len parts = some (y, s')) :
    ∃ u w' Ow' L', (execOp a.eval o).run P w = .ok (.value u) w' ∧ RelX C s' a w' S Ow' L' ∧ Rep w' S Ow' L' [0] y u := by
  unfold abuildSlice at hx
  split at hx
  · rename_i e he
    split at hx
    · rename_i i z hi hz
      split at hx
      · rename_i hle
        simp only [Option.map_eq_some_iff, Prod.mk.injEq] at hx
        obtain ⟨zs, hf, rfl, rfl⟩ := hx
        obtain ⟨v, hv, hC, hvs, _⟩ := zc_cells (w := w) (S := S) (Ow := Ow) (L := L) hz hi
        have hZ := zeros_cells len hC
        obtain ⟨cs', hcs', hC'⟩ := fillA_sound h _ parts.toList _ zs _ hf hZ
        have hlen : zs.length = len * i.sz := by
          rw [← hC'.1]
          have hfs : ∀ (parts : List (Nat × Operand)) (zs zs' : List AV), fillA (fun k => some (k * i.sz, i.sz)) s zs parts = some zs' → zs'.length = zs.length := by
            intro parts
            induction parts with
            | nil => intro zs zs' hf; simp [fillA] at hf; rw [hf]
            | cons p r ih =>
              obtain ⟨k, x⟩ := p
              intro zs zs' hf
              simp only [fillA] at hf
              split at hf
              · split at hf
                · rename_i hc
                  rw [ih _ _ hf, spl_length _ _ _ (by omega)]
                · cases hf
              · cases hf
          rw [hC'.1, hfs _ _ _ hf]
          have : z.length = i.sz := by rw [← hC.1, hvs]
          simp [this]
        obtain ⟨w', Ow', L', hrun, hR, hr⟩ := newRow_sound (P := P) h e i.sz len len zs cs' hC' hlen (Nat.le_refl _)
        refine ⟨_, w', Ow', L', ?_, hR, hr⟩
        unfold execOp
        by_cases h0 : len * i.sz = 0
        · have e0 : (List.replicate len z).flatten = [] := by
            apply List.eq_nil_of_length_eq_zero
            have : z.length = i.sz := by rw [← hC.1, hvs]
            simp [this, h0]
          have e1 : ((Array.range (len * v.cells.size)).map (v.cells[· % v.cells.size]!)) = #[] := by rw [hvs, h0]; simp
          rw [e1] at hcs'
          have e3 : Array.range 0 = #[] := by simp [Array.range]
          simp [ho, Instr.buildSlice, run_underlying (elT_run he), ti_size hi, h0, hcs', hrun, e3]
        · rw [hvs] at hcs'
          simp [ho, Instr.buildSlice, run_underlying (elT_run he), ti_size hi, h0, hv, hvs, hcs', hrun, show ¬ (16777216 < len * i.sz) by omega]
      · cases hx
    · cases hx
  · cases hx

def amake (P : Program) (s : AS) (t : TypeId) (l c : Operand) : Option (AV × AS) :=
  match elT P t, ev s l, ev s c with
  | some e, some (.v (.int .i64 n)), some (.v (.int .i64 m)) => match ti P e, zc P e with
    | some i, some z => if 0 ≤ n ∧ n ≤ m ∧ i.bytes * m ≤ 281474976710656 ∧ m ≤ 281474976710656 then some (.own s.nx i.sz 0 n.toNat, { s with bl := (s.nx, ⟨e, i.sz, List.replicate n.toNat z⟩) :: s.bl, nx := s.nx + 1 }) else none
    | _, _ => none
  | _, _, _ => none
theorem chunk_rep (z : List AV) (n m : Nat) (h : n ≤ m) : chunk z.length n (List.replicate m z).flatten = List.replicate n z := by
  apply List.ext_getElem?
  intro j
  by_cases hj : j < n
  · simp only [chunk, List.getElem?_map, List.getElem?_range hj, Option.map_some, List.getElem?_replicate, hj, if_true, Option.some.injEq]
    apply List.ext_getElem?
    intro i
    rw [List.getElem?_take]
    by_cases hi : i < z.length
    · rw [if_pos hi, List.getElem?_drop, rep_get]
      · congr 1
        rw [Nat.mul_comm, Nat.mul_add_mod, Nat.mod_eq_of_lt hi]
      · have : (j + 1) * z.length ≤ m * z.length := Nat.mul_le_mul_right _ (by omega)
        rw [Nat.succ_mul] at this
        omega
    · rw [if_neg hi, List.getElem?_eq_none (by omega)]
  · simp [chunk, hj, List.getElem?_replicate]
theorem wr64_in {n : Int} (h0 : -9223372036854775808 ≤ n) (h1 : n ≤ 9223372036854775807) : IntKind.i64.wrap n = n := by
  rw [IntKind.wrap_i64]; omega
theorem amake_sound (h : RelX C s a w S Ow L) {o : Oper} {t : TypeId} {l c : Operand} (ho : o.op = .makeSlice t l c) {y : AV} {s' : AS} (hx : amake P s t l c = some (y, s')) :
    ∃ u w' Ow' L', (execOp a.eval o).run P w = .ok (.value u) w' ∧ RelX C s' a w' S Ow' L' ∧ Rep w' S Ow' L' [0] y u := by
  unfold amake at hx
  split at hx
  · rename_i e n m he hl hc
    split at hx
    · rename_i i z hi hz
      split at hx
      · rename_i hcond
        simp only [Option.some.injEq, Prod.mk.injEq] at hx
        obtain ⟨rfl, rfl⟩ := hx
        obtain ⟨h0, h1, h2, h3⟩ := hcond
        obtain ⟨el, _⟩ := (ev_rep h hl).v_inv
        obtain ⟨ec, _⟩ := (ev_rep h hc).v_inv
        obtain ⟨v, hv, hC, hvs, _⟩ := zc_cells (w := w) (S := S) (Ow := Ow) (L := L) hz hi
        have hzl : z.length = i.sz := by rw [← hC.1, hvs]
        have hZ := zeros_cells m.toNat hC
        obtain ⟨w', Ow', L', hrun, hR, hr⟩ := newRow_sound (P := P) h e i.sz n.toNat m.toNat _ _ hZ (by simp [hzl]) (by omega)
        rw [← hzl, chunk_rep z _ _ (by omega), hzl] at hR
        refine ⟨_, w', Ow', L', ?_, hR, hr⟩
        obtain ⟨i', hti, hb, hs⟩ := ti_bytes (w := w) hi
        unfold execOp
        have wn : IntKind.i64.wrap n = n := wr64_in (by omega) (by omega)
        have wm : IntKind.i64.wrap m = m := wr64_in (by omega) (by omega)
        have t1 : ¬ ((i.bytes : Int) * m > 281474976710656) := by omega
        by_cases hm0 : m.toNat * i.sz = 0
        · have e1 : ((Array.range (m.toNat * v.cells.size)).map (v.cells[· % v.cells.size]!)) = #[] := by rw [hvs, hm0]; simp [Array.range]
          rw [e1] at hrun
          have e3 : Array.range 0 = #[] := by simp [Array.range]
          simp [ho, Instr.makeSlice, run_underlying (elT_run he), el, ec, asInt, asIntOf, hti, hb, wn, wm, t1, ti_size hi, hm0, hrun, e3, show ¬ (m < 0) by omega, show ¬ (n < 0) by omega, show ¬ (m < n) by omega]
        · rw [hvs] at hrun
          simp [ho, Instr.makeSlice, run_underlying (elT_run he), el, ec, asInt, asIntOf, hti, hb, wn, wm, t1, ti_size hi, hm0, hrun, hv, hvs, show ¬ (m < 0) by omega, show ¬ (n < 0) by omega, show ¬ (m < n) by omega]
      · cases hx
    · cases hx
  · cases hx
end
end Go.Proofs.Ytaiefncpgkoniaa.En
