/- Own words: what an argument of a law reads as, in abstract cells; how much it weighs. -/
import Derived.Test.YtaiefncpgkoniaaEn16
import Derived.ChangeArms
import Derived.DataReads
import Derived.DataElems
import Derived.OpenShut
import Derived.SizedLaws
namespace Go.Proofs.Ytaiefncpgkoniaa.En
open Go.RowKit Go.WideShapes
set_option linter.unusedSimpArgs false
set_option linter.unusedVariables false

/-- All that is there. -/
def there (w : World) : Nat → Prop := fun k => k < w.heap.size
def CellsOf (w : World) (cs : List Value) (row : List AV) : Prop := cs.length = row.length ∧ ∀ (i : Nat) (x : AV) (u : Value), row[i]? = some x → cs[i]? = some u → Rep w (there w) noOwner noName [] x u
theorem CellsOf.one {w : World} {u : Value} {x : AV} (h : Rep w (there w) noOwner noName [] x u) : CellsOf w [u] [x] := by
  refine ⟨rfl, fun i y v hy hv => ?_⟩
  cases i with
  | zero => simp at hy hv; subst hy hv; exact h
  | succ i => simp at hy
theorem CellsOf.app {w : World} {c0 c1 : List Value} {r0 r1 : List AV} (h0 : CellsOf w c0 r0) (h1 : CellsOf w c1 r1) : CellsOf w (c0 ++ c1) (r0 ++ r1) := by
  refine ⟨by simp [h0.1, h1.1], fun i x u hx hu => ?_⟩
  by_cases hi : i < r0.length
  · rw [List.getElem?_append_left hi] at hx
    rw [List.getElem?_append_left (by rw [h0.1]; exact hi)] at hu
    exact h0.2 i x u hx hu
  · rw [List.getElem?_append_right (by omega)] at hx
    rw [List.getElem?_append_right (by rw [h0.1]; omega), h0.1] at hu
    exact h1.2 _ x u hx hu
/-- Whatever is read at type t is, in cells, enc a of some a that is as Q says. -/
def OpA {α : Type} (P : Program) (t : TypeId) (sz : Nat) (enc : α → List AV) (Q : α → Prop) : Prop :=
  (∀ a, (enc a).length = sz) ∧ ∀ (H : Type) (en : TypeId × Value → H) (w : World) (spare : Nat → Bool) (held : Bool) (fuel : Nat) (cs : List Value) (x : DataW H × List MemPlace),
    DataW.trod en P w 0 spare held fuel t cs = some x → (∀ n ∈ x.1.weights P t, n ≤ reachBytes) → ∃ a, CellsOf w cs (enc a) ∧ Q a
def WfI (n : Int) : Prop := -9223372036854775808 ≤ n ∧ n ≤ 9223372036854775807
theorem opa_int {P : Program} {t : TypeId} (h : P.underlying t = some (.int .i64)) : OpA P t 1 (fun n : Int => [.v (.int .i64 n)]) WfI := by
  refine ⟨fun _ => rfl, fun H en w spare held fuel cs x hx _ => ?_⟩
  obtain ⟨n, rfl, _, hw⟩ := DataW.trod_int h hx
  refine ⟨n, .one (.v _ rfl), ?_⟩
  simp only [Lit.wf, IntKind.min, IntKind.max, IntKind.signed, IntKind.bits, Bool.and_eq_true, decide_eq_true_eq, if_true] at hw
  unfold WfI; omega
theorem opa_bool {P : Program} {t : TypeId} (h : P.underlying t = some .bool) : OpA P t 1 (fun b : Bool => [.v (.bool b)]) (fun _ => True) := by
  refine ⟨fun _ => rfl, fun H en w spare held fuel cs x hx _ => ?_⟩
  obtain ⟨n, rfl, _⟩ := DataW.trod_bool h hx
  exact ⟨n, .one (.v _ rfl), trivial⟩
theorem choose_rows {α : Type} {n : Nat} {p : Nat → α → Prop} (h : ∀ i, i < n → ∃ a, p i a) : ∃ xs : List α, xs.length = n ∧ ∀ i a, xs[i]? = some a → p i a := by
  induction n with
  | zero => exact ⟨[], rfl, fun i a h => by simp at h⟩
  | succ n ih =>
    obtain ⟨xs, hl, hx⟩ := ih (fun i hi => h i (by omega))
    obtain ⟨a, ha⟩ := h n (by omega)
    refine ⟨xs ++ [a], by simp [hl], fun i b hb => ?_⟩
    by_cases hi : i < n
    · rw [List.getElem?_append_left (by omega)] at hb
      exact hx i b hb
    · have hlt := (List.getElem?_eq_some_iff.1 hb).1
      simp at hlt
      obtain rfl : i = n := by omega
      rw [List.getElem?_append_right (by omega), hl, Nat.sub_self] at hb
      simp at hb
      exact hb ▸ ha
theorem weightsAll_mem {H : Type} {P : Program} {e : TypeId} : ∀ {l : List (DataW H)} {d : DataW H}, d ∈ l → ∀ n ∈ d.weights P e, n ∈ DataW.weightsAll P e l
  | [], d, h, _, _ => by cases h
  | y :: l, d, h, n, hn => by
    unfold DataW.weightsAll
    rcases List.mem_cons.1 h with rfl | h
    · exact List.mem_append_left _ hn
    · exact List.mem_append_right _ (weightsAll_mem h n hn)
/-- A row: not so long that it would outweigh the machine. -/
def RowQ {α : Type} (b : Nat) (Q : α → Prop) (xs : List α) : Prop := xs.length * b ≤ 140737488351232 ∧ ∀ x ∈ xs, Q x
theorem cell_lt {w : World} {a : Addr} {u : Value} (h : w.cell? a = some u) : a.block < w.heap.size ∧ a.spot = none := by
  unfold World.cell? at h
  split at h
  · rename_i c _ _ hh
    refine ⟨(Array.getElem?_eq_some_iff.1 hh).1, ?_⟩
    split at h
    · cases h
    · rename_i hs; simpa using hs
  · cases h
theorem opa_slice {α : Type} {P : Program} {t e : TypeId} {sz b : Nat} {enc : α → List AV} {Q : α → Prop} (h : P.underlying t = some (.slice e)) (hs : P.cellsOf e = sz) (hb : P.bytesOf e = b) (hp : 0 < sz) (he : OpA P e sz enc Q) : OpA P t 1 (fun xs : List α => [.im sz (xs.map enc)]) (RowQ b Q) := by
  refine ⟨fun _ => rfl, fun H en w spare held fuel cs x hx hwt => ?_⟩
  rcases DataW.trod_slice h hx with ⟨rfl, _⟩ | ⟨a, len, cap, elems, rest, n, rfl, rfl, rfl, hba, hlc, hcm, hel, hat, _, _⟩
  · exact ⟨[], .one (.im sz [] none 0 ⟨0, 0, none⟩ (fun _ _ => undef) (Nat.le_refl 0) (fun hx => absurd rfl hx) (fun hx => absurd rfl hx) (fun j row hj => by simp at hj) (fun j row i y hj => by simp at hj) (fun j row i y hj => by simp at hj)), by simp, fun x hx => by cases hx⟩
  · have hw0 : (elems.length + rest.length) * b ≤ reachBytes := by
      have := hwt ((elems.length + rest.length) * b) (by unfold DataW.weights; rw [h]; simp [hb])
      exact this
    have each : ∀ i, i < len → ∃ y, (∃ c, CellsOf w c (enc y) ∧ ∀ j, j < sz → w.cell? (a.add (i * sz + j)) = c[j]?) ∧ Q y := by
      intro i hi
      have hi' : i < elems.length := by omega
      have hy := hat i hi
      rw [List.getElem?_eq_getElem hi', Option.bind_eq_some_iff] at hy
      obtain ⟨c, hc, ht⟩ := hy
      obtain ⟨_, hn, hce⟩ := World.cells?_some hc
      obtain ⟨y, hK, hQ⟩ := he.2 H en w spare held n c _ ht (fun k hk => hwt k (by
        unfold DataW.weights; rw [h]
        refine List.mem_cons_of_mem _ (List.mem_append_left _ (weightsAll_mem (List.mem_map_of_mem (List.getElem_mem hi')) k hk))))
      refine ⟨y, ⟨c, hK, fun j hj => ?_⟩, hQ⟩
      have := hce j (by omega)
      rw [← this, hs, Addr.add_add]
    obtain ⟨ys, hl, hys⟩ := choose_rows each
    subst hl
    have first : ys ≠ [] → a.block < w.heap.size ∧ a.spot = none := fun hne => by
      have hlt : 0 < ys.length := List.length_pos_iff.2 hne
      obtain ⟨⟨c, hK, hc⟩, _⟩ := hys 0 ys[0] (List.getElem?_eq_getElem hlt)
      have h0 := hc 0 hp
      have hcl : 0 < c.length := by rw [hK.1, he.1]; exact hp
      rw [List.getElem?_eq_getElem hcl] at h0
      simpa [Addr.add] using cell_lt h0
    have ad : ∀ k, a.spot = none → a.add k = ⟨a.block, a.off + k, none⟩ := fun k hk => by
      obtain ⟨bb, oo, sp⟩ := a
      simp only at hk
      subst hk
      simp [Addr.add_lit]
    refine ⟨ys, .one ?_, by unfold reachBytes at hw0; exact Nat.le_trans (Nat.mul_le_mul_right b (by omega)) hw0, fun y hy => ?_⟩
    · have := Rep.im (w := w) (S := there w) (Ow := noOwner) (L := noName) (p := []) sz (ys.map enc) (some a) cap a (fun j i => (w.cell? ⟨a.block, a.off + (j * sz + i), none⟩).getD undef) (by simpa using hlc) (fun _ => rfl) (fun hne => ?_) (fun j row hj => ?_) (fun j row i y hj hi => ?_) (fun j row i y hj hi => ?_)
      · simpa using this
      · obtain ⟨h1, h2⟩ := first (by intro e; exact hne (by simp [e]))
        exact ⟨h1, h1, h2⟩
      · simp only [List.getElem?_map, Option.map_eq_some_iff] at hj
        obtain ⟨z, _, rfl⟩ := hj
        exact he.1 z
      · simp only [List.getElem?_map, Option.map_eq_some_iff] at hj
        obtain ⟨z, hz, rfl⟩ := hj
        obtain ⟨⟨c, hK, hc⟩, _⟩ := hys j z hz
        have hi' : i < sz := by rw [← he.1 z]; exact (List.getElem?_eq_some_iff.1 hi).1
        have h1 := hc i hi'
        have hcl : i < c.length := by rw [hK.1, he.1]; exact hi'
        rw [ad _ (first (by intro e; subst e; simp at hz)).2, List.getElem?_eq_getElem hcl] at h1
        rw [h1]; rfl
      · simp only [List.getElem?_map, Option.map_eq_some_iff] at hj
        obtain ⟨z, hz, rfl⟩ := hj
        obtain ⟨⟨c, hK, hc⟩, _⟩ := hys j z hz
        have hi' : i < sz := by rw [← he.1 z]; exact (List.getElem?_eq_some_iff.1 hi).1
        have h1 := hc i hi'
        have hcl : i < c.length := by rw [hK.1, he.1]; exact hi'
        rw [ad _ (first (by intro e; subst e; simp at hz)).2, List.getElem?_eq_getElem hcl] at h1
        rw [h1]
        exact hK.2 i y _ hi (List.getElem?_eq_getElem hcl)
    · obtain ⟨i, hi⟩ := List.getElem?_of_mem hy
      exact (hys i y hi).2

/-- The fields of a struct from a cell on. -/
def OpAF {α : Type} (P : Program) (off : Nat) (fs : List Field) (sz : Nat) (enc : α → List AV) (Q : α → Prop) : Prop :=
  (∀ a, (enc a).length = sz) ∧ ∀ (H : Type) (en : TypeId × Value → H) (w : World) (spare : Nat → Bool) (held : Bool) (n : Nat) (cs : List Value) (xs : List (DataW H × List MemPlace)), xs.length = fs.length →
    (∀ (i : Nat) (f : Field), fs[i]? = some f → DataW.trod en P w 0 spare held n f.type ((cs.drop f.offset).take (P.cellsOf f.type)) = xs[i]?) → (∀ (i : Nat) (f : Field) (x : DataW H × List MemPlace), fs[i]? = some f → xs[i]? = some x → ∀ k ∈ x.1.weights P f.type, k ≤ reachBytes) →
    ∃ a, CellsOf w ((cs.drop off).take sz) (enc a) ∧ Q a
theorem opaF_one {α : Type} {P : Program} {f : Field} {sz : Nat} {enc : α → List AV} {Q : α → Prop} (hs : P.cellsOf f.type = sz) (h : OpA P f.type sz enc Q) : OpAF P f.offset [f] sz enc Q := by
  refine ⟨h.1, fun H en w spare held n cs xs hl hx hw => ?_⟩
  have := hx 0 f rfl
  match xs, hl with
  | [y], _ =>
    simp only [List.getElem?_cons_zero] at this
    obtain ⟨a, hK, hQ⟩ := h.2 H en w spare held n _ _ this (hw 0 f y rfl rfl)
    exact ⟨a, hs ▸ hK, hQ⟩
theorem opaF_cons {α β : Type} {P : Program} {f : Field} {fs : List Field} {sz sz' : Nat} {enc : α → List AV} {enc' : β → List AV} {Q : α → Prop} {Q' : β → Prop} (hs : P.cellsOf f.type = sz) (h : OpA P f.type sz enc Q) (h' : OpAF P (f.offset + sz) fs sz' enc' Q') :
    OpAF P f.offset (f :: fs) (sz + sz') (fun x : α × β => enc x.1 ++ enc' x.2) (fun x => Q x.1 ∧ Q' x.2) := by
  refine ⟨fun a => by simp [h.1, h'.1], fun H en w spare held n cs xs hl hx hw => ?_⟩
  match xs, hl with
  | y :: ys, hl =>
    have h0 := hx 0 f rfl
    simp only [List.getElem?_cons_zero] at h0
    obtain ⟨a, hK, hQ⟩ := h.2 H en w spare held n _ _ h0 (hw 0 f y rfl rfl)
    obtain ⟨b, hK', hQ'⟩ := h'.2 H en w spare held n cs ys (by simpa using hl) (fun i g hg => by simpa using hx (i + 1) g (by simpa using hg)) (fun i g z hg hz => hw (i + 1) g z (by simpa using hg) (by simpa using hz))
    refine ⟨(a, b), ?_, hQ, hQ'⟩
    have e : (cs.drop f.offset).take (sz + sz') = (cs.drop f.offset).take sz ++ (cs.drop (f.offset + sz)).take sz' := by rw [List.take_add, List.drop_drop]
    rw [e]
    exact CellsOf.app (hs ▸ hK) hK'
theorem opa_struct {α : Type} {P : Program} {t : TypeId} {fs : Array Field} {l : List Field} {sz : Nat} {enc : α → List AV} {Q : α → Prop} (h : P.underlying t = some (.struct fs)) (hl : fs.toList = l) (hc : P.cellsOf t = sz) (hF : OpAF P 0 l sz enc Q) : OpA P t sz enc Q := by
  refine ⟨hF.1, fun H en w spare held fuel cs x hx hw => ?_⟩
  obtain ⟨xs, n, _, rfl, hcs, hxl, hf⟩ := DataW.trod_struct h hx
  subst hl
  obtain ⟨a, hK, hQ⟩ := hF.2 H en w spare held n cs xs (by simpa using hxl) (fun i f hi => hf i f (by simpa using hi)) (fun i f x hfi hxi k hk => hw k (by
    unfold DataW.weights; rw [h]
    exact DataW.weights_mem_each (j := i) (by simp [hfi]) (by simp [hxi]) k hk))
  refine ⟨a, ?_, hQ⟩
  rwa [List.drop_zero, List.take_of_length_le (by omega)] at hK
/-- The same, told in other words. -/
theorem OpA.iso {α β : Type} {P : Program} {t : TypeId} {sz : Nat} {enc : α → List AV} {enc' : β → List AV} {Q : α → Prop} {Q' : β → Prop} (h : OpA P t sz enc Q) (f : β → α) (g : α → β) (hl : ∀ b, (enc' b).length = sz) (he : ∀ a, enc' (g a) = enc a) (hq : ∀ a, Q a → Q' (g a)) : OpA P t sz enc' Q' := by
  refine ⟨hl, fun H en w spare held fuel cs x hx hw => ?_⟩
  obtain ⟨a, hK, hQ⟩ := h.2 H en w spare held fuel cs x hx hw
  exact ⟨g a, by rw [he]; exact hK, hq a hQ⟩

/-- An argument that is a struct, opened: it is a value as the engine sees it. -/
theorem opened_struct {α H : Type} {en : TypeId × Value → H} {P : Program} {W : World} {base : Nat} {spare : Nat → Bool} {held : Bool} {t : TypeId} {fs : Array Field} {sz : Nat} {enc : α → List AV} {Q : α → Prop} (ho : OpA P t sz enc Q) (hu : P.underlying t = some (.struct fs)) {v : Value} {r : Reach} (hv : Value.okWide P W r base t v)
    {y : DataW H} {ps : List MemPlace} (h : DataW.Trod en P W 0 spare held t v y ps) (hw : ∀ n ∈ y.weights P t, n ≤ reachBytes) : ∃ a, Rep W (there W) noOwner noName [] (.ag (enc a)) v ∧ Q a := by
  obtain ⟨cs, rfl, _⟩ := okWide_struct hu hv
  obtain ⟨fuel, hf⟩ := h
  obtain ⟨a, hK, hQ⟩ := ho.2 H en W spare held fuel _ _ hf hw
  refine ⟨a, ?_, hQ⟩
  have e : cs = cs.toList.toArray := by simp
  rw [e]
  exact .ag _ _ hK.1 fun i x u hx hu => (hK.2 i x u hx hu).any
/-- An argument of one cell, opened. -/
theorem opened_cell {α H : Type} {en : TypeId × Value → H} {P : Program} {W : World} {spare : Nat → Bool} {held : Bool} {t : TypeId} {e : α → AV} {Q : α → Prop} (ho : OpA P t 1 (fun a => [e a]) Q) {v : Value} (hv : v.cells = #[v])
    {y : DataW H} {ps : List MemPlace} (h : DataW.Trod en P W 0 spare held t v y ps) (hw : ∀ n ∈ y.weights P t, n ≤ reachBytes) : ∃ a, Rep W (there W) noOwner noName [] (e a) v ∧ Q a := by
  obtain ⟨fuel, hf⟩ := h
  obtain ⟨a, hK, hQ⟩ := ho.2 H en W spare held fuel _ _ hf hw
  rw [hv] at hK
  exact ⟨a, hK.2 0 _ v rfl rfl, hQ⟩
theorem pure_calls {P : Program} {f : FuncId} {args : List AV} {x : Value} (h : Pure P f args (.v x)) (W : World) (us : List Value) (hl : us.length = args.length) (hr : ∀ (i : Nat) (x : AV) (u : Value), args[i]? = some x → us[i]? = some u → Rep W (there W) noOwner noName [] x u) :
    Calls P f us.toArray W fun e w' => e = .returned x ∧ Below W.heap.size W w' := by
  unfold Pure at h
  refine Calls.mono (h.2 W (there W) us (fun k hk => hk) hl hr) fun e w' => ?_
  rintro ⟨v, rfl, hb, S', _, _, hv⟩
  obtain ⟨rfl, _⟩ := hv.v_inv
  exact ⟨rfl, hb⟩
theorem weights_arg {H : Type} {P : Program} {ts : List TypeId} {ds : List (DataW H)} (h : (DataW.weightsEach P ts ds).all (· ≤ reachBytes) = true) {j : Nat} {t : TypeId} {d : DataW H} (ht : ts[j]? = some t) (hd : ds[j]? = some d) : ∀ n ∈ d.weights P t, n ≤ reachBytes := fun n hn => by
  rw [List.all_eq_true] at h
  simpa using h n (DataW.weights_mem_each ht hd n hn)
end Go.Proofs.Ytaiefncpgkoniaa.En
