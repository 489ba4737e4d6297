/- Own words, 9: one operation; what is lent to be looked at; a region in the order of its text. -/
import Derived.Test.YtaiefncpgkoniaaEn8
namespace Go.Proofs.Ytaiefncpgkoniaa.En
open Go.RowKit
set_option linter.unusedSimpArgs false
set_option linter.unusedVariables false

section
variable {C : Ctx} {s s' : AS} {a : Act} {w : World} {S : Nat → Prop} {Ow : Owners} {L : Names} {P : Program}

/-- A world in which all that stood stands. -/
theorem RelX.grown (h : RelX C s a w S Ow L) {w' : World} (hb : Below w.heap.size w w') : RelX C s a w' S Ow L := by
  have hS : ∀ k, S k → w'.heap[k]? = w.heap[k]? := fun k hk => hb.block k (h.ltS k hk)
  have hO : ∀ (k : Nat) (p : Path), Ow k = some p → w'.heap[k]? = w.heap[k]? := fun k p hk => hb.block k (h.ow k p hk).2
  refine { fix := h.fix, keep := ⟨hb.os.trans h.keep.os, hb.tape.trans h.keep.tape, hb.output.trans h.keep.output, Nat.le_trans h.keep.size hb.size, fun k hk hx => (hb.block k (Nat.lt_of_lt_of_le hk h.keep.size)).trans (h.keep.block k hk hx)⟩, inS := h.inS, upS := h.upS, ltS := fun k hk => Nat.lt_of_lt_of_le (h.ltS k hk) hb.size, owS := h.owS, ow := fun k p hk => ⟨(h.ow k p hk).1, Nat.lt_of_lt_of_le (h.ow k p hk).2 hb.size⟩, ow0 := h.ow0, blk := ?_, fresh := h.fresh, named := h.named, freshO := h.freshO, slot := ?_, size := h.size, defers := h.defers }
  · intro n k hn
    obtain ⟨loc, hl, hB⟩ := h.blk n k hn
    exact ⟨loc, hl, hB.world hb.size hS fun b q hq => hO b _ hq⟩
  · intro t x hx
    obtain ⟨v, hv, hR⟩ := h.slot t x hx
    exact ⟨v, hv, hR.world hb.size (fun _ hk => hk) hS fun k q hk => hO k _ hk⟩

theorem RelX.skip (h : RelX C s a w S Ow L) {d : Option Nat} (hd : okd C.nt.n d = true) : RelX C (En.put s d (.tu [])) (a.put d undef) w S Ow L :=
  h.put d hd (.tu [] [] rfl fun i x u hx hu => by simp at hx)

/-- One operation that calls no function. -/
def astep (P : Program) (nt : NT) (s : AS) (o : Oper) : Option AS :=
  if okd nt.n o.dst then match o.op with
    | .load t p => (aload P s t p).map fun r => put r.2 o.dst r.1
    | .store t p x => (astore P s t p x).map fun s' => put s' o.dst (.tu [])
    | .alloc t => (aalloc P s t).map fun r => put r.2 o.dst r.1
    | .box t x => (abox s t x).map fun r => put r.2 o.dst r.1
    | .build t ps => (abuild P s t ps).map fun r => put r.2 o.dst r.1
    | .buildSlice t n ps => (abuildSlice P s t n ps).map fun r => put r.2 o.dst r.1
    | .makeSlice t l c => (amake P s t l c).map fun r => put r.2 o.dst r.1
    | .slice t x lo hi none => (aslice P s t x lo hi).map fun v => put s o.dst v
    | .call ⟨.builtin .append, as, ts⟩ => match as.toList, ts.toList with
      | [x, y], [t, tx] => (aappend P s x y t tx).map fun r => put r.2 o.dst r.1
      | _, _ => none
    | op => (aval P s op).map fun v => put s o.dst v
  else none

theorem astep_sound (h : RelX C s a w S Ow L) {o : Oper} (hx : astep P C.nt s o = some s') :
    ∃ n w' Ow' L', (execOp a.eval o).run P w = .ok n w' ∧ ((∃ u, n = .value u ∧ RelX C s' (a.put o.dst u) w' S Ow' L') ∨ (n = .skip ∧ RelX C s' (a.put o.dst undef) w' S Ow' L')) := by
  unfold astep at hx
  split at hx
  case isFalse => cases hx
  rename_i hd
  have val : ∀ {x : AV} {s1 : AS} {u : Value} {w' : World} {Ow' : Owners} {L' : Names}, (execOp a.eval o).run P w = .ok (.value u) w' → RelX C s1 a w' S Ow' L' → Rep w' S Ow' L' [0] x u → s' = put s1 o.dst x →
      ∃ n w' Ow' L', (execOp a.eval o).run P w = .ok n w' ∧ ((∃ u, n = .value u ∧ RelX C s' (a.put o.dst u) w' S Ow' L') ∨ (n = .skip ∧ RelX C s' (a.put o.dst undef) w' S Ow' L')) :=
    fun hr hR hu e => ⟨_, _, _, _, hr, .inl ⟨_, rfl, by rw [e]; exact hR.put o.dst hd hu⟩⟩
  split at hx
  · rename_i t p hop
    simp only [Option.map_eq_some_iff] at hx
    obtain ⟨⟨x, s1⟩, hl, rfl⟩ := hx
    obtain ⟨u, Ow', L', hr, hR, hu⟩ := aload_sound h hop hl
    exact val (hr w fun _ _ => rfl) hR hu rfl
  · rename_i t p x hop
    simp only [Option.map_eq_some_iff] at hx
    obtain ⟨s1, hl, rfl⟩ := hx
    obtain ⟨w', hr, hR⟩ := astore_sound h hop hl
    exact ⟨_, _, _, _, hr, .inr ⟨rfl, hR.skip hd⟩⟩
  · rename_i t hop
    simp only [Option.map_eq_some_iff] at hx
    obtain ⟨⟨x, s1⟩, hl, rfl⟩ := hx
    obtain ⟨u, w', Ow', L', hr, hR, hu⟩ := aalloc_sound h hop hl
    exact val hr hR hu rfl
  · rename_i t y hop
    simp only [Option.map_eq_some_iff] at hx
    obtain ⟨⟨x, s1⟩, hl, rfl⟩ := hx
    obtain ⟨u, w', Ow', L', hr, hR, hu⟩ := abox_sound h hop hl
    exact val hr hR hu rfl
  · rename_i t ps hop
    simp only [Option.map_eq_some_iff] at hx
    obtain ⟨⟨x, s1⟩, hl, rfl⟩ := hx
    obtain ⟨u, rfl, hr, hu⟩ := abuild_sound h hop hl
    exact val hr h hu rfl
  · rename_i t n ps hop
    simp only [Option.map_eq_some_iff] at hx
    obtain ⟨⟨x, s1⟩, hl, rfl⟩ := hx
    obtain ⟨u, w', Ow', L', hr, hR, hu⟩ := abuildSlice_sound h hop hl
    exact val hr hR hu rfl
  · rename_i t l c hop
    simp only [Option.map_eq_some_iff] at hx
    obtain ⟨⟨x, s1⟩, hl, rfl⟩ := hx
    obtain ⟨u, w', Ow', L', hr, hR, hu⟩ := amake_sound h hop hl
    exact val hr hR hu rfl
  · rename_i t y lo hi hop
    simp only [Option.map_eq_some_iff] at hx
    obtain ⟨x, hl, rfl⟩ := hx
    obtain ⟨u, hr, hu⟩ := aslice_sound h hop hl
    exact val hr h hu rfl
  · rename_i as ts hop
    split at hx
    · rename_i x y t tx has hts
      simp only [Option.map_eq_some_iff] at hx
      obtain ⟨⟨v, s1⟩, hl, rfl⟩ := hx
      have ea : as = #[x, y] := by rw [← Array.toArray_toList (xs := as), has]
      have et : ts = #[t, tx] := by rw [← Array.toArray_toList (xs := ts), hts]
      subst ea et
      obtain ⟨u, w', Ow', L', hr, hR, hu⟩ := aappend_sound h hop hl
      exact val hr hR hu rfl
    · cases hx
  · simp only [Option.map_eq_some_iff] at hx
    obtain ⟨v, hv, rfl⟩ := hx
    obtain ⟨u, hr, hu⟩ := aval_sound (w := w) h hv
    exact val (hr w) h hu rfl

theorem aload_same {t : TypeId} {p : Operand} {x : AV} (hx : aload P s t p = some (x, s')) (hn : s'.nx = s.nx) : s' = s := by
  unfold aload loadOne at hx
  repeat' split at hx
  all_goals first
    | (simp only [Option.some.injEq, Prod.mk.injEq] at hx; obtain ⟨_, rfl⟩ := hx; first | rfl | (simp at hn; done))
    | (simp only [Option.map_eq_some_iff, Prod.mk.injEq] at hx; obtain ⟨_, _, _, rfl⟩ := hx; rfl)
    | (cases hx; done)

/-- One operation that only looks. -/
def qstep (P : Program) (nt : NT) (s : AS) (o : Oper) : Option AS :=
  if okd nt.n o.dst then match o.op with
    | .load t p => match aload P s t p with
      | some (x, s') => if s'.nx = s.nx then some (put s o.dst x) else none
      | none => none
    | op => (aval P s op).map fun v => put s o.dst v
  else none
theorem qstep_sound (h : RelX C s a w S Ow L) {o : Oper} (hx : qstep P C.nt s o = some s') :
    ∃ u Ow' L', (∀ w', Below w.heap.size w w' → (execOp a.eval o).run P w' = .ok (.value u) w') ∧ RelX C s' (a.put o.dst u) w S Ow' L' := by
  unfold qstep at hx
  split at hx
  case isFalse => cases hx
  rename_i hd
  split at hx
  · rename_i t p hop
    split at hx
    · rename_i x s1 hl
      split at hx
      · rename_i hn
        cases hx
        have := aload_same hl hn
        subst this
        obtain ⟨u, Ow', L', hr, hR, hu⟩ := aload_sound h hop hl
        exact ⟨u, Ow', L', fun w' hb => hr w' hb.block, hR.put o.dst hd hu⟩
      · cases hx
    · cases hx
  · simp only [Option.map_eq_some_iff] at hx
    obtain ⟨v, hv, rfl⟩ := hx
    obtain ⟨u, hr, hu⟩ := aval_sound (w := w) h hv
    exact ⟨u, Ow, L, fun w' _ => hr w', h.put o.dst hd hu⟩

/-- Is an operation with a guard wanted? -/
def gd (ops : Array Oper) (s : AS) (o : Oper) : Option Bool :=
  match o.guard with
  | none => some true
  | some (g, b) => match (ops[g]?).bind (·.dst) with
    | some t => match lk s.tm t with
      | some (.v (.bool c)) => some (c == b)
      | some (.tu _) => some false
      | _ => none
    | none => none
theorem gd_sound (h : RelX C s a w S Ow L) {ops : Array Oper} {o : Oper} {b : Bool} (hg : gd ops s o = some b) : Region.wanted o (yielded ops a.tmps) = b := by
  unfold gd at hg
  unfold Region.wanted
  split at hg
  · rename_i e; rw [e]; cases hg; rfl
  · rename_i g b' e
    rw [e]
    split at hg
    · rename_i t ht
      split at hg
      · rename_i c hc
        cases hg
        obtain ⟨u, hu, hR⟩ := h.slot t _ hc
        obtain ⟨rfl, _⟩ := hR.v_inv
        simp [yielded, ht, hu]
      · rename_i xs hc
        cases hg
        obtain ⟨u, hu, hR⟩ := h.slot t _ hc
        obtain ⟨us, rfl, _⟩ := hR.tu_inv
        simp [yielded, ht, hu]
      · cases hg
    · cases hg

/-! #### what is lent to be looked at -/
/-- Blocks that nobody writes, and one's own, while nobody writes them. -/
def lent (S : Nat → Prop) (Ow : Owners) : Nat → Prop := fun k => S k ∨ Ow k ≠ none
/-- A value as it is seen by someone who only looks. -/
inductive Fz (bl : List (Nat × Blk)) : AV → AV → Prop
  | v (x : Value) : Fz bl (.v x) (.v x)
  | im (sz : Nat) (xs : List (List AV)) : Fz bl (.im sz xs) (.im sz xs)
  | pi (xs : List AV) : Fz bl (.pi xs) (.pi xs)
  | ag (xs ys : List AV) (h : ys.length = xs.length) (hr : ∀ (i : Nat) (x y : AV), xs[i]? = some x → ys[i]? = some y → Fz bl x y) : Fz bl (.ag xs) (.ag ys)
  | tu (xs ys : List AV) (h : ys.length = xs.length) (hr : ∀ (i : Nat) (x y : AV), xs[i]? = some x → ys[i]? = some y → Fz bl x y) : Fz bl (.tu xs) (.tu ys)
  | ow (e : TypeId) (sz : Nat) (xs ys : List (List AV)) (h : ys.length = xs.length) (h1 : ∀ (j : Nat) (r r' : List AV), xs[j]? = some r → ys[j]? = some r' → r'.length = r.length)
      (hr : ∀ (j : Nat) (r r' : List AV) (i : Nat) (x y : AV), xs[j]? = some r → ys[j]? = some r' → r[i]? = some x → r'[i]? = some y → Fz bl x y) : Fz bl (.ow e sz xs) (.im sz ys)
  | own (n off len : Nat) (k : Blk) (ys zs : List (List AV)) (hk : lb bl n = some k) (h : ys.length = k.xs.length) (h1 : ∀ (j : Nat) (r r' : List AV), k.xs[j]? = some r → ys[j]? = some r' → r'.length = r.length)
      (hr : ∀ (j : Nat) (r r' : List AV) (i : Nat) (x y : AV), k.xs[j]? = some r → ys[j]? = some r' → r[i]? = some x → r'[i]? = some y → Fz bl x y) (hl : off + len ≤ ys.length) (hz : zs = (ys.drop off).take len) : Fz bl (.own n k.sz off len) (.im k.sz zs)
  | fn (g : FuncId) (xs ys : List AV) (h : ys.length = xs.length) (hr : ∀ (i : Nat) (x y : AV), xs[i]? = some x → ys[i]? = some y → Fz bl x y) : Fz bl (.fn g xs) (.fn g ys)
  | pb (n j i : Nat) (k : Blk) (row ys : List AV) (hk : lb bl n = some k) (hrow : k.xs[j]? = some row) (h : ys.length = (row.drop i).length) (hr : ∀ (q : Nat) (x y : AV), (row.drop i)[q]? = some x → ys[q]? = some y → Fz bl x y) : Fz bl (.pb n k.sz j i) (.pi ys)

theorem get_of_len {α β : Type} {xs : List α} {ys : List β} {i : Nat} {y : β} (h : ys.length = xs.length) (hy : ys[i]? = some y) : ∃ x, xs[i]? = some x := by
  have : i < xs.length := by have := (List.getElem?_eq_some_iff.1 hy).1; omega
  exact ⟨_, List.getElem?_eq_getElem this⟩

/-- The blocks of the rows N too. -/
def lentN (N : Nat → Prop) (S : Nat → Prop) (Ow : Owners) : Nat → Prop := fun k => S k ∨ ∃ n q, N n ∧ Ow k = some ((n + 1) :: q)
theorem lentN_lent {N : Nat → Prop} {k : Nat} (h : lentN N S Ow k) : lent S Ow k := by
  rcases h with h | ⟨n, q, _, h⟩
  · exact .inl h
  · exact .inr (by rw [h]; simp)
theorem Rep.fzN (h : RelX C s a w S Ow L) {N : Nat → Prop} {bl : List (Nat × Blk)} (hbl : ∀ n k, lb bl n = some k → N n ∧ lb s.bl n = some k) {x y : AV} (hf : Fz bl x y) : ∀ {p : Path} {u : Value} {L1 : Names}, (∀ b q, Ow b = some (p ++ q) → ∃ n r, N n ∧ p ++ q = (n + 1) :: r) → (∀ n, L1 n = L n ∨ L1 n = .free) → Rep w S Ow L1 p x u → ∀ {p' : Path}, Rep w (lentN N S Ow) noOwner noName p' y u := by
  have hle : ∀ k, S k → lentN N S Ow k := fun k hk => .inl hk
  have ext : ∀ {p : Path}, (∀ b q, Ow b = some (p ++ q) → ∃ n r, N n ∧ p ++ q = (n + 1) :: r) → ∀ (e : Path), ∀ b q, Ow b = some (p ++ e ++ q) → ∃ n r, N n ∧ p ++ e ++ q = (n + 1) :: r := fun {p} hp e b q hq => by
    rw [List.append_assoc] at hq ⊢
    exact hp b (e ++ q) hq
  induction hf with
  | v x => intro p u L1 hp _ hr p'; obtain ⟨rfl, h1⟩ := hr.v_inv; exact .v _ h1
  | im sz xs =>
    intro p u L1 hp _ hr p'
    cases hr with
    | im _ _ A c ad us hc ha hS hz hcell hrr =>
      exact (Rep.im sz xs A c ad us hc ha hS hz hcell hrr : Rep w S noOwner noName p' (.im sz xs) _).world (Nat.le_refl _) hle (fun _ _ => rfl) (fun _ _ _ => rfl)
  | pi xs =>
    intro p u L1 hp _ hr p'
    cases hr with
    | pi _ ad us hS hcell hrr =>
      exact (Rep.pi xs ad us hS hcell hrr : Rep w S noOwner noName p' (.pi xs) _).world (Nat.le_refl _) hle (fun _ _ => rfl) (fun _ _ _ => rfl)
  | ag xs ys hl _ ih =>
    intro p u L1 hp hL1 hr p'
    obtain ⟨us, rfl, h1, h2⟩ := hr.ag_inv
    refine .ag ys us (by omega) fun i y u hy hu => ?_
    obtain ⟨x, hx⟩ := get_of_len hl hy
    exact ih i x y hx hy (ext hp _) hL1 (h2 i x u hx hu)
  | tu xs ys hl _ ih =>
    intro p u L1 hp hL1 hr p'
    obtain ⟨us, rfl, h1, h2⟩ := hr.tu_inv
    refine .tu ys us (by omega) fun i y u hy hu => ?_
    obtain ⟨x, hx⟩ := get_of_len hl hy
    exact ih i x y hx hy (ext hp _) hL1 (h2 i x u hx hu)
  | fn g xs ys hl _ ih =>
    intro p u L1 hp hL1 hr p'
    obtain ⟨us, rfl, h1, h2⟩ := hr.fn_inv
    refine .fn g ys us (by omega) fun i y u hy hu => ?_
    obtain ⟨x, hx⟩ := get_of_len hl hy
    exact ih i x y hx hy (ext hp _) hL1 (h2 i x u hx hu)
  | ow e sz xs ys hl h1 _ ih =>
    intro p u L1 hp hL1 hr p'
    cases hr with
    | ow _ _ _ b o cap cs us ho hh hs hc hz hcell hrr =>
      have here : ∀ {b : Nat}, Ow b = some p → lentN N S Ow b := fun {b} hb => by
        obtain ⟨n, r, h1, h2⟩ := hp b [] (by simpa using hb)
        exact .inr ⟨n, r, h1, by rw [hb]; simpa using h2⟩
      have e0 : xs.length = ys.length := hl.symm
      rw [e0]
      refine .im sz ys _ cap ⟨b, o * sz, none⟩ us (by omega) (fun _ => rfl) (fun _ => ⟨here ho, (h.ow b _ ho).2, rfl⟩) (fun j row hj => ?_) (fun j row i y hj hi => ?_) (fun j row i y hj hi => ?_)
      · obtain ⟨r, hx⟩ := get_of_len hl hj
        rw [h1 j r row hx hj]; exact hz j r hx
      · obtain ⟨r, hx⟩ := get_of_len hl hj
        obtain ⟨x, hxi⟩ := get_of_len (h1 j r row hx hj) hi
        have := hcell j r i x hx hxi
        rw [cell_of_row w b _ cs e (0, 0) hh, ← this, Nat.add_mul, Nat.add_assoc]
      · obtain ⟨r, hx⟩ := get_of_len hl hj
        obtain ⟨x, hxi⟩ := get_of_len (h1 j r row hx hj) hi
        exact ih j r row i x y hx hj hxi hi (ext hp _) (fun _ => .inr rfl) (hrr j r i x hx hxi)
    | ow_nil =>
      have : ys = [] := List.eq_nil_of_length_eq_zero (by simpa using hl)
      subst this
      exact .im sz [] none 0 ⟨0, 0, none⟩ (fun _ _ => undef) (Nat.le_refl 0) (fun hx => absurd rfl hx) (fun hx => absurd rfl hx) (fun j row hj => by simp at hj) (fun j row i y hj => by simp at hj) (fun j row i y hj => by simp at hj)
  | own n off len k ys zs hk hl h1 _ hlen hzs ih =>
    intro p u L1 hp hL1 hr p'
    subst hzs
    obtain ⟨loc, hloc, hB⟩ := h.blk n k (hbl n k hk).2
    have hzl : ((ys.drop off).take len).length = len := by rw [List.length_take, List.length_drop]; omega
    have nilCase : len = 0 → ∀ A c, u = .slice A 0 c → Rep w (lentN N S Ow) noOwner noName p' (.im k.sz ((ys.drop off).take len)) u := fun h0 A c e => by
      subst h0 e
      rw [List.take_zero]
      exact .im k.sz [] A c ⟨0, 0, none⟩ (fun _ _ => undef) (Nat.zero_le _) (fun hx => absurd rfl hx) (fun hx => absurd rfl hx) (fun j row hj => by simp at hj) (fun j row i y hj => by simp at hj) (fun j row i y hj => by simp at hj)
    have pick : ∀ {m : NL}, L1 n = m → m ≠ .free → L n = m := fun {m} e hne => by
      rcases hL1 n with g | g
      · rw [← g]; exact e
      · rw [g] at e; exact absurd e.symm hne
    cases hr with
    | own _ _ _ _ b o cap hL hle2 =>
      have hL := pick hL (by simp)
      rw [hloc] at hL
      cases hL
      obtain ⟨hob, cs, us, hh, hcs, hxs, hz, hcell, hrep⟩ := hB
      have sub : ∀ (j : Nat) (row : List AV), ((ys.drop off).take len)[j]? = some row → ys[off + j]? = some row := fun j row hj => by
        rw [List.getElem?_take] at hj
        split at hj
        · rwa [List.getElem?_drop] at hj
        · cases hj
      have := Rep.im (w := w) (S := lentN N S Ow) (Ow := noOwner) (L := noName) (p := p') k.sz ((ys.drop off).take len) (some ⟨b, (o + off) * k.sz, none⟩) (cap - off) ⟨b, (o + off) * k.sz, none⟩ (fun j i => us (off + j) i) (by rw [hzl]; omega) (fun _ => rfl) (fun _ => ⟨.inr ⟨n, [], (hbl n k hk).1, hob⟩, (h.ow b _ hob).2, rfl⟩) (fun j row hj => ?_) (fun j row i y hj hi => ?_) (fun j row i y hj hi => ?_)
      · rwa [hzl] at this
      · have hj := sub j row hj
        obtain ⟨r, hx⟩ := get_of_len hl hj
        rw [h1 _ r row hx hj]; exact hz _ r hx
      · have hj := sub j row hj
        obtain ⟨r, hx⟩ := get_of_len hl hj
        obtain ⟨x, hxi⟩ := get_of_len (h1 _ r row hx hj) hi
        have := hcell _ r i x hx hxi
        rw [cell_of_row w b _ cs k.e (0, 0) hh, ← this]
        congr 1
        rw [← Nat.add_assoc, ← Nat.add_mul, Nat.add_assoc]
      · have hj := sub j row hj
        obtain ⟨r, hx⟩ := get_of_len hl hj
        obtain ⟨x, hxi⟩ := get_of_len (h1 _ r row hx hj) hi
        exact ih _ r row i x y hx hj hxi hi (fun b q hq => ⟨n, _, (hbl n k hk).1, rfl⟩) (fun _ => .inl rfl) (hrep _ r i x hx hxi)
    | own_end => exact nilCase rfl _ _ rfl
    | own_nil => exact nilCase rfl _ _ rfl
    | own_gone _ _ _ _ _ hg _ =>
      have := pick hg (by simp)
      rw [hloc] at this; cases this
  | pb n j i k row ys hk hrow hl _ ih =>
    intro p u L1 hp hL1 hr p'
    obtain ⟨loc, hloc, hB⟩ := h.blk n k (hbl n k hk).2
    have pick : ∀ {m : NL}, L1 n = m → m ≠ .free → L n = m := fun {m} e hne => by
      rcases hL1 n with g | g
      · rw [← g]; exact e
      · rw [g] at e; exact absurd e.symm hne
    cases hr with
    | pb _ _ _ _ b o cap hL =>
      have hL := pick hL (by simp)
      rw [hloc] at hL
      cases hL
      obtain ⟨hob, cs, us, hh, hcs, hxs, hz, hcell, hrep⟩ := hB
      refine .pi ys _ (fun q => us j (i + q)) ⟨.inr ⟨n, [], (hbl n k hk).1, hob⟩, (h.ow b _ hob).2, rfl⟩ (fun q y hq => ?_) (fun q y hq => ?_)
      · obtain ⟨x, hx⟩ := get_of_len hl hq
        rw [List.getElem?_drop] at hx
        have := hcell j row (i + q) x hrow hx
        show w.cell? ⟨b, (o + j) * k.sz + i + q, none⟩ = _
        rw [cell_of_row w b _ cs k.e (0, 0) hh, ← this, Nat.add_assoc]
      · obtain ⟨x, hx⟩ := get_of_len hl hq
        refine ih q x y hx hq (fun b q hq => ⟨n, _, (hbl n k hk).1, rfl⟩) (fun _ => .inl rfl) (hrep j row (i + q) x hrow (by rwa [List.getElem?_drop] at hx))
    | pb_gone _ _ _ _ _ hg _ =>
      have := pick hg (by simp)
      rw [hloc] at this; cases this
theorem Rep.fz (h : RelX C s a w S Ow L) {x y : AV} (hf : Fz s.bl x y) {u : Value} {r p' : Path} (hr : Rep w S Ow L (0 :: r) x u) : Rep w (lent S Ow) noOwner noName p' y u :=
  (Rep.fzN h (N := fun _ => True) (fun n k hk => ⟨trivial, hk⟩) hf (fun b q hq => absurd hq (h.ow0 b _)) (fun _ => .inl rfl) hr).world (Nat.le_refl _) (fun _ hk => lentN_lent hk) (fun _ _ => rfl) (fun _ _ _ => rfl)
end
end Go.Proofs.Ytaiefncpgkoniaa.En
