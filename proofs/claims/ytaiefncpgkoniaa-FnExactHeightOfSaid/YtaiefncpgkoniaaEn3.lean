/- Own words, 3: operations that give a value and leave memory alone. -/
import Derived.Test.YtaiefncpgkoniaaEn2
import Derived.DataElems
import Derived.Laws.StructEq
import GoSem.Dispatch
namespace Go.Proofs.Ytaiefncpgkoniaa.En
open Go.RowKit
set_option linter.unusedSimpArgs false
set_option linter.unusedVariables false

structure TI where
  agg : Bool
  sz : Nat
  bytes : Nat
def isAg : TypeDesc → Bool
  | .struct _ | .array _ _ => true
  | _ => false
def ti (P : Program) (t : TypeId) : Option TI :=
  match P.underlying t, P.info? t with
  | some d, some i => some ⟨isAg d, i.size, i.bytes⟩
  | _, _ => none
/-- A slice's element type; an array's length and element type; a field's place and type. -/
def elT (P : Program) (t : TypeId) : Option TypeId := match P.underlying t with | some (.slice e) => some e | _ => none
def arT (P : Program) (t : TypeId) : Option (Nat × TypeId) := match P.underlying t with | some (.array n e) => some (n, e) | _ => none
def fo (P : Program) (t : TypeId) (f : Nat) : Option (Nat × TypeId) := match P.underlying t with | some (.struct fs) => (fs[f]?).map fun x => (x.offset, x.type) | _ => none
def isStrT (P : Program) (t : TypeId) : Bool := match P.underlying t with | some .string => true | _ => false

def cvl : Value → Option AV
  | .agg cs => if cs.all Value.oneCell' then some (.ag (cs.toList.map .v)) else none
  | .tuple _ => none
  | x => some (.v x)
def ev (s : AS) : Operand → Option AV
  | .tmp t => lk s.tm t
  | .const x => cvl x
  | .func f => some (.fn f [])
  | .global _ => none

section
variable {C : Ctx} {s : AS} {a : Act} {w : World} {S : Nat → Prop} {Ow : Owners} {L : Names} {P : Program}

theorem cvl_rep {x : Value} {y : AV} (h : cvl x = some y) : Rep w S Ow L [0] y x := by
  cases x with
  | agg cs =>
    simp only [cvl] at h
    split at h
    · rename_i hc
      cases h
      have e : Value.agg cs = .agg cs.toList.toArray := by simp
      rw [e]
      refine .ag _ _ (by simp) (fun i x u hx hu => ?_)
      simp only [List.getElem?_map, Option.map_eq_some_iff] at hx
      obtain ⟨v, hv, rfl⟩ := hx
      rw [hu] at hv
      cases hv
      refine .v _ ?_
      rw [Array.all_eq_true_iff_forall_mem] at hc
      exact hc u (by simpa using List.mem_of_getElem? hu)
    · cases h
  | tuple _ => simp [cvl] at h
  | _ => simp only [cvl, Option.some.injEq] at h; subst h; exact .v _ rfl
theorem ev_rep (h : RelX C s a w S Ow L) {x : Operand} {y : AV} (hx : ev s x = some y) : Rep w S Ow L [0] y (a.eval x) := by
  cases x with
  | tmp t =>
    obtain ⟨u, hu, hR⟩ := h.slot t y hx
    simpa [Act.eval, Array.getD_eq_getD_getElem?, hu] using hR
  | const v => exact cvl_rep hx
  | func f =>
    simp only [ev, Option.some.injEq] at hx
    subst hx
    exact .fn f [] [] rfl (fun i x u hx hu => by simp at hx)
  | global g => simp [ev] at hx

/-- Values that own nothing and have one cell. -/
def sim : AV → Bool
  | .v _ | .im _ _ | .own _ _ _ _ | .pb _ _ _ _ | .pi _ => true
  | _ => false
def flat : AV → Bool
  | .v _ | .im _ _ | .own _ _ _ _ | .pb _ _ _ _ | .pi _ => true
  | .fn _ cap => cap.all sim
  | _ => false
theorem Rep.sim {p p' : Path} {x : AV} {u : Value} (h : Rep w S Ow L p x u) (hf : En.sim x = true) : Rep w S Ow L p' x u := by
  cases h with
  | v _ h => exact .v _ h
  | im sz xs A c ad us hc ha hS hz hcell hr => exact .im sz xs A c ad us hc ha hS hz hcell hr
  | own n sz off len b o cap h hl => exact .own n sz off len b o cap h hl
  | own_end n sz off b o cap a h hl => exact .own_end n sz off b o cap a h hl
  | own_nil n sz h => exact .own_nil n sz h
  | own_gone n sz off len u h h1 => exact .own_gone n sz off len u h h1
  | pb n sz j i b o cap h => exact .pb n sz j i b o cap h
  | pb_gone n sz j i u h h1 => exact .pb_gone n sz j i u h h1
  | pi xs ad us hS hcell hr => exact .pi xs ad us hS hcell hr
  | _ => simp [En.sim] at hf
theorem Rep.flat {p p' : Path} {x : AV} {u : Value} (h : Rep w S Ow L p x u) (hf : En.flat x = true) : Rep w S Ow L p' x u := by
  cases h with
  | fn g cap us hl hr =>
    refine .fn g cap us hl (fun i x u hx hu => (hr i x u hx hu).sim ?_)
    simp only [En.flat, List.all_eq_true] at hf
    exact hf x (List.mem_of_getElem? hx)
  | v _ h => exact .v _ h
  | im sz xs A c ad us hc ha hS hz hcell hr => exact .im sz xs A c ad us hc ha hS hz hcell hr
  | own n sz off len b o cap h hl => exact .own n sz off len b o cap h hl
  | own_end n sz off b o cap a h hl => exact .own_end n sz off b o cap a h hl
  | own_nil n sz h => exact .own_nil n sz h
  | own_gone n sz off len u h h1 => exact .own_gone n sz off len u h h1
  | pb n sz j i b o cap h => exact .pb n sz j i b o cap h
  | pb_gone n sz j i u h h1 => exact .pb_gone n sz j i u h h1
  | pi xs ad us hS hcell hr => exact .pi xs ad us hS hcell hr
  | _ => simp [En.flat] at hf
/-- What has one cell. -/
def c1 : AV → Bool
  | .ag _ | .tu _ => false
  | _ => true
theorem Rep.one {p : Path} {x : AV} {u : Value} (h : Rep w S Ow L p x u) (hf : c1 x = true) : u.oneCell' = true := by
  cases h with
  | v _ h => exact h
  | own_gone _ _ _ _ _ _ h1 => exact h1
  | pb_gone _ _ _ _ _ _ h1 => exact h1
  | ag => simp [c1] at hf
  | tu => simp [c1] at hf
  | _ => rfl
theorem Rep.any {p p' : Path} {Ow' : Owners} {L' : Names} {x : AV} {u : Value} (h : Rep w S noOwner noName p x u) : Rep w S Ow' L' p' x u :=
  h.names (fun _ => .inl rfl) (fun _ _ hq => by cases hq)
theorem Rep.v_inv {p : Path} {x u : Value} (h : Rep w S Ow L p (.v x) u) : u = x ∧ x.oneCell' = true := by cases h; exact ⟨rfl, by assumption⟩
theorem Rep.ag_inv {p : Path} {xs : List AV} {u : Value} (h : Rep w S Ow L p (.ag xs) u) : ∃ us : List Value, u = .agg us.toArray ∧ us.length = xs.length ∧ ∀ (i : Nat) (x : AV) (u : Value), xs[i]? = some x → us[i]? = some u → Rep w S Ow L (p ++ [0, i]) x u := by
  cases h with | ag _ us h hr => exact ⟨us, rfl, h, hr⟩
theorem Rep.tu_inv {p : Path} {xs : List AV} {u : Value} (h : Rep w S Ow L p (.tu xs) u) : ∃ us : List Value, u = .tuple us.toArray ∧ us.length = xs.length ∧ ∀ (i : Nat) (x : AV) (u : Value), xs[i]? = some x → us[i]? = some u → Rep w S Ow L (p ++ [1, i]) x u := by
  cases h with | tu _ us h hr => exact ⟨us, rfl, h, hr⟩
theorem Rep.fn_inv {p : Path} {g : FuncId} {xs : List AV} {u : Value} (h : Rep w S Ow L p (.fn g xs) u) : ∃ us : List Value, u = .func (.func g) #[] us.toArray ∧ us.length = xs.length ∧ ∀ (i : Nat) (x : AV) (u : Value), xs[i]? = some x → us[i]? = some u → Rep w S Ow L (p ++ [2, i]) x u := by
  cases h with | fn _ _ us h hr => exact ⟨us, rfl, h, hr⟩
/-- Cells that nobody writes, from an address on. -/
def Imm (w : World) (S : Nat → Prop) (ad : Addr) (xs : List AV) : Prop :=
  (S ad.block ∧ ad.block < w.heap.size ∧ ad.spot = none) ∧ ∃ us : Nat → Value, (∀ (i : Nat) (x : AV), xs[i]? = some x → w.cell? ⟨ad.block, ad.off + i, none⟩ = some (us i)) ∧ ∀ (i : Nat) (x : AV), xs[i]? = some x → Rep w S noOwner noName [] x (us i)
theorem Rep.pi_inv {p : Path} {xs : List AV} {u : Value} (h : Rep w S Ow L p (.pi xs) u) : ∃ ad, u = .pointer (some ad) ∧ Imm w S ad xs := by
  cases h with | pi _ ad us hS hcell hr => exact ⟨ad, rfl, hS, us, hcell, hr⟩
theorem Imm.rep {p : Path} {ad : Addr} {xs : List AV} (h : Imm w S ad xs) : Rep w S Ow L p (.pi xs) (.pointer (some ad)) := by
  obtain ⟨hS, us, hcell, hr⟩ := h
  exact .pi xs ad us hS hcell hr
theorem Imm.drop {ad : Addr} {xs : List AV} (h : Imm w S ad xs) (n : Nat) : Imm w S (ad.add n) (xs.drop n) := by
  obtain ⟨hS, us, hcell, hr⟩ := h
  have hb : (ad.add n).block = ad.block := by unfold Addr.add; split <;> rfl
  have ho : (ad.add n).off = ad.off + n := by unfold Addr.add; split <;> simp_all
  have hs : (ad.add n).spot = none := by unfold Addr.add; split <;> simp_all
  refine ⟨⟨by rw [hb]; exact hS.1, by rw [hb]; exact hS.2.1, hs⟩, fun i => us (n + i), fun i x hx => ?_, fun i x hx => ?_⟩
  · rw [List.getElem?_drop] at hx
    rw [hb, ho, Nat.add_assoc]; exact hcell _ x hx
  · rw [List.getElem?_drop] at hx
    exact hr _ x hx
theorem Rep.im_inv {p : Path} {sz : Nat} {xs : List (List AV)} {u : Value} (h : Rep w S Ow L p (.im sz xs) u) : ∃ A c, u = .slice A xs.length c ∧ xs.length ≤ c ∧ (∀ (j : Nat) (row : List AV), xs[j]? = some row → row.length = sz) ∧
    ∀ (j : Nat) (row : List AV), xs[j]? = some row → ∃ ad, A = some ad ∧ Imm w S (ad.add (j * sz)) row := by
  cases h with
  | im _ _ A c ad us hc ha hS hz hcell hr =>
    refine ⟨A, c, rfl, hc, hz, fun j row hj => ?_⟩
    have hne : xs ≠ [] := by rintro rfl; simp at hj
    have hS := hS hne
    have hb : (ad.add (j * sz)).block = ad.block := by unfold Addr.add; split <;> rfl
    have ho : (ad.add (j * sz)).off = ad.off + j * sz := by unfold Addr.add; split <;> simp_all
    have hs : (ad.add (j * sz)).spot = none := by unfold Addr.add; split <;> simp_all
    refine ⟨ad, ha hne, ⟨by rw [hb]; exact hS.1, by rw [hb]; exact hS.2.1, hs⟩, us j, fun i x hi => ?_, fun i x hi => hr j row i x hj hi⟩
    rw [hb, ho, Nat.add_assoc]; exact hcell j row i x hj hi

/-! #### types -/
theorem ti_agg {t : TypeId} {i : TI} (h : ti P t = some i) : (isAgg t).run P w = .ok i.agg w := by
  unfold ti at h
  split at h
  · rename_i d i' hd hi
    cases h
    unfold isAgg
    rw [Sem.run_bind, run_underlying hd w]
    cases d <;> rfl
  · cases h
theorem ti_size {t : TypeId} {i : TI} (h : ti P t = some i) : (sizeOf t).run P w = .ok i.sz w := by
  unfold ti at h
  split at h
  · rename_i d i' hd hi
    cases h
    simp [sizeOf, typeInfo, hi]
  · cases h
theorem ti_bytes {t : TypeId} {i : TI} (h : ti P t = some i) : ∃ i', (typeInfo t).run P w = .ok i' w ∧ i'.bytes = i.bytes ∧ i'.size = i.sz := by
  unfold ti at h
  split at h
  · rename_i d i' hd hi
    cases h
    exact ⟨i', by simp [typeInfo, hi], rfl, rfl⟩
  · cases h
theorem elT_run {t e : TypeId} (h : elT P t = some e) : P.underlying t = some (.slice e) := by
  unfold elT at h; split at h <;> simp_all
theorem arT_run {t e : TypeId} {n : Nat} (h : arT P t = some (n, e)) : P.underlying t = some (.array n e) := by
  unfold arT at h; split at h <;> simp_all
theorem fo_run {t e : TypeId} {f off : Nat} (h : fo P t f = some (off, e)) : ∃ fs x, P.underlying t = some (.struct fs) ∧ fs[f]? = some x ∧ x.offset = off ∧ x.type = e := by
  unfold fo at h
  split at h
  · rename_i fs hu
    simp only [Option.map_eq_some_iff, Prod.mk.injEq] at h
    obtain ⟨x, hx, h1, h2⟩ := h
    exact ⟨fs, x, hu, hx, h1, h2⟩
  · cases h

/-! #### the value of an operation that leaves memory alone -/
/-- A part of a struct or an array. -/
def prt (i : TI) (xs : List AV) (off : Nat) : Option AV := if i.agg then some (.ag ((xs.drop off).take i.sz)) else match xs[off]? with | some x => if flat x then some x else none | none => none

def wr64 (n : Int) : Int := IntKind.i64.wrap n
def bin (o : BinOp) (x y : Int) : Option Value :=
  match o with
  | .add => some (.int .i64 (wr64 (x + y)))
  | .sub => some (.int .i64 (wr64 (x - y)))
  | .mul => some (.int .i64 (wr64 (x * y)))
  | .eql => some (.bool (x == y))
  | .neq => some (.bool (x != y))
  | .lss => some (.bool (x < y))
  | .leq => some (.bool (x ≤ y))
  | .gtr => some (.bool (x > y))
  | .geq => some (.bool (x ≥ y))
  | .quo => if y = 0 then none else some (.int .i64 (wr64 (x.tdiv y)))
  | .rem => if y = 0 then none else some (.int .i64 (x.tmod y))
  | _ => none
def binB (o : BinOp) (x y : Bool) : Option Value :=
  match o with
  | .eql => some (.bool (x == y))
  | .neq => some (.bool (x != y))
  | _ => none
def isBoolT (P : Program) (t : TypeId) : Bool := match P.underlying t with | some .bool => true | _ => false

def aval (P : Program) (s : AS) : Op → Option AV
  | .move x | .assign x => ev s x
  | .pick c x y => match ev s c with
    | some (.v (.bool true)) => ev s x
    | some (.v (.bool false)) => ev s y
    | _ => none
  | .extract x i => match ev s x with
    | some (.tu xs) => xs[i]?
    | _ => none
  | .nilCheck x => match ev s x with
    | some (.pb n sz j i) => (lb s.bl n).map fun _ => .pb n sz j i
    | some (.pi xs) => some (.pi xs)
    | some (.fn g cap) => some (.fn g cap)
    | _ => none
  | .makeFunc (.func g) first captured => if first.size = 0 then ((captured.toList.mapM fun x => ev s x).map fun xs => .fn g xs) else none
  | .field t x f => match ev s x, fo P t f with
    | some (.ag xs), some (off, e) => match ti P e with
      | some i => prt i xs off
      | none => none
    | _, _ => none
  | .fieldAddr t x f => match ev s x, fo P t f with
    | some (.pb n sz j i), some (off, e) => match ti P e, lb s.bl n with
      | some k, some _ => if k.sz = 0 then none else some (.pb n sz j (i + off))
      | _, _ => none
    | some (.pi xs), some (off, e) => match ti P e with
      | some k => if k.sz = 0 then none else some (.pi (xs.drop off))
      | _ => none
    | _, _ => none
  | .indexAddr t x k => match ev s k, ev s x with
    | some (.v (.int .i64 z)), some (.im sz xs) => match elT P t with
      | some e => match ti P e with
        | some i => if i.sz = sz ∧ 0 ≤ z then (xs[z.toNat]?).map .pi else none
        | none => none
      | none => none
    | some (.v (.int .i64 z)), some (.own n sz off len) => match elT P t, lb s.bl n with
      | some e, some b => match ti P e with
        | some i => if i.sz = sz ∧ 0 ≤ z ∧ z.toNat < len then some (.pb n sz (off + z.toNat) 0) else none
        | none => none
      | _, _ => none
    | some (.v (.int .i64 z)), some (.pb n sz j o) => match arT P t, lb s.bl n with
      | some (len, e), some b => match ti P e with
        | some i => if 0 ≤ z ∧ z.toNat < len then some (.pb n sz j (o + z.toNat * i.sz)) else none
        | none => none
      | _, _ => none
    | some (.v (.int .i64 z)), some (.pi xs) => match arT P t with
      | some (len, e) => match ti P e with
        | some i => if 0 ≤ z ∧ z.toNat < len then some (.pi (xs.drop (z.toNat * i.sz))) else none
        | none => none
      | none => none
    | _, _ => none
  | .index t x k => match ev s k, ev s x with
    | some (.v (.int .i64 z)), some (.ag xs) => match arT P t with
      | some (len, e) => match ti P e with
        | some i => if 0 ≤ z ∧ z.toNat < len then prt i xs (z.toNat * i.sz) else none
        | none => none
      | none => none
    | _, _ => none
  | .binOp o t x y _ => match ev s x, ev s y with
    | some (.v (.int .i64 p)), some (.v (.int .i64 q)) => (bin o p q).map .v
    | some (.v (.bool p)), some (.v (.bool q)) => if isBoolT P t then (binB o p q).map .v else none
    | _, _ => none
  | .unOp o _ x => match o, ev s x with
    | .not, some (.v (.bool b)) => some (.v (.bool (!b)))
    | .neg, some (.v (.int .i64 n)) => some (.v (.int .i64 (wr64 (0 - n))))
    | _, _ => none
  | .call c => match c.callee, c.args.toList, c.argTypes.toList with
    | .builtin .len, [x], [t] => match ev s x, elT P t with
      | some (.im _ xs), some _ => some (.v (.int .i64 xs.length))
      | some (.own n sz off len), some _ => (lb s.bl n).map fun _ => .v (.int .i64 len)
      | some (.v (.slice none 0 0)), some _ => some (.v (.int .i64 0))
      | some (.v (.string b)), none => if isStrT P t then some (.v (.int .i64 b.size)) else none
      | _, _ => none
    | _, _, _ => none
  | _ => none

theorem own_known (h : RelX C s a w S Ow L) {n sz off len : Nat} {k : Blk} {p : Path} {u : Value} (hk : lb s.bl n = some k) (hr : Rep w S Ow L p (.own n sz off len) u) : ∃ A c, u = .slice A len c ∧ len ≤ c := by
  obtain ⟨loc, hl, hB⟩ := h.blk n k hk
  cases hr with
  | own _ _ _ _ b o cap h hl => exact ⟨_, _, rfl, by omega⟩
  | own_end => exact ⟨_, _, rfl, Nat.le_refl _⟩
  | own_nil => exact ⟨_, _, rfl, Nat.le_refl _⟩
  | own_gone _ _ _ _ _ h _ => rw [hl] at h; cases h
theorem pb_known (h : RelX C s a w S Ow L) {n sz j i : Nat} {k : Blk} {p : Path} {u : Value} (hk : lb s.bl n = some k) (hr : Rep w S Ow L p (.pb n sz j i) u) : ∃ b o cap, L n = .at (some (b, o, cap)) ∧ u = .pointer (some ⟨b, (o + j) * sz + i, none⟩) := by
  obtain ⟨loc, hl, hB⟩ := h.blk n k hk
  cases hr with
  | pb _ _ _ _ b o cap h => exact ⟨b, o, cap, h, rfl⟩
  | pb_gone _ _ _ _ _ h _ => rw [hl] at h; cases h

theorem prt_run {i : TI} {e : TypeId} {xs : List AV} {us : List Value} {off : Nat} {x : AV} (he : ti P e = some i) (hl : us.length = xs.length) (hr : ∀ (j : Nat) (x : AV) (u : Value), xs[j]? = some x → us[j]? = some u → Rep w S Ow L ([0] ++ [0, j]) x u) (hO : ∀ k q, Ow k ≠ some (0 :: q)) (hx : prt i xs off = some x) :
    ∃ u, (∀ w', (part e us.toArray off).run P w' = .ok u w') ∧ Rep w S Ow L [0] x u := by
  unfold prt at hx
  unfold part
  simp only [Sem.run_bind, ti_agg he, Result.andThen_ok]
  cases hi : i.agg with
  | true =>
    rw [hi] at hx
    simp only [if_true, Option.some.injEq] at hx ⊢
    subst hx
    refine ⟨.agg (us.toArray.extract off (off + i.sz)), fun w' => by simp [ti_size he], ?_⟩
    have e2 : us.toArray.extract off (off + i.sz) = ((us.drop off).take i.sz).toArray := by simp [List.extract_eq_take_drop]
    rw [e2]
    refine .ag _ _ (by simp [hl]) (fun k y u hy hu => ?_)
    rw [List.getElem?_take] at hy hu
    split at hy
    · rename_i hk
      rw [if_pos hk] at hu
      rw [List.getElem?_drop] at hy hu
      refine (hr (off + k) y u hy hu).names (fun _ => .inr (.inl rfl)) (fun b q hq => absurd hq (hO b _))
    · cases hy
  | false =>
    rw [hi] at hx
    simp only [Bool.false_eq_true, if_false] at hx ⊢
    split at hx
    · rename_i y hy
      split at hx
      · rename_i hf
        cases hx
        have hlt : off < us.length := by have := (List.getElem?_eq_some_iff.1 hy).1; omega
        have hu : us[off]? = some us[off] := List.getElem?_eq_getElem hlt
        refine ⟨us[off], fun w' => by simp [hlt], ((hr off x us[off] hy hu)).flat hf⟩
      · cases hx
    · cases hx

theorem aval_sound (h : RelX C s a w S Ow L) {o : Oper} {x : AV} (hx : aval P s o.op = some x) : ∃ u, (∀ w', (execOp a.eval o).run P w' = .ok (.value u) w') ∧ Rep w S Ow L [0] x u := by
  unfold execOp
  cases hop : o.op with
  | move y => rw [hop] at hx; exact ⟨_, fun _ => rfl, ev_rep h hx⟩
  | assign y => rw [hop] at hx; exact ⟨_, fun _ => rfl, ev_rep h hx⟩
  | pick c y z =>
    rw [hop] at hx
    simp only [aval] at hx
    split at hx
    · rename_i hc
      obtain ⟨e, _⟩ := (ev_rep h hc).v_inv
      exact ⟨a.eval y, fun w2 => by simp [e, asBool], ev_rep h hx⟩
    · rename_i hc
      obtain ⟨e, _⟩ := (ev_rep h hc).v_inv
      exact ⟨a.eval z, fun w2 => by simp [e, asBool], ev_rep h hx⟩
    · cases hx
  | extract y i =>
    rw [hop] at hx
    simp only [aval] at hx
    split at hx
    · rename_i xs hc
      obtain ⟨us, e, hl, hr⟩ := (ev_rep h hc).tu_inv
      have hlt : i < us.length := by have := (List.getElem?_eq_some_iff.1 hx).1; omega
      have hu : us[i]? = some us[i] := List.getElem?_eq_getElem hlt
      refine ⟨us[i], fun w2 => by simp [e, Instr.extract, hlt], (hr i x _ hx hu).names (fun _ => .inr (.inl rfl)) (fun b q hq => absurd hq (h.ow0 b _))⟩
    · cases hx
  | nilCheck y =>
    rw [hop] at hx
    simp only [aval] at hx
    split at hx
    · rename_i n sz j i hc
      simp only [Option.map_eq_some_iff] at hx
      obtain ⟨k, hk, rfl⟩ := hx
      have hr := ev_rep h hc
      obtain ⟨b, o, cap, hl, e⟩ := pb_known h hk hr
      exact ⟨_, fun w2 => by simp [e], e ▸ hr⟩
    · rename_i xs hc
      cases hx
      have hr := ev_rep h hc
      obtain ⟨ad, e, _⟩ := hr.pi_inv
      exact ⟨_, fun w2 => by simp [e], e ▸ hr⟩
    · rename_i g cap hc
      cases hx
      have hr := ev_rep h hc
      obtain ⟨us, e, _⟩ := hr.fn_inv
      exact ⟨_, fun w2 => by simp [e], e ▸ hr⟩
    · cases hx
  | makeFunc f first captured =>
    rw [hop] at hx
    cases f with
    | func g =>
      simp only [aval] at hx
      split at hx
      · rename_i hf
        simp only [Option.map_eq_some_iff] at hx
        obtain ⟨xs, hm, rfl⟩ := hx
        have hf' : first = #[] := by simpa using hf
        subst hf'
        have hlen : xs.length = captured.toList.length := mapM_some_length hm
        refine ⟨.func (.func g) #[] (captured.map a.eval), fun w2 => by simp [Instr.makeFunc], ?_⟩
        have e : captured.map a.eval = (captured.toList.map a.eval).toArray := by rw [← Array.toList_map, Array.toArray_toList]
        rw [e]
        refine .fn g xs _ (by simp [hlen]) (fun i x u hx hu => ?_)
        simp only [List.getElem?_map, Option.map_eq_some_iff] at hu
        obtain ⟨c, hc, rfl⟩ := hu
        have := mapM_some_get hm i c hc
        rw [hx] at this
        exact (ev_rep h this).names (fun _ => .inr (.inl rfl)) (fun b q hq => absurd hq (h.ow0 b q))
      · cases hx
    | _ => simp [aval] at hx
  | field t y f =>
    rw [hop] at hx
    simp only [aval] at hx
    split at hx
    · rename_i xs off e hc hfo
      split at hx
      · rename_i i hi
        obtain ⟨us, eu, hl, hr⟩ := (ev_rep h hc).ag_inv
        obtain ⟨fs, fd, hu, hfd, rfl, rfl⟩ := fo_run hfo
        obtain ⟨u, hrun, hR⟩ := prt_run (P := P) hi hl hr h.ow0 hx
        exact ⟨u, fun w2 => by simp [Instr.field, run_underlying hu, hfd, eu, asAgg, hrun], hR⟩
      · cases hx
    · cases hx
  | fieldAddr t y f =>
    rw [hop] at hx
    simp only [aval] at hx
    split at hx
    · rename_i n sz j i off e hc hfo
      split at hx
      · rename_i k b hi hk
        split at hx
        · cases hx
        · rename_i hz
          cases hx
          obtain ⟨b, o, cap, hl, eu⟩ := pb_known h hk (ev_rep h hc)
          obtain ⟨fs, fd, hu, hfd, rfl, rfl⟩ := fo_run hfo
          refine ⟨_, fun w2 => ?_, .pb n sz j (i + fd.offset) b o cap hl⟩
          simp [Instr.fieldAt, run_underlying hu, hfd, eu, Instr.sureAddr, fieldPlace, ti_size hi, hz, Addr.add_lit, Nat.add_assoc]
      · cases hx
    · rename_i xs off e hc hfo
      split at hx
      · rename_i k hi
        split at hx
        · cases hx
        · rename_i hz
          cases hx
          obtain ⟨ad, eu, hI⟩ := (ev_rep h hc).pi_inv
          obtain ⟨fs, fd, hu, hfd, rfl, rfl⟩ := fo_run hfo
          exact ⟨_, fun w2 => by simp [Instr.fieldAt, run_underlying hu, hfd, eu, Instr.sureAddr, fieldPlace, ti_size hi, hz], (hI.drop fd.offset).rep⟩
      · cases hx
    · cases hx
  | indexAddr t y k =>
    rw [hop] at hx
    simp only [aval] at hx
    split at hx
    · rename_i z sz xs hk hc
      obtain ⟨ek, _⟩ := (ev_rep h hk).v_inv
      split at hx
      · rename_i e he
        split at hx
        · rename_i i hi
          split at hx
          · rename_i hcond
            simp only [Option.map_eq_some_iff] at hx
            obtain ⟨row, hrow, rfl⟩ := hx
            obtain ⟨A, c, eu, hlc, hz, hrows⟩ := (ev_rep h hc).im_inv
            obtain ⟨ad, rfl, hI⟩ := hrows _ row hrow
            have hlt : z.toNat < xs.length := (List.getElem?_eq_some_iff.1 hrow).1
            refine ⟨.pointer (some (ad.add (z.toNat * i.sz))), fun w2 => ?_, by rw [hcond.1]; exact hI.rep⟩
            have hzz : 0 ≤ z ∧ z < (xs.length : Int) := ⟨hcond.2, by omega⟩
            simp [Instr.indexAt, asIntOf, ek, eu, run_underlying (elT_run he), ti_size hi, hzz]
          · cases hx
        · cases hx
      · cases hx
    · rename_i z n sz off len hk hc
      obtain ⟨ek, _⟩ := (ev_rep h hk).v_inv
      split at hx
      · rename_i e b he hb
        split at hx
        · rename_i i hi
          split at hx
          · rename_i hcond
            cases hx
            obtain ⟨hsz, h0, hlt⟩ := hcond
            obtain ⟨loc, hl, hB⟩ := h.blk n b hb
            have hr := ev_rep h hc
            have hzz : 0 ≤ z ∧ z < (len : Int) := ⟨h0, by omega⟩
            generalize hu : a.eval y = u at hr
            cases hr with
            | own _ _ _ _ b' o cap hL hle =>
              refine ⟨_, fun w2 => ?_, .pb n sz (off + z.toNat) 0 b' o cap hL⟩
              simp [Instr.indexAt, asIntOf, ek, hu, run_underlying (elT_run he), ti_size hi, hzz, Addr.add_lit, hsz, Nat.add_mul, Nat.add_assoc]
            | own_end => omega
            | own_nil => omega
            | own_gone _ _ _ _ _ hg _ => rw [hl] at hg; cases hg
          · cases hx
        · cases hx
      · cases hx
    · rename_i z n sz j o hk hc
      obtain ⟨ek, _⟩ := (ev_rep h hk).v_inv
      split at hx
      · rename_i len e b he hb
        split at hx
        · rename_i i hi
          split at hx
          · rename_i hcond
            cases hx
            obtain ⟨b', o', cap, hl, eu⟩ := pb_known h hb (ev_rep h hc)
            have hzz : 0 ≤ z ∧ z < (len : Int) := ⟨hcond.1, by omega⟩
            refine ⟨_, fun w2 => ?_, .pb n sz j (o + z.toNat * i.sz) b' o' cap hl⟩
            simp [Instr.indexAt, asIntOf, ek, eu, run_underlying (arT_run he), Instr.sureAddr, ti_size hi, hzz, Addr.add_lit, Nat.add_assoc]
          · cases hx
        · cases hx
      · cases hx
    · rename_i z xs hk hc
      obtain ⟨ek, _⟩ := (ev_rep h hk).v_inv
      split at hx
      · rename_i len e he
        split at hx
        · rename_i i hi
          split at hx
          · rename_i hcond
            cases hx
            obtain ⟨ad, eu, hI⟩ := (ev_rep h hc).pi_inv
            have hzz : 0 ≤ z ∧ z < (len : Int) := ⟨hcond.1, by omega⟩
            refine ⟨_, fun w2 => ?_, (hI.drop (z.toNat * i.sz)).rep⟩
            simp [Instr.indexAt, asIntOf, ek, eu, run_underlying (arT_run he), Instr.sureAddr, ti_size hi, hzz]
          · cases hx
        · cases hx
      · cases hx
    · cases hx
  | index t y k =>
    rw [hop] at hx
    simp only [aval] at hx
    split at hx
    · rename_i z xs hk hc
      obtain ⟨ek, _⟩ := (ev_rep h hk).v_inv
      split at hx
      · rename_i len e he
        split at hx
        · rename_i i hi
          split at hx
          · rename_i hcond
            obtain ⟨us, eu, hl, hr⟩ := (ev_rep h hc).ag_inv
            obtain ⟨u, hrun, hR⟩ := prt_run (P := P) hi hl hr h.ow0 hx
            have hzz : 0 ≤ z ∧ z < (len : Int) := ⟨hcond.1, by omega⟩
            exact ⟨u, fun w2 => by simp [Instr.index, asIntOf, ek, eu, run_underlying (arT_run he), ti_size hi, hzz, hrun], hR⟩
          · cases hx
        · cases hx
      · cases hx
    · cases hx
  | binOp b t y z t' =>
    rw [hop] at hx
    simp only [aval] at hx
    split at hx
    · rename_i p q hy hz
      obtain ⟨ey, _⟩ := (ev_rep h hy).v_inv
      obtain ⟨ez, _⟩ := (ev_rep h hz).v_inv
      simp only [Option.map_eq_some_iff] at hx
      obtain ⟨r, hr, rfl⟩ := hx
      refine ⟨r, fun w2 => ?_, ?_⟩
      · cases b
        case quo => simp only [bin] at hr; split at hr; · cases hr
                    · rename_i h0; cases hr; simp [ey, ez, eqGuard, binOp, Op.intDiv, h0, wr64]
        case rem => simp only [bin] at hr; split at hr; · cases hr
                    · rename_i h0; cases hr; simp [ey, ez, eqGuard, binOp, Op.intDiv, h0, wr64]
        all_goals simp only [bin, Option.some.injEq] at hr
        all_goals first | (subst hr; simp [ey, ez, eqGuard, binOp, Op.intArith, Op.intCmp, wr64]; done) | (cases hr; done)
      · cases b
        case quo => simp only [bin] at hr; split at hr; · cases hr
                    · cases hr; exact .v _ rfl
        case rem => simp only [bin] at hr; split at hr; · cases hr
                    · cases hr; exact .v _ rfl
        all_goals simp only [bin, Option.some.injEq] at hr
        all_goals first | (subst hr; exact .v _ rfl) | (cases hr; done)
    · rename_i p q hy hz
      obtain ⟨ey, _⟩ := (ev_rep h hy).v_inv
      obtain ⟨ez, _⟩ := (ev_rep h hz).v_inv
      split at hx
      · rename_i hb
        have hu : P.underlying t = some .bool := by unfold isBoolT at hb; split at hb <;> simp_all
        simp only [Option.map_eq_some_iff] at hx
        obtain ⟨r, hr, rfl⟩ := hx
        cases b <;> simp only [binB, Option.some.injEq] at hr
        case eql => subst hr; exact ⟨_, fun w2 => by simp [ey, ez, eqGuard, binOp, Op.equal, Op.maxDepth, run_equalIn_bool' w2 9999 t p q hu], .v _ rfl⟩
        case neq => subst hr; exact ⟨_, fun w2 => by simp [ey, ez, eqGuard, binOp, Op.equal, Op.maxDepth, run_equalIn_bool' w2 9999 t p q hu]; cases p <;> cases q <;> rfl, .v _ rfl⟩
        all_goals cases hr
      · cases hx
    · cases hx
  | unOp b t y =>
    rw [hop] at hx
    simp only [aval] at hx
    split at hx
    · rename_i b' hy
      cases hx
      obtain ⟨ey, _⟩ := (ev_rep h hy).v_inv
      exact ⟨_, fun w2 => by simp [ey, Op.unary], .v _ rfl⟩
    · rename_i n hy
      cases hx
      obtain ⟨ey, _⟩ := (ev_rep h hy).v_inv
      exact ⟨_, fun w2 => by simp [ey, Op.unary, Op.intArith, wr64], .v _ rfl⟩
    · cases hx
  | call c =>
    rw [hop] at hx
    simp only [aval] at hx
    obtain ⟨callee, args, argTypes⟩ := c
    split at hx
    · rename_i y t hcal hargs hts
      simp only at hcal hargs hts
      subst hcal
      have ea : args = #[y] := by rw [← Array.toArray_toList (xs := args), hargs]
      have et : argTypes = #[t] := by rw [← Array.toArray_toList (xs := argTypes), hts]
      subst ea et
      split at hx
      · rename_i sz xs e hy he
        cases hx
        obtain ⟨A, cc, eu, _⟩ := (ev_rep h hy).im_inv
        exact ⟨_, fun w2 => by simp [resolve, invoke, builtin, Builtin.len_, eu, run_underlying (elT_run he)]; rfl, .v _ rfl⟩
      · rename_i n sz off len e hy he
        simp only [Option.map_eq_some_iff] at hx
        obtain ⟨k, hk, rfl⟩ := hx
        obtain ⟨A, cc, eu, _⟩ := own_known h hk (ev_rep h hy)
        exact ⟨_, fun w2 => by simp [resolve, invoke, builtin, Builtin.len_, eu, run_underlying (elT_run he)]; rfl, .v _ rfl⟩
      · rename_i e hy he
        cases hx
        obtain ⟨ey, _⟩ := (ev_rep h hy).v_inv
        exact ⟨_, fun w2 => by simp [resolve, invoke, builtin, Builtin.len_, ey, run_underlying (elT_run he)]; rfl, .v _ rfl⟩
      · rename_i b hy he
        split at hx
        · rename_i hstr
          cases hx
          obtain ⟨ey, _⟩ := (ev_rep h hy).v_inv
          have hu : P.underlying t = some .string := by unfold isStrT at hstr; split at hstr <;> simp_all
          exact ⟨_, fun w2 => by simp [resolve, invoke, builtin, Builtin.len_, ey, run_underlying hu]; rfl, .v _ rfl⟩
        · cases hx
      · cases hx
    · cases hx
  | _ => rw [hop] at hx; simp [aval] at hx
end
end Go.Proofs.Ytaiefncpgkoniaa.En
