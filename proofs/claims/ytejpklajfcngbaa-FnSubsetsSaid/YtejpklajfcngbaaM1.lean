/- Own words and walks of this claim, part 1: what the program's functions compute, for all the arguments that are named; no further conditions. -/
import Derived.RowKit
import Derived.Below
import Derived.Calls
import Derived.Laws.Rows
import Derived.DataElems
import Derived.Laws.StructEq
import GoSem.Dispatch
import Derived.Laws.CopyRow
import Derived.Laws.Cells
import Derived.Laws.Tables
import Derived.Laws.IdiomCopy
import Derived.Deep.AppendSrc
import Derived.Deep.Quiet
import Derived.Tactics
import Derived.KernelRfl
section
namespace Go.Proofs.Ytejpklajfcngbaa.En
open Go.RowKit

inductive AV where
  | v (x : Value)
  | ag (xs : List AV)
  | tu (xs : List AV)
  | im (sz : Nat) (xs : List (List AV))
  | ow (e : TypeId) (sz : Nat) (xs : List (List AV))
  | own (n sz off len : Nat)
  | pb (n sz j i : Nat)
  | pi (xs : List AV)
  | fn (g : FuncId) (cap : List AV)
  | mp (n : Nat)

structure Blk where
  e : TypeId
  sz : Nat
  xs : List (List AV)

structure AS where
  tm : List (Nat × AV)
  bl : List (Nat × Blk)
  nx : Nat

abbrev Loc := Option (Nat × Nat × Nat × Bool)
def mpCap : Nat := 1000000000000
inductive NL where
  | free
  | gone
  | at (l : Loc)

def lk : List (Nat × AV) → Nat → Option AV
  | [], _ => none
  | (k, x) :: r, t => if k = t then some x else lk r t
def lb : List (Nat × Blk) → Nat → Option Blk
  | [], _ => none
  | (k, x) :: r, t => if k = t then some x else lb r t
def rm : List (Nat × Blk) → Nat → List (Nat × Blk)
  | [], _ => []
  | (k, x) :: r, t => if k = t then rm r t else (k, x) :: rm r t
def st : List (Nat × Blk) → Nat → Blk → List (Nat × Blk)
  | [], _, _ => []
  | (k, x) :: r, t, y => if k = t then (k, y) :: r else (k, x) :: st r t y

theorem lb_rm (l : List (Nat × Blk)) (n m : Nat) : lb (rm l n) m = if n = m then none else lb l m := by
  induction l with
  | nil => simp [rm, lb]
  | cons h r ih =>
    obtain ⟨k, x⟩ := h
    unfold rm
    split
    · rename_i hk; subst hk; rw [ih]
      by_cases hm : k = m
      · simp [hm]
      · simp [hm, lb]
    · rename_i hk
      by_cases hm : k = m
      · subst hm; rw [if_neg (fun h => hk h.symm)]; simp [lb]
      · simp [lb, hm, ih]
theorem lb_st (l : List (Nat × Blk)) (n m : Nat) (y : Blk) : lb (st l n y) m = if n = m then (lb l n).map (fun _ => y) else lb l m := by
  induction l with
  | nil => simp [st, lb]
  | cons h r ih =>
    obtain ⟨k, x⟩ := h
    unfold st
    by_cases hk : k = n
    · subst hk
      rw [if_pos rfl]
      by_cases hm : k = m
      · subst hm; simp [lb]
      · simp [lb, hm]
    · rw [if_neg hk]
      by_cases hm : k = m
      · subst hm; rw [if_neg (fun h => hk h.symm)]; simp [lb]
      · by_cases hn : n = m
        · subst hn; simp [lb, hk, ih]
        · simp [lb, hm, hn, ih]

abbrev Path := List Nat
abbrev Owners := Nat → Option Path
abbrev Names := Nat → NL
def noOwner : Owners := fun _ => none
def noName : Names := fun _ => .free

inductive Rep (w : World) (S : Nat → Prop) : Owners → Names → Path → AV → Value → Prop
  | v {Ow L p} (x : Value) (h : x.oneCell' = true) : Rep w S Ow L p (.v x) x
  | ag {Ow L p} (xs : List AV) (us : List Value) (h : us.length = xs.length) (hr : ∀ (i : Nat) (x : AV) (u : Value), xs[i]? = some x → us[i]? = some u → Rep w S Ow L (p ++ [0, i]) x u) : Rep w S Ow L p (.ag xs) (.agg us.toArray)
  | tu {Ow L p} (xs : List AV) (us : List Value) (h : us.length = xs.length) (hr : ∀ (i : Nat) (x : AV) (u : Value), xs[i]? = some x → us[i]? = some u → Rep w S Ow L (p ++ [1, i]) x u) : Rep w S Ow L p (.tu xs) (.tuple us.toArray)
  | im {Ow L p} (sz : Nat) (xs : List (List AV)) (A : Option Addr) (c : Nat) (ad : Addr) (us : Nat → Nat → Value) (hc : xs.length ≤ c)
      (ha : xs ≠ [] → A = some ad) (hS : xs ≠ [] → S ad.block ∧ ad.block < w.heap.size ∧ ad.spot = none) (hz : ∀ (j : Nat) (row : List AV), xs[j]? = some row → row.length = sz)
      (hcell : ∀ (j : Nat) (row : List AV) (i : Nat) (x : AV), xs[j]? = some row → row[i]? = some x → w.cell? ⟨ad.block, ad.off + (j * sz + i), none⟩ = some (us j i))
      (hr : ∀ (j : Nat) (row : List AV) (i : Nat) (x : AV), xs[j]? = some row → row[i]? = some x → Rep w S noOwner noName [] x (us j i)) : Rep w S Ow L p (.im sz xs) (.slice A xs.length c)
  | ow {Ow L p} (e : TypeId) (sz : Nat) (xs : List (List AV)) (b o cap : Nat) (cs : Array Value) (us : Nat → Nat → Value) (ho : Ow b = some p) (hh : w.heap[b]? = some (.cells cs e (0, 0))) (hs : cs.size = (o + cap) * sz) (hc : xs.length ≤ cap)
      (hz : ∀ (j : Nat) (row : List AV), xs[j]? = some row → row.length = sz) (hcell : ∀ (j : Nat) (row : List AV) (i : Nat) (x : AV), xs[j]? = some row → row[i]? = some x → cs[(o + j) * sz + i]? = some (us j i))
      (hr : ∀ (j : Nat) (row : List AV) (i : Nat) (x : AV), xs[j]? = some row → row[i]? = some x → Rep w S Ow noName (p ++ [j, i]) x (us j i)) : Rep w S Ow L p (.ow e sz xs) (.slice (some ⟨b, o * sz, none⟩) xs.length cap)
  | ow_nil {Ow L p} (e : TypeId) (sz : Nat) (A : Option Addr) : Rep w S Ow L p (.ow e sz []) (.slice A 0 0)
  | own {Ow L p} (n sz off len b o cap : Nat) (h : L n = .at (some (b, o, cap, false))) (hl : off + len ≤ cap) : Rep w S Ow L p (.own n sz off len) (.slice (some ⟨b, (o + off) * sz, none⟩) len (cap - off))
  | own_end {Ow L p} (n sz off b o cap : Nat) (a : Addr) (h : L n = .at (some (b, o, cap, false))) (hl : off = cap) : Rep w S Ow L p (.own n sz off 0) (.slice (some a) 0 0)
  | own_nil {Ow L p} (n sz : Nat) (A : Option Addr) (h : L n = .at none) : Rep w S Ow L p (.own n sz 0 0) (.slice A 0 0)
  | own_gone {Ow L p} (n sz off len : Nat) (u : Value) (h : L n = .gone) (h1 : u.oneCell' = true) : Rep w S Ow L p (.own n sz off len) u
  | pb {Ow L p} (n sz j i b o cap : Nat) (h : L n = .at (some (b, o, cap, false))) : Rep w S Ow L p (.pb n sz j i) (.pointer (some ⟨b, (o + j) * sz + i, none⟩))
  | pb_gone {Ow L p} (n sz j i : Nat) (u : Value) (h : L n = .gone) (h1 : u.oneCell' = true) : Rep w S Ow L p (.pb n sz j i) u
  | pi {Ow L p} (xs : List AV) (ad : Addr) (us : Nat → Value) (hS : S ad.block ∧ ad.block < w.heap.size ∧ ad.spot = none)
      (hcell : ∀ (i : Nat) (x : AV), xs[i]? = some x → w.cell? ⟨ad.block, ad.off + i, none⟩ = some (us i)) (hr : ∀ (i : Nat) (x : AV), xs[i]? = some x → Rep w S noOwner noName [] x (us i)) : Rep w S Ow L p (.pi xs) (.pointer (some ad))
  | mp {Ow L p} (n b : Nat) (h : L n = .at (some (b, 0, mpCap, true))) : Rep w S Ow L p (.mp n) (.map (some b))
  | mp_gone {Ow L p} (n : Nat) (u : Value) (h : L n = .gone) (h1 : u.oneCell' = true) : Rep w S Ow L p (.mp n) u
  | fn {Ow L p} (g : FuncId) (cap : List AV) (us : List Value) (h : us.length = cap.length) (hr : ∀ (i : Nat) (x : AV) (u : Value), cap[i]? = some x → us[i]? = some u → Rep w S Ow L (p ++ [2, i]) x u) : Rep w S Ow L p (.fn g cap) (.func (.func g) #[] us.toArray)

theorem cell_of {w w' : World} {p : Addr} (h : w'.heap[p.block]? = w.heap[p.block]?) : w'.cell? p = w.cell? p := by unfold World.cell?; rw [h]

theorem Rep.world {w w' : World} {S S' : Nat → Prop} {Ow : Owners} {L : Names} {p : Path} {x : AV} {u : Value} (h : Rep w S Ow L p x u)
    (hs : w.heap.size ≤ w'.heap.size) (hS : ∀ k, S k → S' k) (h1 : ∀ k, S k → w'.heap[k]? = w.heap[k]?) (h2 : ∀ k q, Ow k = some (p ++ q) → w'.heap[k]? = w.heap[k]?) : Rep w' S' Ow L p x u := by
  induction h with
  | v x h => exact .v x h
  | ag xs us h _ ih => exact .ag xs us h fun i x u hx hu => ih i x u hx hu fun k q hk => h2 k ([0, i] ++ q) (by rw [← List.append_assoc]; exact hk)
  | tu xs us h _ ih => exact .tu xs us h fun i x u hx hu => ih i x u hx hu fun k q hk => h2 k ([1, i] ++ q) (by rw [← List.append_assoc]; exact hk)
  | im sz xs A c ad us hc ha hS' hz hcell _ ih =>
    refine .im sz xs A c ad us hc ha (fun hx => ⟨hS _ (hS' hx).1, Nat.lt_of_lt_of_le (hS' hx).2.1 hs, (hS' hx).2.2⟩) hz (fun j row i x hj hi => ?_) (fun j row i x hj hi => ih j row i x hj hi fun k q hk => by cases hk)
    exact (cell_of (p := ⟨ad.block, ad.off + (j * sz + i), none⟩) (h1 _ (hS' (by rintro rfl; simp at hj)).1)).trans (hcell j row i x hj hi)
  | ow e sz xs b o cap cs us ho hh hs' hc hz hcell _ ih =>
    refine .ow e sz xs b o cap cs us ho ?_ hs' hc hz hcell (fun j row i x hj hi => ih j row i x hj hi fun k q hk => h2 k ([j, i] ++ q) (by rw [← List.append_assoc]; exact hk))
    rw [h2 b [] (by simpa using ho)]; exact hh
  | ow_nil e sz A => exact .ow_nil e sz A
  | own n sz off len b o cap h hl => exact .own n sz off len b o cap h hl
  | own_end n sz off b o cap a h hl => exact .own_end n sz off b o cap a h hl
  | own_nil n sz A h => exact .own_nil n sz A h
  | own_gone n sz off len u h h1 => exact .own_gone n sz off len u h h1
  | pb n sz j i b o cap h => exact .pb n sz j i b o cap h
  | pb_gone n sz j i u h h1 => exact .pb_gone n sz j i u h h1
  | mp n b h => exact .mp n b h
  | mp_gone n u h h1 => exact .mp_gone n u h h1
  | pi xs ad us hS' hcell _ ih =>
    refine .pi xs ad us ⟨hS _ hS'.1, Nat.lt_of_lt_of_le hS'.2.1 hs, hS'.2.2⟩ (fun i x hi => ?_) (fun i x hi => ih i x hi fun k q hk => by cases hk)
    exact (cell_of (p := ⟨ad.block, ad.off + i, none⟩) (h1 _ hS'.1)).trans (hcell i x hi)
  | fn g cap us h _ ih => exact .fn g cap us h fun i x u hx hu => ih i x u hx hu fun k q hk => h2 k ([2, i] ++ q) (by rw [← List.append_assoc]; exact hk)

theorem Rep.names {w : World} {S : Nat → Prop} {Ow Ow' : Owners} {L L' : Names} {p p' : Path} {x : AV} {u : Value} (h : Rep w S Ow L p x u)
    (hL : ∀ n, L n = .free ∨ L' n = L n ∨ L' n = .gone) (hO : ∀ k q, Ow k = some (p ++ q) → Ow' k = some (p' ++ q)) : Rep w S Ow' L' p' x u := by
  induction h generalizing Ow' L' p' with
  | v x h => exact .v x h
  | ag xs us h _ ih =>
    refine .ag xs us h fun i x u hx hu => ih i x u hx hu hL fun k q hk => ?_
    have := hO k ([0, i] ++ q) (by rw [← List.append_assoc]; exact hk)
    rw [List.append_assoc]; exact this
  | tu xs us h _ ih =>
    refine .tu xs us h fun i x u hx hu => ih i x u hx hu hL fun k q hk => ?_
    have := hO k ([1, i] ++ q) (by rw [← List.append_assoc]; exact hk)
    rw [List.append_assoc]; exact this
  | im sz xs A c ad us hc ha hS' hz hcell hr _ => exact .im sz xs A c ad us hc ha hS' hz hcell hr
  | ow e sz xs b o cap cs us ho hh hs' hc hz hcell _ ih =>
    refine .ow e sz xs b o cap cs us (by have := hO b [] (by simpa using ho); simpa using this) hh hs' hc hz hcell (fun j row i x hj hi => ih j row i x hj hi (fun _ => .inr (.inl rfl)) fun k q hk => ?_)
    have := hO k ([j, i] ++ q) (by rw [← List.append_assoc]; exact hk)
    rw [List.append_assoc]; exact this
  | ow_nil e sz A => exact .ow_nil e sz A
  | own n sz off len b o cap h hl =>
    rcases hL n with e | e | e
    · rw [e] at h; cases h
    · exact .own n sz off len b o cap (e.trans h) hl
    · exact .own_gone n sz off len _ e rfl
  | own_end n sz off b o cap a h hl =>
    rcases hL n with e | e | e
    · rw [e] at h; cases h
    · exact .own_end n sz off b o cap a (e.trans h) hl
    · exact .own_gone n sz off 0 _ e rfl
  | own_nil n sz A h =>
    rcases hL n with e | e | e
    · rw [e] at h; cases h
    · exact .own_nil n sz A (e.trans h)
    · exact .own_gone n sz 0 0 _ e rfl
  | own_gone n sz off len u h h1 =>
    rcases hL n with e | e | e
    · rw [e] at h; cases h
    · exact .own_gone n sz off len _ (e.trans h) h1
    · exact .own_gone n sz off len _ e h1
  | pb n sz j i b o cap h =>
    rcases hL n with e | e | e
    · rw [e] at h; cases h
    · exact .pb n sz j i b o cap (e.trans h)
    · exact .pb_gone n sz j i _ e rfl
  | pb_gone n sz j i u h h1 =>
    rcases hL n with e | e | e
    · rw [e] at h; cases h
    · exact .pb_gone n sz j i _ (e.trans h) h1
    · exact .pb_gone n sz j i _ e h1
  | mp n b h =>
    rcases hL n with e | e | e
    · rw [e] at h; cases h
    · exact .mp n b (e.trans h)
    · exact .mp_gone n _ e rfl
  | mp_gone n u h h1 =>
    rcases hL n with e | e | e
    · rw [e] at h; cases h
    · exact .mp_gone n _ (e.trans h) h1
    · exact .mp_gone n _ e h1
  | pi xs ad us hS' hcell hr _ => exact .pi xs ad us hS' hcell hr
  | fn g cap us h _ ih =>
    refine .fn g cap us h fun i x u hx hu => ih i x u hx hu hL fun k q hk => ?_
    have := hO k ([2, i] ++ q) (by rw [← List.append_assoc]; exact hk)
    rw [List.append_assoc]; exact this

structure Keep (W : World) (X : Nat → Prop) (w : World) : Prop where
  os : w.os = W.os
  tape : w.tape = W.tape
  output : w.output = W.output
  size : W.heap.size ≤ w.heap.size
  block : ∀ k, k < W.heap.size → ¬ X k → w.heap[k]? = W.heap[k]?
  drawn : W.drawn ≤ w.drawn
theorem Keep.refl (W : World) (X : Nat → Prop) : Keep W X W := ⟨rfl, rfl, rfl, Nat.le_refl _, fun _ _ _ => rfl, Nat.le_refl _⟩
structure BelowD (B : Nat) (w w' : World) : Prop extends Below B w w' where
  drawn : w.drawn ≤ w'.drawn
theorem BelowD.refl (B : Nat) (w : World) : BelowD B w w := ⟨Below.refl B w, Nat.le_refl _⟩
theorem BelowD.drew {B : Nat} {w w' : World} (h : BelowD B w w') : BelowD B w w'.drew := ⟨Below.drew h.toBelow, Nat.le_succ_of_le h.drawn⟩
theorem Keep.below {W w : World} (h : Keep W (fun _ => False) w) : BelowD W.heap.size W w := ⟨⟨h.os, h.tape, h.output, h.size, fun k hk => h.block k hk (fun h => h)⟩, h.drawn⟩

def entAt (cs : Array Value) (j : Nat) : MapEntry := ⟨cs.getD (2 * j) undef, cs.getD (2 * j + 1) undef, j⟩
def objOf (mp : Bool) (len : Nat) (cs : Array Value) (e : TypeId) : Obj := match mp with
  | false => .cells cs e (0, 0)
  | true => .map ((List.range len).map (entAt cs)).toArray len
@[simp] theorem objOf_cells (len : Nat) (cs : Array Value) (e : TypeId) : objOf false len cs e = .cells cs e (0, 0) := rfl
def BlkRep (w : World) (S : Nat → Prop) (Ow : Owners) (L : Names) (n : Nat) (k : Blk) : Loc → Prop
  | none => k.xs = []
  | some (b, o, cap, mp) => Ow b = some [n + 1] ∧ ∃ (cs : Array Value) (us : Nat → Nat → Value), w.heap[b]? = some (objOf mp k.xs.length cs k.e) ∧ cs.size = (o + cap) * k.sz ∧ k.xs.length ≤ cap ∧ (∀ (j : Nat) (row : List AV), k.xs[j]? = some row → row.length = k.sz) ∧
      (∀ (j : Nat) (row : List AV) (i : Nat) (x : AV), k.xs[j]? = some row → row[i]? = some x → cs[(o + j) * k.sz + i]? = some (us j i)) ∧ ∀ (j : Nat) (row : List AV) (i : Nat) (x : AV), k.xs[j]? = some row → row[i]? = some x → Rep w S Ow L [n + 1, j, i] x (us j i)

structure NT where
  n : Nat
  k : Nat
structure Ctx where
  W : World
  X : Nat → Prop
  S : Nat → Prop
  nt : NT
  fix : Nat → Option Loc := fun _ => none

structure RelX (C : Ctx) (s : AS) (a : Act) (w : World) (S : Nat → Prop) (Ow : Owners) (L : Names) : Prop where
  keep : Keep C.W C.X w
  inS : ∀ k, C.S k → S k
  upS : ∀ k, S k → C.S k ∨ C.W.heap.size ≤ k ∨ C.X k
  ltS : ∀ k, S k → k < w.heap.size
  owS : ∀ k, S k → Ow k = none
  ow : ∀ k p, Ow k = some p → (C.W.heap.size ≤ k ∨ C.X k) ∧ k < w.heap.size
  ow0 : ∀ k q, Ow k ≠ some (0 :: q)
  blk : ∀ n k, lb s.bl n = some k → ∃ loc, L n = .at loc ∧ BlkRep w S Ow L n k loc
  fresh : ∀ n, s.nx ≤ n → L n = .free
  named : ∀ n, n < s.nx → L n ≠ .free
  freshO : ∀ k n q, Ow k = some (n :: q) → n ≤ s.nx
  slot : ∀ t x, lk s.tm t = some x → ∃ u, a.tmps[t]? = some u ∧ Rep w S Ow L [0] x u
  size : a.tmps.size = C.nt.n
  defers : a.defers = []
  fix : ∀ n loc, C.fix n = some loc → n < C.nt.k ∧ (L n = .at loc ∨ L n = .gone)
theorem fix_of {C : Ctx} {L L' : Names} (h : ∀ n loc, C.fix n = some loc → n < C.nt.k ∧ (L n = .at loc ∨ L n = .gone)) (hL : ∀ m, L m = .free ∨ L' m = L m ∨ L' m = .gone) : ∀ n loc, C.fix n = some loc → n < C.nt.k ∧ (L' n = .at loc ∨ L' n = .gone) := fun n loc hn => by
  refine ⟨(h n loc hn).1, ?_⟩
  rcases (h n loc hn).2 with e | e
  · rcases hL n with g | g | g
    · rw [e] at g; cases g
    · exact .inl (g.trans e)
    · exact .inr g
  · rcases hL n with g | g | g
    · rw [e] at g; cases g
    · exact .inr (g.trans e)
    · exact .inr g
end Go.Proofs.Ytejpklajfcngbaa.En
end
section
namespace Go.Proofs.Ytejpklajfcngbaa.En
open Go.RowKit
set_option linter.unusedSimpArgs false
set_option linter.unusedVariables false

def put (s : AS) (d : Option Nat) (x : AV) : AS := match d with | some t => { s with tm := (t, x) :: s.tm } | none => s
def okd (nt : Nat) : Option Nat → Bool | some t => decide (t < nt) | none => true

section
variable {C : Ctx} {s : AS} {a : Act} {w : World} {S : Nat → Prop} {Ow : Owners} {L : Names}

theorem RelX.put (h : RelX C s a w S Ow L) (d : Option Nat) {x : AV} {u : Value} (hd : okd C.nt.n d = true) (hr : Rep w S Ow L [0] x u) : RelX C (put s d x) (a.put d u) w S Ow L := by
  cases d with
  | none => exact h
  | some t =>
    have ht : t < a.tmps.size := by rw [h.size]; simpa [okd] using hd
    refine { fix := h.fix, keep := h.keep, inS := h.inS, upS := h.upS, ltS := h.ltS, owS := h.owS, ow := h.ow, ow0 := h.ow0, blk := h.blk, fresh := h.fresh, named := h.named, freshO := h.freshO, slot := ?_, size := ?_, defers := h.defers }
    · intro t' y hy
      by_cases e : t = t'
      · subst e
        simp [En.put, lk] at hy
        subst hy
        exact ⟨u, by simp [Act.put, Array.getElem?_setIfInBounds, ht], hr⟩
      · simp [En.put, lk, e] at hy
        obtain ⟨v, hv, hR⟩ := h.slot t' y hy
        exact ⟨v, by simp [Act.put, Array.getElem?_setIfInBounds, e, hv], hR⟩
    · simp [Act.put, h.size]

theorem RelX.drawn (h : RelX C s a w S Ow L) {w' : World} (ho : w'.os = w.os) (ht : w'.tape = w.tape) (hp : w'.output = w.output) (hh : w'.heap = w.heap) (hd : w.drawn ≤ w'.drawn := by first | exact Nat.le_refl _ | exact Nat.le_add_right _ _) : RelX C s a w' S Ow L := by
  have hb : ∀ k : Nat, w'.heap[k]? = w.heap[k]? := fun k => by rw [hh]
  refine { fix := h.fix, keep := ⟨ho.trans h.keep.os, ht.trans h.keep.tape, hp.trans h.keep.output, by rw [hh]; exact h.keep.size, fun k hk hx => (hb k).trans (h.keep.block k hk hx), Nat.le_trans h.keep.drawn hd⟩, inS := h.inS, upS := h.upS, ltS := by rw [hh]; exact h.ltS, owS := h.owS, ow := by rw [hh]; exact h.ow, ow0 := h.ow0, blk := ?_, fresh := h.fresh, named := h.named, freshO := h.freshO, slot := ?_, size := h.size, defers := h.defers }
  · intro n k hn
    obtain ⟨loc, hl, hB⟩ := h.blk n k hn
    refine ⟨loc, hl, ?_⟩
    cases loc with
    | none => exact hB
    | some p =>
      obtain ⟨h1, cs, us, h2, h3, h4, h5, h6, h7⟩ := hB
      exact ⟨h1, cs, us, (hb _).trans h2, h3, h4, h5, h6, fun j row i x hj hi => (h7 j row i x hj hi).world (by rw [hh]; exact Nat.le_refl _) (fun _ hk => hk) (fun k _ => hb k) (fun k _ _ => hb k)⟩
  · intro t x hx
    obtain ⟨v, hv, hR⟩ := h.slot t x hx
    exact ⟨v, hv, hR.world (by rw [hh]; exact Nat.le_refl _) (fun _ hk => hk) (fun k _ => hb k) (fun k _ _ => hb k)⟩

theorem BlkRep.names {Ow' : Owners} {L' : Names} {n : Nat} {k : Blk} {loc : Loc} (h : BlkRep w S Ow L n k loc) (hL : ∀ m, L m = .free ∨ L' m = L m ∨ L' m = .gone) (hO : ∀ b q, Ow b = some ((n + 1) :: q) → Ow' b = some ((n + 1) :: q)) : BlkRep w S Ow' L' n k loc := by
  cases loc with
  | none => exact h
  | some p =>
    obtain ⟨h1, cs, us, h2, h3, h4, h5, h6, h7⟩ := h
    exact ⟨hO _ _ h1, cs, us, h2, h3, h4, h5, h6, fun j row i x hj hi => (h7 j row i x hj hi).names hL (fun b q hb => hO b _ hb)⟩
theorem BlkRep.world {w' : World} {n : Nat} {k : Blk} {loc : Loc} (h : BlkRep w S Ow L n k loc) (hs : w.heap.size ≤ w'.heap.size) (h1 : ∀ b, S b → w'.heap[b]? = w.heap[b]?) (h2 : ∀ b q, Ow b = some ((n + 1) :: q) → w'.heap[b]? = w.heap[b]?) : BlkRep w' S Ow L n k loc := by
  cases loc with
  | none => exact h
  | some p =>
    obtain ⟨g1, cs, us, g2, g3, g4, g5, g6, g7⟩ := h
    exact ⟨g1, cs, us, (h2 _ _ g1).trans g2, g3, g4, g5, g6, fun j row i x hj hi => (g7 j row i x hj hi).world hs (fun _ hk => hk) h1 (fun b q hb => h2 b _ hb)⟩

theorem RelX.alloc (h : RelX C s a w S Ow L) (k : Blk) (cs : Array Value) (cap : Nat) (us : Nat → Nat → Value) (hs : cs.size = cap * k.sz) (hc : k.xs.length ≤ cap) (hz : ∀ (j : Nat) (row : List AV), k.xs[j]? = some row → row.length = k.sz)
    (hcell : ∀ (j : Nat) (row : List AV) (i : Nat) (x : AV), k.xs[j]? = some row → row[i]? = some x → cs[j * k.sz + i]? = some (us j i)) (hr : ∀ (j : Nat) (row : List AV) (i : Nat) (x : AV), k.xs[j]? = some row → row[i]? = some x → Rep w S Ow L [0] x (us j i)) :
    ∃ Ow' L', RelX C { s with bl := (s.nx, k) :: s.bl, nx := s.nx + 1 } a (w.alloc (.cells cs k.e)) S Ow' L' ∧ L' s.nx = .at (some (w.heap.size, 0, cap, false)) ∧ ∀ x u, Rep w S Ow L [0] x u → Rep (w.alloc (.cells cs k.e)) S Ow' L' [0] x u := by
  have hb : ∀ b : Nat, b < w.heap.size → (w.alloc (.cells cs k.e)).heap[b]? = w.heap[b]? := fun b hb => heap_alloc_old w _ b hb
  have hsz : (w.alloc (.cells cs k.e)).heap.size = w.heap.size + 1 := by simp
  have hS : ∀ b : Nat, S b → (w.alloc (.cells cs k.e)).heap[b]? = w.heap[b]? := fun b hb' => hb b (h.ltS b hb')
  have hO : ∀ (b : Nat) (p : Path), Ow b = some p → (w.alloc (.cells cs k.e)).heap[b]? = w.heap[b]? := fun b p hp => hb b (h.ow b p hp).2
  have hne : ∀ (b : Nat) (p : Path), Ow b = some p → b ≠ w.heap.size := fun b p hp => by have := (h.ow b p hp).2; omega
  refine ⟨fun b => if b = w.heap.size then some [s.nx + 1] else Ow b, fun n => if n = s.nx then .at (some (w.heap.size, 0, cap, false)) else L n, ?_, by simp, ?_⟩
  case refine_2 =>
    intro x u hx
    refine (hx.world (by omega) (fun _ hk => hk) hS (fun b q hq => absurd hq (h.ow0 b q))).names (fun n => ?_) (fun b q hq => absurd hq (h.ow0 b q))
    by_cases e : n = s.nx
    · exact .inl (h.fresh n (by omega))
    · simp [e]
  have hLn : ∀ n, L n = .free ∨ (if n = s.nx then NL.at (some (w.heap.size, 0, cap, false)) else L n) = L n ∨ (if n = s.nx then NL.at (some (w.heap.size, 0, cap, false)) else L n) = .gone := fun n => by
    by_cases e : n = s.nx
    · exact .inl (h.fresh n (by omega))
    · simp [e]
  have hkeep : Keep C.W C.X (w.alloc (.cells cs k.e)) := ⟨h.keep.os, h.keep.tape, h.keep.output, by have := h.keep.size; omega, fun b hb' hx => (hb b (by have := h.keep.size; omega)).trans (h.keep.block b hb' hx), h.keep.drawn⟩
  refine { fix := fix_of h.fix hLn, keep := hkeep, inS := h.inS, upS := h.upS, ltS := fun b hb => by have := h.ltS b hb; omega, owS := ?_, ow := ?_, ow0 := ?_, blk := ?_, fresh := ?_, named := ?_, freshO := ?_, slot := ?_, size := h.size, defers := h.defers }
  · intro b hb
    have := h.ltS b hb
    simp only [show b ≠ w.heap.size by omega, if_false, h.owS b hb]
  · intro b p hp
    by_cases e : b = w.heap.size
    · subst e; exact ⟨.inl h.keep.size, by omega⟩
    · simp only [e, if_false] at hp
      exact ⟨(h.ow b p hp).1, by have := (h.ow b p hp).2; omega⟩
  · intro b q hq
    by_cases e : b = w.heap.size
    · simp [e] at hq
    · simp only [e, if_false] at hq; exact h.ow0 b q hq
  · intro n kk hn
    by_cases e : n = s.nx
    · subst e
      simp only [lb, if_true] at hn
      cases hn
      refine ⟨some (w.heap.size, 0, cap, false), by simp, by simp, cs, us, by simpa using heap_alloc_new w (.cells cs k.e), by simpa using hs, hc, hz, fun j row i x hj hi => by simpa using hcell j row i x hj hi, fun j row i x hj hi => ?_⟩
      exact ((hr j row i x hj hi).world (by omega) (fun _ hk => hk) hS (fun b q hq => absurd hq (h.ow0 b q))).names hLn (fun b q hq => absurd hq (h.ow0 b q))
    · simp only [lb, show ¬ s.nx = n from fun he => e he.symm, if_false] at hn
      obtain ⟨loc, hl, hB⟩ := h.blk n kk hn
      refine ⟨loc, by simp [e, hl], ?_⟩
      refine (hB.world (by omega) hS (fun b q hq => hO b _ hq)).names hLn (fun b q hq => ?_)
      simp only [show b ≠ w.heap.size from hne b _ hq, if_false, hq]
  · intro n hn
    have hn' : s.nx + 1 ≤ n := hn
    simp only [show n ≠ s.nx by omega, if_false]
    exact h.fresh n (by omega)
  · intro n hn
    have hn' : n < s.nx + 1 := hn
    by_cases e : n = s.nx
    · simp [e]
    · simp only [e, if_false]; exact h.named n (by omega)
  · intro b n q hq
    by_cases e : b = w.heap.size
    · simp [e] at hq; show n ≤ s.nx + 1; omega
    · simp only [e, if_false] at hq
      have := h.freshO b n q hq
      show n ≤ s.nx + 1
      omega
  · intro t x hx
    obtain ⟨v, hv, hR⟩ := h.slot t x hx
    exact ⟨v, hv, (hR.world (by omega) (fun _ hk => hk) hS (fun b q hq => absurd hq (h.ow0 b q))).names hLn (fun b q hq => absurd hq (h.ow0 b q))⟩

theorem RelX.allocNil (h : RelX C s a w S Ow L) (k : Blk) (hk : k.xs = []) :
    ∃ L', RelX C { s with bl := (s.nx, k) :: s.bl, nx := s.nx + 1 } a w S Ow L' ∧ L' s.nx = .at none ∧ ∀ x u, Rep w S Ow L [0] x u → Rep w S Ow L' [0] x u := by
  have hLn : ∀ n, L n = .free ∨ (if n = s.nx then NL.at none else L n) = L n ∨ (if n = s.nx then NL.at none else L n) = .gone := fun n => by
    by_cases e : n = s.nx
    · exact .inl (h.fresh n (by omega))
    · simp [e]
  refine ⟨fun n => if n = s.nx then .at none else L n, ?_, by simp, fun x u hx => hx.names hLn (fun _ _ hq => hq)⟩
  refine { fix := fix_of h.fix hLn, keep := h.keep, inS := h.inS, upS := h.upS, ltS := h.ltS, owS := h.owS, ow := h.ow, ow0 := h.ow0, blk := ?_, fresh := ?_, named := ?_, freshO := fun b n q hq => Nat.le_succ_of_le (h.freshO b n q hq), slot := ?_, size := h.size, defers := h.defers }
  · intro n kk hn
    by_cases e : n = s.nx
    · subst e
      simp only [lb, if_true] at hn
      cases hn
      exact ⟨none, by simp, hk⟩
    · simp only [lb, show ¬ s.nx = n from fun he => e he.symm, if_false] at hn
      obtain ⟨loc, hl, hB⟩ := h.blk n kk hn
      exact ⟨loc, by simp [e, hl], hB.names hLn (fun _ _ hq => hq)⟩
  · intro n hn
    have hn' : s.nx + 1 ≤ n := hn
    simp only [show n ≠ s.nx by omega, if_false]
    exact h.fresh n (by omega)
  · intro n hn
    have hn' : n < s.nx + 1 := hn
    by_cases e : n = s.nx
    · simp [e]
    · simp only [e, if_false]; exact h.named n (by omega)
  · intro t x hx
    obtain ⟨v, hv, hR⟩ := h.slot t x hx
    exact ⟨v, hv, hR.names hLn (fun _ _ hq => hq)⟩

def NL.kill : NL → NL
  | .free => .free
  | _ => .gone
theorem RelX.kill (h : RelX C s a w S Ow L) (n : Nat) : ∃ L', RelX C { s with bl := rm s.bl n } a w S Ow L' ∧ (∀ m, m ≠ n → L' m = L m) ∧ ∀ p x u, Rep w S Ow L p x u → Rep w S Ow L' p x u := by
  have free_iff : ∀ m, (if m = n then (L m).kill else L m) = .free ↔ L m = .free := fun m => by
    by_cases e : m = n
    · rw [if_pos e]; cases L m <;> simp [NL.kill]
    · rw [if_neg e]
  have hLn : ∀ m, L m = .free ∨ (if m = n then (L m).kill else L m) = L m ∨ (if m = n then (L m).kill else L m) = .gone := fun m => by
    by_cases e : m = n
    · rw [if_pos e]; cases L m <;> simp [NL.kill]
    · rw [if_neg e]; exact .inr (.inl rfl)
  refine ⟨fun m => if m = n then (L m).kill else L m, ?_, fun m hm => by simp [hm], fun p x u hx => hx.names hLn (fun _ _ hq => hq)⟩
  refine { fix := fix_of h.fix hLn, keep := h.keep, inS := h.inS, upS := h.upS, ltS := h.ltS, owS := h.owS, ow := h.ow, ow0 := h.ow0, blk := ?_, fresh := fun m hm => (free_iff m).2 (h.fresh m hm), named := fun m hm he => h.named m hm ((free_iff m).1 he), freshO := h.freshO, slot := ?_, size := h.size, defers := h.defers }
  · intro m kk hm
    simp only [lb_rm] at hm
    by_cases e : n = m
    · simp [e] at hm
    · rw [if_neg e] at hm
      obtain ⟨loc, hl, hB⟩ := h.blk m kk hm
      exact ⟨loc, by simp [hl, show ¬ m = n from fun he => e he.symm], hB.names hLn (fun _ _ hq => hq)⟩
  · intro t x hx
    obtain ⟨v, hv, hR⟩ := h.slot t x hx
    exact ⟨v, hv, hR.names hLn (fun _ _ hq => hq)⟩

theorem RelX.write (h : RelX C s a w S Ow L) (n : Nat) (k k' : Blk) (b o cap : Nat) (hL : L n = .at (some (b, o, cap, false))) (hk : lb s.bl n = some k) (w' : World) (ho : w'.os = w.os) (ht : w'.tape = w.tape) (hp : w'.output = w.output) (hs : w'.heap.size = w.heap.size)
    (hh : ∀ c, c ≠ b → w'.heap[c]? = w.heap[c]?) (hB : BlkRep w S Ow L n k (some (b, o, cap, false)) → (∀ p x u, (∀ q, Ow b ≠ some (p ++ q)) → Rep w S Ow L p x u → Rep w' S Ow L p x u) → BlkRep w' S Ow L n k' (some (b, o, cap, false))) (hd : w.drawn ≤ w'.drawn := by first | exact Nat.le_refl _ | exact Nat.le_add_right _ _) : RelX C { s with bl := st s.bl n k' } a w' S Ow L := by
  obtain ⟨loc, hl, hB0⟩ := h.blk n k hk
  rw [hL] at hl
  cases hl
  have hob := hB0.1
  have hnS : ∀ c, S c → c ≠ b := fun c hc e => by subst e; rw [h.owS _ hc] at hob; cases hob
  have mv : ∀ p x u, (∀ q, Ow b ≠ some (p ++ q)) → Rep w S Ow L p x u → Rep w' S Ow L p x u := fun p x u hq hx =>
    hx.world (by omega) (fun _ hk => hk) (fun c hc => hh c (hnS c hc)) (fun c q hc => hh c (fun e => by subst e; exact hq q hc))
  refine { fix := h.fix, keep := ?_, inS := h.inS, upS := h.upS, ltS := fun c hc => by rw [hs]; exact h.ltS c hc, owS := h.owS, ow := by rw [hs]; exact h.ow, ow0 := h.ow0, blk := ?_, fresh := h.fresh, named := h.named, freshO := h.freshO, slot := ?_, size := h.size, defers := h.defers }
  · refine ⟨ho.trans h.keep.os, ht.trans h.keep.tape, hp.trans h.keep.output, by rw [hs]; exact h.keep.size, fun c hc hx => ?_, Nat.le_trans h.keep.drawn hd⟩
    rw [hh c ?_]
    · exact h.keep.block c hc hx
    · intro e
      subst e
      rcases (h.ow _ _ hob).1 with g | g
      · omega
      · exact hx g
  · intro m kk hm
    simp only [lb_st] at hm
    by_cases e : n = m
    · subst e
      rw [if_pos rfl, hk] at hm
      cases hm
      exact ⟨_, hL, hB hB0 mv⟩
    · rw [if_neg e] at hm
      obtain ⟨loc, hl, hB⟩ := h.blk m kk hm
      refine ⟨loc, hl, hB.world (by omega) (fun c hc => hh c (hnS c hc)) (fun c q hc => hh c (fun e' => ?_))⟩
      subst e'
      rw [hob] at hc
      simp at hc
      exact e hc.1
  · intro t x hx
    obtain ⟨v, hv, hR⟩ := h.slot t x hx
    exact ⟨v, hv, mv [0] x v (fun q hq => h.ow0 b q hq) hR⟩
end
end Go.Proofs.Ytejpklajfcngbaa.En
end
section
namespace Go.Proofs.Ytejpklajfcngbaa.En
open Go.RowKit
set_option linter.unusedSimpArgs false
set_option linter.unusedVariables false

structure TI where
  agg : Bool
  sz : Nat
  bytes : Nat
def isAg : TypeDesc → Bool
  | .struct _ | .array _ _ => true
  | _ => false
def ti (P : Program) (t : TypeId) : Option TI :=
  match P.underlying t, P.info? t with
  | some d, some i => some ⟨isAg d, i.size, i.bytes⟩
  | _, _ => none
def elT (P : Program) (t : TypeId) : Option TypeId := match P.underlying t with | some (.slice e) => some e | _ => none
def arT (P : Program) (t : TypeId) : Option (Nat × TypeId) := match P.underlying t with | some (.array n e) => some (n, e) | _ => none
def fo (P : Program) (t : TypeId) (f : Nat) : Option (Nat × TypeId) := match P.underlying t with | some (.struct fs) => (fs[f]?).map fun x => (x.offset, x.type) | _ => none
def isStrT (P : Program) (t : TypeId) : Bool := match P.underlying t with | some .string => true | _ => false

def cvl : Value → Option AV
  | .agg cs => if cs.all Value.oneCell' then some (.ag (cs.toList.map .v)) else none
  | .tuple _ => none
  | x => some (.v x)
def ev (s : AS) : Operand → Option AV
  | .tmp t => lk s.tm t
  | .const x => cvl x
  | .func f => some (.fn f [])
  | .global _ => none

section
variable {C : Ctx} {s : AS} {a : Act} {w : World} {S : Nat → Prop} {Ow : Owners} {L : Names} {P : Program}

theorem cvl_rep {x : Value} {y : AV} (h : cvl x = some y) : Rep w S Ow L [0] y x := by
  cases x with
  | agg cs =>
    simp only [cvl] at h
    split at h
    · rename_i hc
      cases h
      have e : Value.agg cs = .agg cs.toList.toArray := by simp
      rw [e]
      refine .ag _ _ (by simp) (fun i x u hx hu => ?_)
      simp only [List.getElem?_map, Option.map_eq_some_iff] at hx
      obtain ⟨v, hv, rfl⟩ := hx
      rw [hu] at hv
      cases hv
      refine .v _ ?_
      rw [Array.all_eq_true_iff_forall_mem] at hc
      exact hc u (by simpa using List.mem_of_getElem? hu)
    · cases h
  | tuple _ => simp [cvl] at h
  | _ => simp only [cvl, Option.some.injEq] at h; subst h; exact .v _ rfl
theorem ev_rep (h : RelX C s a w S Ow L) {x : Operand} {y : AV} (hx : ev s x = some y) : Rep w S Ow L [0] y (a.eval x) := by
  cases x with
  | tmp t =>
    obtain ⟨u, hu, hR⟩ := h.slot t y hx
    simpa [Act.eval, Array.getD_eq_getD_getElem?, hu] using hR
  | const v => exact cvl_rep hx
  | func f =>
    simp only [ev, Option.some.injEq] at hx
    subst hx
    exact .fn f [] [] rfl (fun i x u hx hu => by simp at hx)
  | global g => simp [ev] at hx

def sim : AV → Bool
  | .v _ | .im _ _ | .own _ _ _ _ | .pb _ _ _ _ | .pi _ | .mp _ => true
  | _ => false
def flat : AV → Bool
  | .v _ | .im _ _ | .own _ _ _ _ | .pb _ _ _ _ | .pi _ | .mp _ => true
  | .fn _ cap => cap.all sim
  | _ => false
theorem Rep.sim {p p' : Path} {x : AV} {u : Value} (h : Rep w S Ow L p x u) (hf : En.sim x = true) : Rep w S Ow L p' x u := by
  cases h with
  | v _ h => exact .v _ h
  | im sz xs A c ad us hc ha hS hz hcell hr => exact .im sz xs A c ad us hc ha hS hz hcell hr
  | own n sz off len b o cap h hl => exact .own n sz off len b o cap h hl
  | own_end n sz off b o cap a h hl => exact .own_end n sz off b o cap a h hl
  | own_nil n sz A h => exact .own_nil n sz A h
  | own_gone n sz off len u h h1 => exact .own_gone n sz off len u h h1
  | pb n sz j i b o cap h => exact .pb n sz j i b o cap h
  | pb_gone n sz j i u h h1 => exact .pb_gone n sz j i u h h1
  | mp n b h => exact .mp n b h
  | mp_gone n u h h1 => exact .mp_gone n u h h1
  | pi xs ad us hS hcell hr => exact .pi xs ad us hS hcell hr
  | _ => simp [En.sim] at hf
theorem Rep.flat {p p' : Path} {x : AV} {u : Value} (h : Rep w S Ow L p x u) (hf : En.flat x = true) : Rep w S Ow L p' x u := by
  cases h with
  | fn g cap us hl hr =>
    refine .fn g cap us hl (fun i x u hx hu => (hr i x u hx hu).sim ?_)
    simp only [En.flat, List.all_eq_true] at hf
    exact hf x (List.mem_of_getElem? hx)
  | v _ h => exact .v _ h
  | im sz xs A c ad us hc ha hS hz hcell hr => exact .im sz xs A c ad us hc ha hS hz hcell hr
  | own n sz off len b o cap h hl => exact .own n sz off len b o cap h hl
  | own_end n sz off b o cap a h hl => exact .own_end n sz off b o cap a h hl
  | own_nil n sz A h => exact .own_nil n sz A h
  | own_gone n sz off len u h h1 => exact .own_gone n sz off len u h h1
  | pb n sz j i b o cap h => exact .pb n sz j i b o cap h
  | pb_gone n sz j i u h h1 => exact .pb_gone n sz j i u h h1
  | mp n b h => exact .mp n b h
  | mp_gone n u h h1 => exact .mp_gone n u h h1
  | pi xs ad us hS hcell hr => exact .pi xs ad us hS hcell hr
  | _ => simp [En.flat] at hf
def c1 : AV → Bool
  | .ag _ | .tu _ => false
  | _ => true
theorem Rep.one {p : Path} {x : AV} {u : Value} (h : Rep w S Ow L p x u) (hf : c1 x = true) : u.oneCell' = true := by
  cases h with
  | v _ h => exact h
  | own_gone _ _ _ _ _ _ h1 => exact h1
  | pb_gone _ _ _ _ _ _ h1 => exact h1
  | mp_gone _ _ _ h1 => exact h1
  | ag => simp [c1] at hf
  | tu => simp [c1] at hf
  | _ => rfl
theorem Rep.any {p p' : Path} {Ow' : Owners} {L' : Names} {x : AV} {u : Value} (h : Rep w S noOwner noName p x u) : Rep w S Ow' L' p' x u :=
  h.names (fun _ => .inl rfl) (fun _ _ hq => by cases hq)
theorem Rep.v_inv {p : Path} {x u : Value} (h : Rep w S Ow L p (.v x) u) : u = x ∧ x.oneCell' = true := by cases h; exact ⟨rfl, by assumption⟩
theorem Rep.ag_inv {p : Path} {xs : List AV} {u : Value} (h : Rep w S Ow L p (.ag xs) u) : ∃ us : List Value, u = .agg us.toArray ∧ us.length = xs.length ∧ ∀ (i : Nat) (x : AV) (u : Value), xs[i]? = some x → us[i]? = some u → Rep w S Ow L (p ++ [0, i]) x u := by
  cases h with | ag _ us h hr => exact ⟨us, rfl, h, hr⟩
theorem Rep.tu_inv {p : Path} {xs : List AV} {u : Value} (h : Rep w S Ow L p (.tu xs) u) : ∃ us : List Value, u = .tuple us.toArray ∧ us.length = xs.length ∧ ∀ (i : Nat) (x : AV) (u : Value), xs[i]? = some x → us[i]? = some u → Rep w S Ow L (p ++ [1, i]) x u := by
  cases h with | tu _ us h hr => exact ⟨us, rfl, h, hr⟩
theorem Rep.fn_inv {p : Path} {g : FuncId} {xs : List AV} {u : Value} (h : Rep w S Ow L p (.fn g xs) u) : ∃ us : List Value, u = .func (.func g) #[] us.toArray ∧ us.length = xs.length ∧ ∀ (i : Nat) (x : AV) (u : Value), xs[i]? = some x → us[i]? = some u → Rep w S Ow L (p ++ [2, i]) x u := by
  cases h with | fn _ _ us h hr => exact ⟨us, rfl, h, hr⟩
def Imm (w : World) (S : Nat → Prop) (ad : Addr) (xs : List AV) : Prop :=
  (S ad.block ∧ ad.block < w.heap.size ∧ ad.spot = none) ∧ ∃ us : Nat → Value, (∀ (i : Nat) (x : AV), xs[i]? = some x → w.cell? ⟨ad.block, ad.off + i, none⟩ = some (us i)) ∧ ∀ (i : Nat) (x : AV), xs[i]? = some x → Rep w S noOwner noName [] x (us i)
theorem Rep.pi_inv {p : Path} {xs : List AV} {u : Value} (h : Rep w S Ow L p (.pi xs) u) : ∃ ad, u = .pointer (some ad) ∧ Imm w S ad xs := by
  cases h with | pi _ ad us hS hcell hr => exact ⟨ad, rfl, hS, us, hcell, hr⟩
theorem Imm.rep {p : Path} {ad : Addr} {xs : List AV} (h : Imm w S ad xs) : Rep w S Ow L p (.pi xs) (.pointer (some ad)) := by
  obtain ⟨hS, us, hcell, hr⟩ := h
  exact .pi xs ad us hS hcell hr
theorem Imm.drop {ad : Addr} {xs : List AV} (h : Imm w S ad xs) (n : Nat) : Imm w S (ad.add n) (xs.drop n) := by
  obtain ⟨hS, us, hcell, hr⟩ := h
  have hb : (ad.add n).block = ad.block := by unfold Addr.add; split <;> rfl
  have ho : (ad.add n).off = ad.off + n := by unfold Addr.add; split <;> simp_all
  have hs : (ad.add n).spot = none := by unfold Addr.add; split <;> simp_all
  refine ⟨⟨by rw [hb]; exact hS.1, by rw [hb]; exact hS.2.1, hs⟩, fun i => us (n + i), fun i x hx => ?_, fun i x hx => ?_⟩
  · rw [List.getElem?_drop] at hx
    rw [hb, ho, Nat.add_assoc]; exact hcell _ x hx
  · rw [List.getElem?_drop] at hx
    exact hr _ x hx
theorem Rep.im_inv {p : Path} {sz : Nat} {xs : List (List AV)} {u : Value} (h : Rep w S Ow L p (.im sz xs) u) : ∃ A c, u = .slice A xs.length c ∧ xs.length ≤ c ∧ (∀ (j : Nat) (row : List AV), xs[j]? = some row → row.length = sz) ∧
    ∀ (j : Nat) (row : List AV), xs[j]? = some row → ∃ ad, A = some ad ∧ Imm w S (ad.add (j * sz)) row := by
  cases h with
  | im _ _ A c ad us hc ha hS hz hcell hr =>
    refine ⟨A, c, rfl, hc, hz, fun j row hj => ?_⟩
    have hne : xs ≠ [] := by rintro rfl; simp at hj
    have hS := hS hne
    have hb : (ad.add (j * sz)).block = ad.block := by unfold Addr.add; split <;> rfl
    have ho : (ad.add (j * sz)).off = ad.off + j * sz := by unfold Addr.add; split <;> simp_all
    have hs : (ad.add (j * sz)).spot = none := by unfold Addr.add; split <;> simp_all
    refine ⟨ad, ha hne, ⟨by rw [hb]; exact hS.1, by rw [hb]; exact hS.2.1, hs⟩, us j, fun i x hi => ?_, fun i x hi => hr j row i x hj hi⟩
    rw [hb, ho, Nat.add_assoc]; exact hcell j row i x hj hi

/-! #### types -/
theorem ti_agg {t : TypeId} {i : TI} (h : ti P t = some i) : (isAgg t).run P w = .ok i.agg w := by
  unfold ti at h
  split at h
  · rename_i d i' hd hi
    cases h
    unfold isAgg
    rw [Sem.run_bind, run_underlying hd w]
    cases d <;> rfl
  · cases h
theorem ti_size {t : TypeId} {i : TI} (h : ti P t = some i) : (sizeOf t).run P w = .ok i.sz w := by
  unfold ti at h
  split at h
  · rename_i d i' hd hi
    cases h
    simp [sizeOf, typeInfo, hi]
  · cases h
theorem ti_bytes {t : TypeId} {i : TI} (h : ti P t = some i) : ∃ i', (typeInfo t).run P w = .ok i' w ∧ i'.bytes = i.bytes ∧ i'.size = i.sz := by
  unfold ti at h
  split at h
  · rename_i d i' hd hi
    cases h
    exact ⟨i', by simp [typeInfo, hi], rfl, rfl⟩
  · cases h
theorem elT_run {t e : TypeId} (h : elT P t = some e) : P.underlying t = some (.slice e) := by
  unfold elT at h; split at h <;> simp_all
theorem arT_run {t e : TypeId} {n : Nat} (h : arT P t = some (n, e)) : P.underlying t = some (.array n e) := by
  unfold arT at h; split at h <;> simp_all
theorem fo_run {t e : TypeId} {f off : Nat} (h : fo P t f = some (off, e)) : ∃ fs x, P.underlying t = some (.struct fs) ∧ fs[f]? = some x ∧ x.offset = off ∧ x.type = e := by
  unfold fo at h
  split at h
  · rename_i fs hu
    simp only [Option.map_eq_some_iff, Prod.mk.injEq] at h
    obtain ⟨x, hx, h1, h2⟩ := h
    exact ⟨fs, x, hu, hx, h1, h2⟩
  · cases h

/-! #### the value of an operation that leaves memory alone -/
def prt (i : TI) (xs : List AV) (off : Nat) : Option AV := if i.agg then some (.ag ((xs.drop off).take i.sz)) else match xs[off]? with | some x => if flat x then some x else none | none => none

def wr64 (n : Int) : Int := IntKind.i64.wrap n
def bin (o : BinOp) (x y : Int) : Option Value :=
  match o with
  | .add => some (.int .i64 (wr64 (x + y)))
  | .sub => some (.int .i64 (wr64 (x - y)))
  | .mul => some (.int .i64 (wr64 (x * y)))
  | .eql => some (.bool (x == y))
  | .neq => some (.bool (x != y))
  | .lss => some (.bool (x < y))
  | .leq => some (.bool (x ≤ y))
  | .gtr => some (.bool (x > y))
  | .geq => some (.bool (x ≥ y))
  | .quo => if y = 0 then none else some (.int .i64 (wr64 (x.tdiv y)))
  | .rem => if y = 0 then none else some (.int .i64 (x.tmod y))
  | _ => none
def binB (o : BinOp) (x y : Bool) : Option Value :=
  match o with
  | .eql => some (.bool (x == y))
  | .neq => some (.bool (x != y))
  | _ => none
def binS (o : BinOp) (x y : ByteArray) : Option Value :=
  match o with
  | .add => if x.size + y.size ≤ 9223372036854775807 then some (.string (x ++ y)) else none
  | .eql => some (.bool (x.toList == y.toList))
  | .neq => some (.bool (!(x.toList == y.toList)))
  | _ => none
def binC (o : BinOp) (x y : Int) : Option Value :=
  match o with
  | .eql => some (.bool (x == y))
  | .neq => some (.bool (x != y))
  | .lss => some (.bool (x < y))
  | .leq => some (.bool (x ≤ y))
  | .gtr => some (.bool (x > y))
  | .geq => some (.bool (x ≥ y))
  | _ => none
def isBoolT (P : Program) (t : TypeId) : Bool := match P.underlying t with | some .bool => true | _ => false

def aval (P : Program) (s : AS) : Op → Option AV
  | .move x | .assign x => ev s x
  | .pick c x y => match ev s c with
    | some (.v (.bool true)) => ev s x
    | some (.v (.bool false)) => ev s y
    | _ => none
  | .extract x i => match ev s x with
    | some (.tu xs) => xs[i]?
    | _ => none
  | .nilCheck x => match ev s x with
    | some (.pb n sz j i) => (lb s.bl n).map fun _ => .pb n sz j i
    | some (.pi xs) => some (.pi xs)
    | some (.fn g cap) => some (.fn g cap)
    | _ => none
  | .makeFunc (.func g) first captured => if first.size = 0 then ((captured.toList.mapM fun x => ev s x).map fun xs => .fn g xs) else none
  | .field t x f => match ev s x, fo P t f with
    | some (.ag xs), some (off, e) => match ti P e with
      | some i => prt i xs off
      | none => none
    | _, _ => none
  | .fieldAddr t x f => match ev s x, fo P t f with
    | some (.pb n sz j i), some (off, e) => match ti P e, lb s.bl n with
      | some k, some _ => if k.sz = 0 then none else some (.pb n sz j (i + off))
      | _, _ => none
    | some (.pi xs), some (off, e) => match ti P e with
      | some k => if k.sz = 0 then none else some (.pi (xs.drop off))
      | _ => none
    | _, _ => none
  | .indexAddr t x k => match ev s k, ev s x with
    | some (.v (.int .i64 z)), some (.im sz xs) => match elT P t with
      | some e => match ti P e with
        | some i => if i.sz = sz ∧ 0 ≤ z then (xs[z.toNat]?).map .pi else none
        | none => none
      | none => none
    | some (.v (.int .i64 z)), some (.own n sz off len) => match elT P t, lb s.bl n with
      | some e, some b => match ti P e with
        | some i => if i.sz = sz ∧ 0 ≤ z ∧ z.toNat < len then some (.pb n sz (off + z.toNat) 0) else none
        | none => none
      | _, _ => none
    | some (.v (.int .i64 z)), some (.pb n sz j o) => match arT P t, lb s.bl n with
      | some (len, e), some b => match ti P e with
        | some i => if 0 ≤ z ∧ z.toNat < len then some (.pb n sz j (o + z.toNat * i.sz)) else none
        | none => none
      | _, _ => none
    | some (.v (.int .i64 z)), some (.pi xs) => match arT P t with
      | some (len, e) => match ti P e with
        | some i => if 0 ≤ z ∧ z.toNat < len then some (.pi (xs.drop (z.toNat * i.sz))) else none
        | none => none
      | none => none
    | _, _ => none
  | .index t x k => match ev s k, ev s x with
    | some (.v (.int .i64 z)), some (.ag xs) => match arT P t with
      | some (len, e) => match ti P e with
        | some i => if 0 ≤ z ∧ z.toNat < len then prt i xs (z.toNat * i.sz) else none
        | none => none
      | none => none
    | some (.v (.int .i64 z)), some (.v (.string b)) => if isStrT P t = true ∧ 0 ≤ z then (b[z.toNat]?).map fun c => .v (.int .u8 c.toNat) else none
    | _, _ => none
  | .convert src dst x => match ev s x, P.underlying src, P.underlying dst with
    | some (.v (.int _ n)), some (.int _), some (.int k) => some (.v (.int k (k.wrap n)))
    | some (.v (.int _ n)), some (.int _), some .string => some (.v (.string (Utf8.encode n)))
    | _, _, _ => none
  | .binOp o t x y _ => match ev s x, ev s y with
    | some (.v (.int .i64 p)), some (.v (.int .i64 q)) => (bin o p q).map .v
    | some (.v (.bool p)), some (.v (.bool q)) => if isBoolT P t then (binB o p q).map .v else none
    | some (.v (.string p)), some (.v (.string q)) => (binS o p q).map .v
    | some (.v (.int .u8 p)), some (.v (.int .u8 q)) => (binC o p q).map .v
    | _, _ => none
  | .unOp o _ x => match o, ev s x with
    | .not, some (.v (.bool b)) => some (.v (.bool (!b)))
    | .neg, some (.v (.int .i64 n)) => some (.v (.int .i64 (wr64 (0 - n))))
    | _, _ => none
  | .call c => match c.callee, c.args.toList, c.argTypes.toList with
    | .builtin .len, [x], [t] => match ev s x, elT P t with
      | some (.im _ xs), some _ => some (.v (.int .i64 xs.length))
      | some (.own n sz off len), some _ => (lb s.bl n).map fun _ => .v (.int .i64 len)
      | some (.v (.slice none 0 0)), some _ => some (.v (.int .i64 0))
      | some (.v (.string b)), none => if isStrT P t then some (.v (.int .i64 b.size)) else none
      | _, _ => none
    | _, _, _ => none
  | _ => none

theorem own_known (h : RelX C s a w S Ow L) {n sz off len : Nat} {k : Blk} {p : Path} {u : Value} (hk : lb s.bl n = some k) (hr : Rep w S Ow L p (.own n sz off len) u) : ∃ A c, u = .slice A len c ∧ len ≤ c := by
  obtain ⟨loc, hl, hB⟩ := h.blk n k hk
  cases hr with
  | own _ _ _ _ b o cap h hl => exact ⟨_, _, rfl, by omega⟩
  | own_end => exact ⟨_, _, rfl, Nat.le_refl _⟩
  | own_nil => exact ⟨_, _, rfl, Nat.le_refl _⟩
  | own_gone _ _ _ _ _ h _ => rw [hl] at h; cases h
theorem pb_known (h : RelX C s a w S Ow L) {n sz j i : Nat} {k : Blk} {p : Path} {u : Value} (hk : lb s.bl n = some k) (hr : Rep w S Ow L p (.pb n sz j i) u) : ∃ b o cap, L n = .at (some (b, o, cap, false)) ∧ u = .pointer (some ⟨b, (o + j) * sz + i, none⟩) := by
  obtain ⟨loc, hl, hB⟩ := h.blk n k hk
  cases hr with
  | pb _ _ _ _ b o cap h => exact ⟨b, o, cap, h, rfl⟩
  | pb_gone _ _ _ _ _ h _ => rw [hl] at h; cases h

theorem prt_run {i : TI} {e : TypeId} {xs : List AV} {us : List Value} {off : Nat} {x : AV} (he : ti P e = some i) (hl : us.length = xs.length) (hr : ∀ (j : Nat) (x : AV) (u : Value), xs[j]? = some x → us[j]? = some u → Rep w S Ow L ([0] ++ [0, j]) x u) (hO : ∀ k q, Ow k ≠ some (0 :: q)) (hx : prt i xs off = some x) :
    ∃ u, (∀ w', (part e us.toArray off).run P w' = .ok u w') ∧ Rep w S Ow L [0] x u := by
  unfold prt at hx
  unfold part
  simp only [Sem.run_bind, ti_agg he, Result.andThen_ok]
  cases hi : i.agg with
  | true =>
    rw [hi] at hx
    simp only [if_true, Option.some.injEq] at hx ⊢
    subst hx
    refine ⟨.agg (us.toArray.extract off (off + i.sz)), fun w' => by simp [ti_size he], ?_⟩
    have e2 : us.toArray.extract off (off + i.sz) = ((us.drop off).take i.sz).toArray := by simp [List.extract_eq_take_drop]
    rw [e2]
    refine .ag _ _ (by simp [hl]) (fun k y u hy hu => ?_)
    rw [List.getElem?_take] at hy hu
    split at hy
    · rename_i hk
      rw [if_pos hk] at hu
      rw [List.getElem?_drop] at hy hu
      refine (hr (off + k) y u hy hu).names (fun _ => .inr (.inl rfl)) (fun b q hq => absurd hq (hO b _))
    · cases hy
  | false =>
    rw [hi] at hx
    simp only [Bool.false_eq_true, if_false] at hx ⊢
    split at hx
    · rename_i y hy
      split at hx
      · rename_i hf
        cases hx
        have hlt : off < us.length := by have := (List.getElem?_eq_some_iff.1 hy).1; omega
        have hu : us[off]? = some us[off] := List.getElem?_eq_getElem hlt
        refine ⟨us[off], fun w' => by simp [hlt], ((hr off x us[off] hy hu)).flat hf⟩
      · cases hx
    · cases hx

theorem aval_sound (h : RelX C s a w S Ow L) {o : Oper} {x : AV} (hx : aval P s o.op = some x) : ∃ u, (∀ w', (execOp a.eval o).run P w' = .ok (.value u) w') ∧ Rep w S Ow L [0] x u := by
  unfold execOp
  cases hop : o.op with
  | move y => rw [hop] at hx; exact ⟨_, fun _ => rfl, ev_rep h hx⟩
  | assign y => rw [hop] at hx; exact ⟨_, fun _ => rfl, ev_rep h hx⟩
  | pick c y z =>
    rw [hop] at hx
    simp only [aval] at hx
    split at hx
    · rename_i hc
      obtain ⟨e, _⟩ := (ev_rep h hc).v_inv
      exact ⟨a.eval y, fun w2 => by simp [e, asBool], ev_rep h hx⟩
    · rename_i hc
      obtain ⟨e, _⟩ := (ev_rep h hc).v_inv
      exact ⟨a.eval z, fun w2 => by simp [e, asBool], ev_rep h hx⟩
    · cases hx
  | extract y i =>
    rw [hop] at hx
    simp only [aval] at hx
    split at hx
    · rename_i xs hc
      obtain ⟨us, e, hl, hr⟩ := (ev_rep h hc).tu_inv
      have hlt : i < us.length := by have := (List.getElem?_eq_some_iff.1 hx).1; omega
      have hu : us[i]? = some us[i] := List.getElem?_eq_getElem hlt
      refine ⟨us[i], fun w2 => by simp [e, Instr.extract, hlt], (hr i x _ hx hu).names (fun _ => .inr (.inl rfl)) (fun b q hq => absurd hq (h.ow0 b _))⟩
    · cases hx
  | nilCheck y =>
    rw [hop] at hx
    simp only [aval] at hx
    split at hx
    · rename_i n sz j i hc
      simp only [Option.map_eq_some_iff] at hx
      obtain ⟨k, hk, rfl⟩ := hx
      have hr := ev_rep h hc
      obtain ⟨b, o, cap, hl, e⟩ := pb_known h hk hr
      exact ⟨_, fun w2 => by simp [e], e ▸ hr⟩
    · rename_i xs hc
      cases hx
      have hr := ev_rep h hc
      obtain ⟨ad, e, _⟩ := hr.pi_inv
      exact ⟨_, fun w2 => by simp [e], e ▸ hr⟩
    · rename_i g cap hc
      cases hx
      have hr := ev_rep h hc
      obtain ⟨us, e, _⟩ := hr.fn_inv
      exact ⟨_, fun w2 => by simp [e], e ▸ hr⟩
    · cases hx
  | makeFunc f first captured =>
    rw [hop] at hx
    cases f with
    | func g =>
      simp only [aval] at hx
      split at hx
      · rename_i hf
        simp only [Option.map_eq_some_iff] at hx
        obtain ⟨xs, hm, rfl⟩ := hx
        have hf' : first = #[] := by simpa using hf
        subst hf'
        have hlen : xs.length = captured.toList.length := mapM_some_length hm
        refine ⟨.func (.func g) #[] (captured.map a.eval), fun w2 => by simp [Instr.makeFunc], ?_⟩
        have e : captured.map a.eval = (captured.toList.map a.eval).toArray := by rw [← Array.toList_map, Array.toArray_toList]
        rw [e]
        refine .fn g xs _ (by simp [hlen]) (fun i x u hx hu => ?_)
        simp only [List.getElem?_map, Option.map_eq_some_iff] at hu
        obtain ⟨c, hc, rfl⟩ := hu
        have := mapM_some_get hm i c hc
        rw [hx] at this
        exact (ev_rep h this).names (fun _ => .inr (.inl rfl)) (fun b q hq => absurd hq (h.ow0 b q))
      · cases hx
    | _ => simp [aval] at hx
  | field t y f =>
    rw [hop] at hx
    simp only [aval] at hx
    split at hx
    · rename_i xs off e hc hfo
      split at hx
      · rename_i i hi
        obtain ⟨us, eu, hl, hr⟩ := (ev_rep h hc).ag_inv
        obtain ⟨fs, fd, hu, hfd, rfl, rfl⟩ := fo_run hfo
        obtain ⟨u, hrun, hR⟩ := prt_run (P := P) hi hl hr h.ow0 hx
        exact ⟨u, fun w2 => by simp [Instr.field, run_underlying hu, hfd, eu, asAgg, hrun], hR⟩
      · cases hx
    · cases hx
  | fieldAddr t y f =>
    rw [hop] at hx
    simp only [aval] at hx
    split at hx
    · rename_i n sz j i off e hc hfo
      split at hx
      · rename_i k b hi hk
        split at hx
        · cases hx
        · rename_i hz
          cases hx
          obtain ⟨b, o, cap, hl, eu⟩ := pb_known h hk (ev_rep h hc)
          obtain ⟨fs, fd, hu, hfd, rfl, rfl⟩ := fo_run hfo
          refine ⟨_, fun w2 => ?_, .pb n sz j (i + fd.offset) b o cap hl⟩
          simp [Instr.fieldAt, run_underlying hu, hfd, eu, Instr.sureAddr, fieldPlace, ti_size hi, hz, Addr.add_lit, Nat.add_assoc]
      · cases hx
    · rename_i xs off e hc hfo
      split at hx
      · rename_i k hi
        split at hx
        · cases hx
        · rename_i hz
          cases hx
          obtain ⟨ad, eu, hI⟩ := (ev_rep h hc).pi_inv
          obtain ⟨fs, fd, hu, hfd, rfl, rfl⟩ := fo_run hfo
          exact ⟨_, fun w2 => by simp [Instr.fieldAt, run_underlying hu, hfd, eu, Instr.sureAddr, fieldPlace, ti_size hi, hz], (hI.drop fd.offset).rep⟩
      · cases hx
    · cases hx
  | indexAddr t y k =>
    rw [hop] at hx
    simp only [aval] at hx
    split at hx
    · rename_i z sz xs hk hc
      obtain ⟨ek, _⟩ := (ev_rep h hk).v_inv
      split at hx
      · rename_i e he
        split at hx
        · rename_i i hi
          split at hx
          · rename_i hcond
            simp only [Option.map_eq_some_iff] at hx
            obtain ⟨row, hrow, rfl⟩ := hx
            obtain ⟨A, c, eu, hlc, hz, hrows⟩ := (ev_rep h hc).im_inv
            obtain ⟨ad, rfl, hI⟩ := hrows _ row hrow
            have hlt : z.toNat < xs.length := (List.getElem?_eq_some_iff.1 hrow).1
            refine ⟨.pointer (some (ad.add (z.toNat * i.sz))), fun w2 => ?_, by rw [hcond.1]; exact hI.rep⟩
            have hzz : 0 ≤ z ∧ z < (xs.length : Int) := ⟨hcond.2, by omega⟩
            simp [Instr.indexAt, asIntOf, ek, eu, run_underlying (elT_run he), ti_size hi, hzz]
          · cases hx
        · cases hx
      · cases hx
    · rename_i z n sz off len hk hc
      obtain ⟨ek, _⟩ := (ev_rep h hk).v_inv
      split at hx
      · rename_i e b he hb
        split at hx
        · rename_i i hi
          split at hx
          · rename_i hcond
            cases hx
            obtain ⟨hsz, h0, hlt⟩ := hcond
            obtain ⟨loc, hl, hB⟩ := h.blk n b hb
            have hr := ev_rep h hc
            have hzz : 0 ≤ z ∧ z < (len : Int) := ⟨h0, by omega⟩
            generalize hu : a.eval y = u at hr
            cases hr with
            | own _ _ _ _ b' o cap hL hle =>
              refine ⟨_, fun w2 => ?_, .pb n sz (off + z.toNat) 0 b' o cap hL⟩
              simp [Instr.indexAt, asIntOf, ek, hu, run_underlying (elT_run he), ti_size hi, hzz, Addr.add_lit, hsz, Nat.add_mul, Nat.add_assoc]
            | own_end => omega
            | own_nil => omega
            | own_gone _ _ _ _ _ hg _ => rw [hl] at hg; cases hg
          · cases hx
        · cases hx
      · cases hx
    · rename_i z n sz j o hk hc
      obtain ⟨ek, _⟩ := (ev_rep h hk).v_inv
      split at hx
      · rename_i len e b he hb
        split at hx
        · rename_i i hi
          split at hx
          · rename_i hcond
            cases hx
            obtain ⟨b', o', cap, hl, eu⟩ := pb_known h hb (ev_rep h hc)
            have hzz : 0 ≤ z ∧ z < (len : Int) := ⟨hcond.1, by omega⟩
            refine ⟨_, fun w2 => ?_, .pb n sz j (o + z.toNat * i.sz) b' o' cap hl⟩
            simp [Instr.indexAt, asIntOf, ek, eu, run_underlying (arT_run he), Instr.sureAddr, ti_size hi, hzz, Addr.add_lit, Nat.add_assoc]
          · cases hx
        · cases hx
      · cases hx
    · rename_i z xs hk hc
      obtain ⟨ek, _⟩ := (ev_rep h hk).v_inv
      split at hx
      · rename_i len e he
        split at hx
        · rename_i i hi
          split at hx
          · rename_i hcond
            cases hx
            obtain ⟨ad, eu, hI⟩ := (ev_rep h hc).pi_inv
            have hzz : 0 ≤ z ∧ z < (len : Int) := ⟨hcond.1, by omega⟩
            refine ⟨_, fun w2 => ?_, (hI.drop (z.toNat * i.sz)).rep⟩
            simp [Instr.indexAt, asIntOf, ek, eu, run_underlying (arT_run he), Instr.sureAddr, ti_size hi, hzz]
          · cases hx
        · cases hx
      · cases hx
    · cases hx
  | index t y k =>
    rw [hop] at hx
    simp only [aval] at hx
    split at hx
    · rename_i z xs hk hc
      obtain ⟨ek, _⟩ := (ev_rep h hk).v_inv
      split at hx
      · rename_i len e he
        split at hx
        · rename_i i hi
          split at hx
          · rename_i hcond
            obtain ⟨us, eu, hl, hr⟩ := (ev_rep h hc).ag_inv
            obtain ⟨u, hrun, hR⟩ := prt_run (P := P) hi hl hr h.ow0 hx
            have hzz : 0 ≤ z ∧ z < (len : Int) := ⟨hcond.1, by omega⟩
            exact ⟨u, fun w2 => by simp [Instr.index, asIntOf, ek, eu, run_underlying (arT_run he), ti_size hi, hzz, hrun], hR⟩
          · cases hx
        · cases hx
      · cases hx
    · rename_i z b hk hc
      obtain ⟨ek, _⟩ := (ev_rep h hk).v_inv
      obtain ⟨ec, _⟩ := (ev_rep h hc).v_inv
      split at hx
      · rename_i hcond
        obtain ⟨hstr, h0⟩ := hcond
        have hu : P.underlying t = some .string := by unfold isStrT at hstr; split at hstr <;> simp_all
        simp only [Option.map_eq_some_iff] at hx
        obtain ⟨c, hc', rfl⟩ := hx
        exact ⟨_, fun w2 => by simp [Instr.index, asIntOf, ek, ec, run_underlying hu, h0, hc'], .v _ rfl⟩
      · cases hx
    · cases hx
  | convert src dst y =>
    rw [hop] at hx
    simp only [aval] at hx
    split at hx
    · rename_i k n k1 k2 hy hs hd
      cases hx
      obtain ⟨ey, _⟩ := (ev_rep h hy).v_inv
      exact ⟨_, fun w2 => by simp [convert, ey, run_underlying hs, run_underlying hd, Conv.intToInt], .v _ rfl⟩
    · rename_i k n k1 hy hs hd
      cases hx
      obtain ⟨ey, _⟩ := (ev_rep h hy).v_inv
      exact ⟨_, fun w2 => by simp [convert, ey, run_underlying hs, run_underlying hd, Conv.intToString], .v _ rfl⟩
    · cases hx
  | binOp b t y z t' =>
    rw [hop] at hx
    simp only [aval] at hx
    split at hx
    · rename_i p q hy hz
      obtain ⟨ey, _⟩ := (ev_rep h hy).v_inv
      obtain ⟨ez, _⟩ := (ev_rep h hz).v_inv
      simp only [Option.map_eq_some_iff] at hx
      obtain ⟨r, hr, rfl⟩ := hx
      refine ⟨r, fun w2 => ?_, ?_⟩
      · cases b
        case quo => simp only [bin] at hr; split at hr; · cases hr
                    · rename_i h0; cases hr; simp [ey, ez, eqGuard, binOp, Op.intDiv, h0, wr64]
        case rem => simp only [bin] at hr; split at hr; · cases hr
                    · rename_i h0; cases hr; simp [ey, ez, eqGuard, binOp, Op.intDiv, h0, wr64]
        all_goals simp only [bin, Option.some.injEq] at hr
        all_goals first | (subst hr; simp [ey, ez, eqGuard, binOp, Op.intArith, Op.intCmp, wr64]; done) | (cases hr; done)
      · cases b
        case quo => simp only [bin] at hr; split at hr; · cases hr
                    · cases hr; exact .v _ rfl
        case rem => simp only [bin] at hr; split at hr; · cases hr
                    · cases hr; exact .v _ rfl
        all_goals simp only [bin, Option.some.injEq] at hr
        all_goals first | (subst hr; exact .v _ rfl) | (cases hr; done)
    · rename_i p q hy hz
      obtain ⟨ey, _⟩ := (ev_rep h hy).v_inv
      obtain ⟨ez, _⟩ := (ev_rep h hz).v_inv
      split at hx
      · rename_i hb
        have hu : P.underlying t = some .bool := by unfold isBoolT at hb; split at hb <;> simp_all
        simp only [Option.map_eq_some_iff] at hx
        obtain ⟨r, hr, rfl⟩ := hx
        cases b <;> simp only [binB, Option.some.injEq] at hr
        case eql => subst hr; exact ⟨_, fun w2 => by simp [ey, ez, eqGuard, binOp, Op.equal, Op.maxDepth, run_equalIn_bool' w2 9999 t p q hu], .v _ rfl⟩
        case neq => subst hr; exact ⟨_, fun w2 => by simp [ey, ez, eqGuard, binOp, Op.equal, Op.maxDepth, run_equalIn_bool' w2 9999 t p q hu]; cases p <;> cases q <;> rfl, .v _ rfl⟩
        all_goals cases hr
      · cases hx
    · rename_i p q hy hz
      obtain ⟨ey, _⟩ := (ev_rep h hy).v_inv
      obtain ⟨ez, _⟩ := (ev_rep h hz).v_inv
      simp only [Option.map_eq_some_iff] at hx
      obtain ⟨r, hr, rfl⟩ := hx
      cases b <;> simp only [binS] at hr
      case add =>
        split at hr
        · rename_i hle
          cases hr
          have hm : ¬ (((p.size + q.size : Nat) : Int) > IntKind.i64.max) := by have : IntKind.i64.max = 9223372036854775807 := rfl; omega
          exact ⟨_, fun w2 => by simp only [gt_iff_lt, Int.not_lt] at hm; simp [ey, ez, eqGuard, binOp, Op.stringOp]; omega, .v _ rfl⟩
        · cases hr
      case eql => cases hr; exact ⟨_, fun w2 => by simp [ey, ez, eqGuard, binOp, Op.stringOp], .v _ rfl⟩
      case neq => cases hr; exact ⟨_, fun w2 => by simp [ey, ez, eqGuard, binOp, Op.stringOp], .v _ rfl⟩
      all_goals cases hr
    · rename_i p q hy hz
      obtain ⟨ey, _⟩ := (ev_rep h hy).v_inv
      obtain ⟨ez, _⟩ := (ev_rep h hz).v_inv
      simp only [Option.map_eq_some_iff] at hx
      obtain ⟨r, hr, rfl⟩ := hx
      cases b <;> simp only [binC] at hr
      all_goals first | (cases hr; exact ⟨_, fun w2 => by simp [ey, ez, eqGuard, binOp, Op.intCmp], .v _ rfl⟩) | cases hr
    · cases hx
  | unOp b t y =>
    rw [hop] at hx
    simp only [aval] at hx
    split at hx
    · rename_i b' hy
      cases hx
      obtain ⟨ey, _⟩ := (ev_rep h hy).v_inv
      exact ⟨_, fun w2 => by simp [ey, Op.unary], .v _ rfl⟩
    · rename_i n hy
      cases hx
      obtain ⟨ey, _⟩ := (ev_rep h hy).v_inv
      exact ⟨_, fun w2 => by simp [ey, Op.unary, Op.intArith, wr64], .v _ rfl⟩
    · cases hx
  | call c =>
    rw [hop] at hx
    simp only [aval] at hx
    obtain ⟨callee, args, argTypes⟩ := c
    split at hx
    · rename_i y t hcal hargs hts
      simp only at hcal hargs hts
      subst hcal
      have ea : args = #[y] := by rw [← Array.toArray_toList (xs := args), hargs]
      have et : argTypes = #[t] := by rw [← Array.toArray_toList (xs := argTypes), hts]
      subst ea et
      split at hx
      · rename_i sz xs e hy he
        cases hx
        obtain ⟨A, cc, eu, _⟩ := (ev_rep h hy).im_inv
        exact ⟨_, fun w2 => by simp [resolve, invoke, builtin, Builtin.len_, eu, run_underlying (elT_run he)]; rfl, .v _ rfl⟩
      · rename_i n sz off len e hy he
        simp only [Option.map_eq_some_iff] at hx
        obtain ⟨k, hk, rfl⟩ := hx
        obtain ⟨A, cc, eu, _⟩ := own_known h hk (ev_rep h hy)
        exact ⟨_, fun w2 => by simp [resolve, invoke, builtin, Builtin.len_, eu, run_underlying (elT_run he)]; rfl, .v _ rfl⟩
      · rename_i e hy he
        cases hx
        obtain ⟨ey, _⟩ := (ev_rep h hy).v_inv
        exact ⟨_, fun w2 => by simp [resolve, invoke, builtin, Builtin.len_, ey, run_underlying (elT_run he)]; rfl, .v _ rfl⟩
      · rename_i b hy he
        split at hx
        · rename_i hstr
          cases hx
          obtain ⟨ey, _⟩ := (ev_rep h hy).v_inv
          have hu : P.underlying t = some .string := by unfold isStrT at hstr; split at hstr <;> simp_all
          exact ⟨_, fun w2 => by simp [resolve, invoke, builtin, Builtin.len_, ey, run_underlying hu]; rfl, .v _ rfl⟩
        · cases hx
      · cases hx
    · cases hx
  | _ => rw [hop] at hx; simp [aval] at hx
end
end Go.Proofs.Ytejpklajfcngbaa.En
end
section
namespace Go.Proofs.Ytejpklajfcngbaa.En
open Go.RowKit
set_option linter.unusedSimpArgs false
set_option linter.unusedVariables false

def cel : AV → List AV
  | .ag xs => xs
  | x => [x]
def ok1 (s : AS) : AV → Bool
  | .ag _ | .tu _ | .ow _ _ _ => false
  | _ => true
def spl (row : List AV) (i : Nat) : List AV → List AV
  | [y] => row.set i y
  | ys => row.take i ++ ys ++ row.drop (i + ys.length)
def zc (P : Program) (t : TypeId) : Option (List AV) := (P.info? t).bind fun i => i.zero.bind fun z => if z.cells.all Value.oneCell' ∧ z.cells.size = i.size then some (z.cells.toList.map .v) else none

def loadOne (s : AS) (n : Nat) (b : Blk) (j : Nat) (row : List AV) (i : Nat) : Option (AV × AS) :=
  match row[i]? with
  | some (.ow e z ys) => some (.own s.nx z 0 ys.length, { s with bl := (s.nx, ⟨e, z, ys⟩) :: st s.bl n { b with xs := b.xs.set j (row.set i (.own s.nx z 0 ys.length)) }, nx := s.nx + 1 })
  | some y => if flat y then some (y, s) else none
  | none => none

section
variable {C : Ctx} {s : AS} {a : Act} {w : World} {S : Nat → Prop} {Ow : Owners} {L : Names} {P : Program}

theorem ok1_cell (h : RelX C s a w S Ow L) {x : AV} {u : Value} {p : Path} (hr : Rep w S Ow L p x u) (hk : ok1 s x = true) : u.oneCell' = true :=
  hr.one (by cases x <;> simp_all [ok1, c1])
theorem cel_rep (h : RelX C s a w S Ow L) {x : AV} {u : Value} (hr : Rep w S Ow L [0] x u) (hk : (cel x).all (ok1 s) = true) :
    u.cells.size = (cel x).length ∧ (∀ v ∈ u.cells.toList, v.oneCell' = true) ∧ ∀ (i : Nat) (y : AV) (v : Value) (p : Path), (cel x)[i]? = some y → u.cells[i]? = some v → Rep w S Ow L p y v := by
  have any : ∀ (y : AV) (v : Value) (p p' : Path), (∃ q, p = 0 :: q) → Rep w S Ow L p y v → Rep w S Ow L p' y v := by
    rintro y v p p' ⟨q, rfl⟩ hy
    exact hy.names (fun _ => .inr (.inl rfl)) (fun b q' hq => absurd hq (h.ow0 b _))
  cases hx : x with
  | ag xs =>
    rw [hx] at hr hk
    obtain ⟨us, rfl, hl, hR⟩ := hr.ag_inv
    simp only [cel, List.all_eq_true] at hk ⊢
    refine ⟨by simpa [Value.cells] using hl, fun v hv => ?_, fun i y v p hy hv => ?_⟩
    · simp only [Value.cells] at hv
      obtain ⟨i, hi⟩ := List.getElem?_of_mem hv
      have hlt : i < xs.length := by have := (List.getElem?_eq_some_iff.1 hi).1; omega
      exact ok1_cell h (hR i xs[i] v (List.getElem?_eq_getElem hlt) hi) (hk _ (List.getElem_mem hlt))
    · exact any y v _ p ⟨_, rfl⟩ (hR i y v hy (by simpa [Value.cells] using hv))
  | tu xs => rw [hx] at hk; simp [cel, ok1] at hk
  | ow e z ys => rw [hx] at hk; simp [cel, ok1] at hk
  | _ =>
    rw [hx] at hr hk
    simp only [cel, List.all_cons, List.all_nil, Bool.and_true] at hk
    have h1 := ok1_cell h hr hk
    have e : u.cells = #[u] := by cases u <;> simp_all [Value.cells, Value.oneCell']
    refine ⟨by simp [e, cel], fun v hv => by rw [e] at hv; simp at hv; subst hv; exact h1, fun i y v p hy hv => ?_⟩
    rw [e] at hv
    have hi0 : i = 0 := by have := (Array.getElem?_eq_some_iff.1 hv).1; simpa using this
    subst hi0
    simp [cel] at hy hv
    subst hy hv
    exact any _ _ _ p ⟨_, rfl⟩ hr

theorem zc_run {t : TypeId} {z : List AV} {i : TI} (hz : zc P t = some z) (hi : ti P t = some i) : ∃ v, (zeroValue t).run P w = .ok v w ∧ v.cells.size = i.sz ∧ z = v.cells.toList.map .v ∧ ∀ x ∈ v.cells.toList, x.oneCell' = true := by
  unfold zc at hz
  unfold ti at hi
  split at hi
  · rename_i d i' hd hi'
    cases hi
    simp only [hi', Option.bind_some, Option.bind_eq_some_iff] at hz
    obtain ⟨v, hv, hz⟩ := hz
    split at hz
    · rename_i hc
      cases hz
      refine ⟨v, by simp [zeroValue, typeInfo, hi', hv], hc.2, rfl, fun x hx => ?_⟩
      have := hc.1
      rw [Array.all_eq_true_iff_forall_mem] at this
      exact this x (by simpa using hx)
    · cases hz
  · cases hi

theorem newVar_sound (h : RelX C s a w S Ow L) (t : TypeId) (u : Value) (xs : List AV) (hl : u.cells.size = xs.length) (hr : ∀ (i : Nat) (y : AV) (v : Value), xs[i]? = some y → u.cells[i]? = some v → Rep w S Ow L [0] y v) :
    ∃ w' Ow' L', (newVar t u).run P w = .ok ⟨w.heap.size, 0, none⟩ w' ∧ RelX C { s with bl := (s.nx, ⟨t, xs.length, [xs]⟩) :: s.bl, nx := s.nx + 1 } a w' S Ow' L' ∧ Rep w' S Ow' L' [0] (.pb s.nx xs.length 0 0) (.pointer (some ⟨w.heap.size, 0, none⟩)) := by
  obtain ⟨Ow', L', hR, hL, _⟩ := h.alloc ⟨t, xs.length, [xs]⟩ u.cells 1 (fun _ i => u.cells.getD i undef) (by simpa using hl) (by simp) (fun j row hj => by
      cases j with
      | zero => simp at hj; subst hj; rfl
      | succ j => simp at hj)
    (fun j row i x hj hi => by
      cases j with
      | succ j => simp at hj
      | zero =>
        simp at hj; subst hj
        have hlt : i < u.cells.size := by have := (List.getElem?_eq_some_iff.1 hi).1; omega
        simp [hlt])
    (fun j row i x hj hi => by
      cases j with
      | succ j => simp at hj
      | zero =>
        simp at hj; subst hj
        have hlt : i < u.cells.size := by have := (List.getElem?_eq_some_iff.1 hi).1; omega
        exact hr i x _ hi (by simp [hlt]))
  refine ⟨_, Ow', L', by simp [newVar, newRow], hR, ?_⟩
  have := Rep.pb (w := w.alloc (.cells u.cells t)) (S := S) (Ow := Ow') (L := L') (p := [0]) s.nx xs.length 0 0 w.heap.size 0 1 hL
  simpa using this

theorem blk_all {n : Nat} {k : Blk} {loc : Loc} {j : Nat} {row : List AV} (hB : BlkRep w S Ow L n k loc) (hj : k.xs[j]? = some row) : ∃ b o cap mp, loc = some (b, o, cap, mp) ∧ Ow b = some [n + 1] ∧ ∃ (cs : Array Value) (us : Nat → Nat → Value), w.heap[b]? = some (objOf mp k.xs.length cs k.e) ∧ cs.size = (o + cap) * k.sz ∧ k.xs.length ≤ cap ∧ (∀ (j : Nat) (row : List AV), k.xs[j]? = some row → row.length = k.sz) ∧
    (∀ (j : Nat) (row : List AV) (i : Nat) (x : AV), k.xs[j]? = some row → row[i]? = some x → cs[(o + j) * k.sz + i]? = some (us j i)) ∧ ∀ (j : Nat) (row : List AV) (i : Nat) (x : AV), k.xs[j]? = some row → row[i]? = some x → Rep w S Ow L [n + 1, j, i] x (us j i) := by
  cases loc with
  | none => rw [show k.xs = [] from hB] at hj; simp at hj
  | some l =>
    obtain ⟨b, o, cap, mp⟩ := l
    obtain ⟨h1, h2⟩ := hB
    exact ⟨b, o, cap, mp, rfl, h1, h2⟩
theorem blk_row {n : Nat} {k : Blk} {loc : Loc} {j : Nat} {row : List AV} (hB : BlkRep w S Ow L n k loc) (hj : k.xs[j]? = some row) : ∃ b o cap mp, loc = some (b, o, cap, mp) ∧ Ow b = some [n + 1] ∧ row.length = k.sz ∧ ∃ (cs : Array Value) (us : Nat → Value), w.heap[b]? = some (objOf mp k.xs.length cs k.e) ∧ (o + j) * k.sz + k.sz ≤ cs.size ∧
    (∀ (i : Nat) (x : AV), row[i]? = some x → cs[(o + j) * k.sz + i]? = some (us i)) ∧ ∀ (i : Nat) (x : AV), row[i]? = some x → Rep w S Ow L [n + 1, j, i] x (us i) := by
  cases loc with
  | none => rw [show k.xs = [] from hB] at hj; simp at hj
  | some l =>
    obtain ⟨b, o, cap, mp⟩ := l
    obtain ⟨h1, cs, us, h2, h3, h4, h5, h6, h7⟩ := hB
    have hlt : j < k.xs.length := (List.getElem?_eq_some_iff.1 hj).1
    refine ⟨b, o, cap, mp, rfl, h1, h5 j row hj, cs, us j, h2, ?_, fun i x hi => h6 j row i x hj hi, fun i x hi => h7 j row i x hj hi⟩
    rw [h3]
    have : (o + j) * k.sz + k.sz = (o + j + 1) * k.sz := by rw [Nat.succ_mul]
    rw [this]
    exact Nat.mul_le_mul_right _ (by omega)

def reown (n j i m : Nat) : Path → Path
  | a :: b :: c :: r => if a = n + 1 ∧ b = j ∧ c = i then (m + 1) :: r else a :: b :: c :: r
  | p => p
theorem reown_pre (n j i m : Nat) (q : Path) : reown n j i m ([n + 1, j, i] ++ q) = (m + 1) :: q := by simp [reown]
theorem reown_other {n j i m : Nat} {p : Path} (h : ∀ q, p ≠ [n + 1, j, i] ++ q) : reown n j i m p = p := by
  unfold reown
  split
  · rename_i a b c r
    split
    · rename_i e
      obtain ⟨rfl, rfl, rfl⟩ := e
      exact absurd rfl (h r)
    · rfl
  · rfl
theorem RelX.openOw (h : RelX C s a w S Ow L) {n j i : Nat} {b : Blk} {row : List AV} {e : TypeId} {z : Nat} {ys : List (List AV)} (hb : lb s.bl n = some b) (hrow : b.xs[j]? = some row) (hi : row[i]? = some (.ow e z ys)) :
    ∃ Ow' L' u, RelX C { s with bl := (s.nx, ⟨e, z, ys⟩) :: st s.bl n { b with xs := b.xs.set j (row.set i (.own s.nx z 0 ys.length)) }, nx := s.nx + 1 } a w S Ow' L' ∧ Rep w S Ow' L' [0] (.own s.nx z 0 ys.length) u ∧
      ∃ b' o' cap mp, L n = .at (some (b', o', cap, mp)) ∧ (mp = false → w.cell? ⟨b', (o' + j) * b.sz + i, none⟩ = some u) := by
  obtain ⟨loc, hl, hB⟩ := h.blk n b hb
  obtain ⟨b', o', cap, mp, rfl, g1, cs, us', g2, g3, g4, g5, g6, g7⟩ := blk_all hB hrow
  have hrl := g5 j row hrow
  have hne : n ≠ s.nx := fun e' => by
    have := h.fresh n (by omega)
    rw [hl] at this; cases this
  have hnx : n < s.nx := by
    rcases Nat.lt_or_ge n s.nx with g | g
    · exact g
    · have := h.fresh n g
      rw [hl] at this; cases this
  have hu := g7 j row i _ hrow hi
  -- where the inner slice lies
  obtain ⟨loc2, hloc2, hrep2⟩ : ∃ loc2 : Loc, (∀ Ow' L', (∀ k p, Ow k = some p → Ow' k = some (reown n j i s.nx p)) → L' s.nx = .at loc2 → BlkRep w S Ow' L' s.nx ⟨e, z, ys⟩ loc2) ∧ ∀ Ow' L', L' s.nx = .at loc2 → Rep w S Ow' L' [0] (.own s.nx z 0 ys.length) (us' j i) := by
    generalize us' j i = u at hu
    cases hu with
    | ow _ _ _ b2 o2 cap2 cs2 us2 ho2 hh2 hs2 hc2 hz2 hcell2 hr2 =>
      refine ⟨some (b2, o2, cap2, false), fun Ow' L' hOw hL' => ⟨?_, cs2, us2, hh2, hs2, hc2, hz2, hcell2, fun j' row' i' x hj' hi' => ?_⟩, fun Ow' L' hL' => ?_⟩
      · have := hOw _ _ ho2
        rw [this]
        simp [reown]
      · refine (hr2 j' row' i' x hj' hi').names (fun _ => .inl rfl) (fun k q hq => ?_)
        have := hOw k _ hq
        rw [this, List.append_assoc, reown_pre]
        rfl
      · have := Rep.own (w := w) (S := S) (Ow := Ow') (L := L') (p := [0]) s.nx z 0 ys.length b2 o2 cap2 hL' (by omega)
        simpa using this
    | ow_nil _ _ A => exact ⟨none, fun Ow' L' _ hL' => rfl, fun Ow' L' hL' => .own_nil s.nx z A hL'⟩
  let L' : Names := fun m => if m = s.nx then .at loc2 else L m
  let Ow' : Owners := fun k => (Ow k).map (reown n j i s.nx)
  have hOw : ∀ k p, Ow k = some p → Ow' k = some (reown n j i s.nx p) := fun k p hk => by simp [Ow', hk]
  have hLx : L' s.nx = .at loc2 := by simp [L']
  have hLn : ∀ m, L m = .free ∨ L' m = L m ∨ L' m = .gone := fun m => by
    by_cases e' : m = s.nx
    · exact .inl (h.fresh m (by omega))
    · exact .inr (.inl (by simp [L', e']))
  have hOk : ∀ (p : Path), (∀ q r, p ++ q ≠ [n + 1, j, i] ++ r) → ∀ k q, Ow k = some (p ++ q) → Ow' k = some (p ++ q) := fun p hp k q hk => by
    rw [hOw k _ hk, reown_other (fun r => hp q r)]
  refine ⟨Ow', L', us' j i, ?_, hrep2 Ow' L' hLx, b', o', cap, mp, hl, fun hmp => ?_⟩
  case refine_2 => subst hmp; rw [cell_of_row w b' _ cs b.e (0, 0) g2]; exact g6 j row i _ hrow hi
  refine { fix := fix_of h.fix hLn, keep := h.keep, inS := h.inS, upS := h.upS, ltS := h.ltS, owS := fun k hk => by simp [Ow', h.owS k hk], ow := fun k p hk => ?_, ow0 := fun k q hk => ?_, blk := ?_, fresh := ?_, named := ?_, freshO := ?_, slot := ?_, size := h.size, defers := h.defers }
  · simp only [Ow', Option.map_eq_some_iff] at hk
    obtain ⟨p', hp', _⟩ := hk
    exact h.ow k p' hp'
  · simp only [Ow', Option.map_eq_some_iff] at hk
    obtain ⟨p', hp', hq⟩ := hk
    unfold reown at hq
    split at hq
    · split at hq
      · cases hq
      · rw [hq] at hp'; exact h.ow0 k q hp'
    · rw [hq] at hp'; exact h.ow0 k q hp'
  · intro m kk hm
    by_cases e' : m = s.nx
    · subst e'
      simp only [lb, if_true, Option.some.injEq] at hm
      subst hm
      exact ⟨loc2, hLx, hloc2 Ow' L' hOw hLx⟩
    · simp only [lb, show ¬ s.nx = m from fun he => e' he.symm, if_false, lb_st] at hm
      by_cases e2 : n = m
      · subst e2
        rw [if_pos rfl, hb] at hm
        simp only [Option.map_some, Option.some.injEq] at hm
        subst hm
        refine ⟨some (b', o', cap, mp), by simp [L', hne, hl], ?_⟩
        refine ⟨by rw [hOw _ _ g1]; rfl, cs, us', by simpa using g2, g3, by simpa using g4, fun j' row' hj' => ?_, fun j' row' i' x hj' hi' => ?_, fun j' row' i' x hj' hi' => ?_⟩
        · rw [List.getElem?_set] at hj'
          split at hj'
          · split at hj'
            · cases hj'; simpa using hrl
            · cases hj'
          · exact g5 j' row' hj'
        · rw [List.getElem?_set] at hj'
          split at hj'
          · rename_i ej
            subst ej
            split at hj'
            · cases hj'
              have hlt : i' < row.length := by have := (List.getElem?_eq_some_iff.1 hi').1; simpa using this
              exact g6 j row i' row[i'] hrow (List.getElem?_eq_getElem hlt)
            · cases hj'
          · exact g6 j' row' i' x hj' hi'
        · have other : ∀ (j2 i2 : Nat) (x2 : AV) (u2 : Value), ¬ (j2 = j ∧ i2 = i) → Rep w S Ow L [n + 1, j2, i2] x2 u2 → Rep w S Ow' L' [n + 1, j2, i2] x2 u2 := fun j2 i2 x2 u2 hn2 hr2 =>
            hr2.names hLn (hOk [n + 1, j2, i2] (fun q r hq => by simp at hq; exact hn2 ⟨hq.1, hq.2.1⟩))
          rw [List.getElem?_set] at hj'
          split at hj'
          · rename_i ej
            subst ej
            split at hj'
            · cases hj'
              rw [List.getElem?_set] at hi'
              split at hi'
              · rename_i ei
                subst ei
                split at hi'
                · cases hi'
                  exact (hrep2 Ow' L' hLx).sim rfl
                · cases hi'
              · rename_i ei
                exact other j i' x _ (fun hh => ei hh.2.symm) (g7 j row i' x hrow hi')
            · cases hj'
          · rename_i ej
            exact other j' i' x _ (fun hh => ej hh.1.symm) (g7 j' row' i' x hj' hi')
      · rw [if_neg e2] at hm
        obtain ⟨loc3, hl3, hB3⟩ := h.blk m kk hm
        refine ⟨loc3, by simp [L', e', hl3], hB3.names hLn (fun k q hk => hOk [m + 1] (fun q' r hq => ?_) k q hk)⟩
        simp at hq
        exact e2 hq.1.symm
  · intro m hm
    have hm' : s.nx + 1 ≤ m := hm
    simp only [L', show m ≠ s.nx by omega, if_false]
    exact h.fresh m (by omega)
  · intro m hm
    have hm' : m < s.nx + 1 := hm
    by_cases e' : m = s.nx
    · simp [L', e']
    · simp only [L', e', if_false]; exact h.named m (by omega)
  · intro k m q hk
    simp only [Ow', Option.map_eq_some_iff] at hk
    obtain ⟨p', hp', hq⟩ := hk
    show m ≤ s.nx + 1
    unfold reown at hq
    split at hq
    · split at hq
      · cases hq; omega
      · rw [hq] at hp'; have := h.freshO k m q hp'; omega
    · rw [hq] at hp'; have := h.freshO k m q hp'; omega
  · intro t x hx
    obtain ⟨v, hv, hR⟩ := h.slot t x hx
    exact ⟨v, hv, hR.names hLn (fun k q hq => absurd hq (h.ow0 k q))⟩

def aload (P : Program) (s : AS) (t : TypeId) (x : Operand) : Option (AV × AS) :=
  match ev s x, ti P t with
  | some (.pb n sz j i), some k => match lb s.bl n with
    | some b => if b.sz = sz then match b.xs[j]? with
      | some row => if k.agg then (if ((row.drop i).take k.sz).all flat ∧ i + k.sz ≤ sz then some (.ag ((row.drop i).take k.sz), s) else none) else loadOne s n b j row i
      | none => none
      else none
    | none => none
  | some (.pi xs), some k => if k.agg then (if k.sz ≤ xs.length then some (.ag (xs.take k.sz), s) else none) else (xs[0]?).map fun y => (y, s)
  | _, _ => none

theorem load_cells (t : TypeId) (k : TI) (hi : ti P t = some k) (hk : k.agg = true) (ad : Addr) (us : List Value) (hl : us.length = k.sz) (hc : ∀ j v, us[j]? = some v → w.cell? (ad.add j) = some v) : (loadVar t ad).run P w = .ok (.agg us.toArray) w := by
  have := run_loadCells_list (P := P) w ad us hc
  rw [hl] at this
  simp [loadVar, ti_agg hi, hk, ti_size hi, this]
theorem load_cell (t : TypeId) (k : TI) (hi : ti P t = some k) (hk : k.agg = false) (ad : Addr) (u : Value) (hc : w.cell? ad = some u) : (loadVar t ad).run P w = .ok u w := by
  simp [loadVar, ti_agg hi, hk, hc]

theorem aload_sound (h : RelX C s a w S Ow L) {o : Oper} {t : TypeId} {p : Operand} (ho : o.op = .load t p) {x : AV} {s' : AS} (hx : aload P s t p = some (x, s')) :
    ∃ u Ow' L', (∀ w' : World, (∀ k, k < w.heap.size → w'.heap[k]? = w.heap[k]?) → (execOp a.eval o).run P w' = .ok (.value u) w') ∧ RelX C s' a w S Ow' L' ∧ Rep w S Ow' L' [0] x u := by
  have hexec : ∀ ad u, a.eval p = .pointer (some ad) → (∀ w' : World, (∀ k, k < w.heap.size → w'.heap[k]? = w.heap[k]?) → (loadVar t ad).run P w' = .ok u w') → ∀ w' : World, (∀ k, k < w.heap.size → w'.heap[k]? = w.heap[k]?) → (execOp a.eval o).run P w' = .ok (.value u) w' := fun ad u he hr w' hw' => by
    have hr := hr w' hw'
    unfold execOp
    simp [ho, Instr.loadAt, he, Instr.sureAddr, hr]
  unfold aload at hx
  split at hx
  · rename_i n sz j i k hp hi
    split at hx
    · rename_i b hb
      split at hx
      · rename_i hsz
        split at hx
        · rename_i row hrow
          obtain ⟨b', o', cap, hl, eu⟩ := pb_known h hb (ev_rep h hp)
          obtain ⟨loc, hl', hB⟩ := h.blk n b hb
          rw [hl] at hl'
          cases hl'
          obtain ⟨_, _, _, _, e1, hob, hrl, cs, us, hh, hfit, hcell, hrep⟩ := blk_row hB hrow
          cases e1
          subst hsz
          have hc0 : ∀ q y, row[q]? = some y → w.cell? ⟨b', (o' + j) * b.sz + q, none⟩ = some (us q) := fun q y hq => by
            rw [cell_of_row w b' _ cs b.e (0, 0) hh]; exact hcell q y hq
          have hbs : b' < w.heap.size := (h.ow b' _ hob).2
          have hc : ∀ w' : World, (∀ k, k < w.heap.size → w'.heap[k]? = w.heap[k]?) → ∀ q y, row[q]? = some y → w'.cell? ⟨b', (o' + j) * b.sz + q, none⟩ = some (us q) := fun w' hw' q y hq => (cell_of (p := ⟨b', (o' + j) * b.sz + q, none⟩) (hw' b' hbs)).trans (hc0 q y hq)
          split at hx
          · rename_i hag
            split at hx
            · rename_i hall
              simp only [Option.some.injEq, Prod.mk.injEq] at hx
              obtain ⟨rfl, rfl⟩ := hx
              have hlen : ((row.drop i).take k.sz).length = k.sz := by rw [List.length_take, List.length_drop]; omega
              refine ⟨.agg ((List.range k.sz).map fun q => us (i + q)).toArray, Ow, L, hexec _ _ eu (fun w2 hw2 => load_cells t k hi hag _ _ (by simp) (fun q v hq => ?_)), h, ?_⟩
              · have hlt : q < k.sz := by have := (List.getElem?_eq_some_iff.1 hq).1; simpa using this
                simp only [List.getElem?_map, List.getElem?_range hlt, Option.map_some, Option.some.injEq] at hq
                subst hq
                rw [Addr.add_lit, Nat.add_assoc]
                exact hc w2 hw2 (i + q) row[i + q] (List.getElem?_eq_getElem (by omega))
              · refine .ag _ _ (by simp [hlen]) (fun q y v hy hv => ?_)
                rw [List.getElem?_take] at hy
                split at hy
                · rename_i hq
                  rw [List.getElem?_drop] at hy
                  simp only [List.getElem?_map, List.getElem?_range hq, Option.map_some, Option.some.injEq] at hv
                  subst hv
                  refine (hrep _ y hy).flat ?_
                  have := hall.1
                  rw [List.all_eq_true] at this
                  exact this y (List.mem_of_getElem? (i := q) (by rw [List.getElem?_take, if_pos hq, List.getElem?_drop]; exact hy))
                · cases hy
            · cases hx
          · rename_i hag
            have hag : k.agg = false := by simpa using hag
            unfold loadOne at hx
            split at hx
            · rename_i e z ys hy
              simp only [Option.some.injEq, Prod.mk.injEq] at hx
              obtain ⟨rfl, rfl⟩ := hx
              obtain ⟨Ow', L', u, hR, hu, b2, o2, cap2, mp2, hl2, hc2⟩ := h.openOw hb hrow hy
              rw [hl] at hl2
              cases hl2
              replace hc2 := hc2 rfl
              exact ⟨u, Ow', L', hexec _ _ eu (fun w2 hw2 => load_cell t k hi hag _ _ ((cell_of (hw2 _ hbs)).trans hc2)), hR, hu⟩
            · rename_i y _ hy
              split at hx
              · rename_i hf
                simp only [Option.some.injEq, Prod.mk.injEq] at hx
                obtain ⟨rfl, rfl⟩ := hx
                exact ⟨us i, Ow, L, hexec _ _ eu (fun w2 hw2 => load_cell t k hi hag _ _ (hc w2 hw2 i _ hy)), h, (hrep i _ hy).flat hf⟩
              · cases hx
            · cases hx
        · cases hx
      · cases hx
    · cases hx
  · rename_i xs k hp hi
    obtain ⟨ad, eu, hI⟩ := (ev_rep h hp).pi_inv
    obtain ⟨hS, us, hcell, hrep⟩ := hI
    have hadd : ∀ q, ad.add q = ⟨ad.block, ad.off + q, none⟩ := fun q => by
      obtain ⟨bb, oo, sp⟩ := ad
      have : sp = none := hS.2.2
      subst this
      simp [Addr.add_lit]
    split at hx
    · rename_i hag
      split at hx
      · rename_i hall
        simp only [Option.some.injEq, Prod.mk.injEq] at hx
        obtain ⟨rfl, rfl⟩ := hx
        have hlen : (xs.take k.sz).length = k.sz := by rw [List.length_take]; omega
        refine ⟨.agg ((List.range k.sz).map us).toArray, Ow, L, hexec _ _ eu (fun w2 hw2 => load_cells t k hi hag _ _ (by simp) (fun q v hq => ?_)), h, ?_⟩
        · have hlt : q < k.sz := by have := (List.getElem?_eq_some_iff.1 hq).1; simpa using this
          simp only [List.getElem?_map, List.getElem?_range hlt, Option.map_some, Option.some.injEq] at hq
          subst hq
          rw [hadd]
          refine (cell_of (p := ⟨ad.block, ad.off + q, none⟩) (hw2 _ hS.2.1)).trans ?_
          exact hcell q xs[q] (List.getElem?_eq_getElem (by omega))
        · refine .ag _ _ (by simp [hlen]) (fun q y v hy hv => ?_)
          rw [List.getElem?_take] at hy
          split at hy
          · rename_i hq
            simp only [List.getElem?_map, List.getElem?_range hq, Option.map_some, Option.some.injEq] at hv
            subst hv
            exact (hrep _ y hy).any
          · cases hy
      · cases hx
    · rename_i hag
      have hag : k.agg = false := by simpa using hag
      simp only [Option.map_eq_some_iff, Prod.mk.injEq] at hx
      obtain ⟨y, hy, rfl, rfl⟩ := hx
      refine ⟨us 0, Ow, L, hexec _ _ eu (fun w2 hw2 => load_cell t k hi hag _ _ ((cell_of (hw2 _ hS.2.1)).trans ?_)), h, (hrep 0 y hy).any⟩
      have := hcell 0 y hy
      rwa [← hadd, Addr.add_zero'] at this
  · cases hx
end
end Go.Proofs.Ytejpklajfcngbaa.En
end
section
namespace Go.Proofs.Ytejpklajfcngbaa.En
open Go.RowKit
set_option linter.unusedSimpArgs false
set_option linter.unusedVariables false

theorem spl_get (row : List AV) (i : Nat) (ys : List AV) (h : i + ys.length ≤ row.length) (q : Nat) : (spl row i ys)[q]? = if i ≤ q ∧ q < i + ys.length then ys[q - i]? else row[q]? := by
  have general : (row.take i ++ ys ++ row.drop (i + ys.length))[q]? = if i ≤ q ∧ q < i + ys.length then ys[q - i]? else row[q]? := by
    have e : (row.take i).length = i := by rw [List.length_take]; omega
    by_cases h1 : q < i
    · rw [if_neg (by omega), List.append_assoc, List.getElem?_append_left (by omega), List.getElem?_take, if_pos h1]
    · by_cases h2 : q < i + ys.length
      · rw [if_pos ⟨by omega, h2⟩, List.append_assoc, List.getElem?_append_right (by omega), e, List.getElem?_append_left (by omega)]
      · rw [if_neg (by omega), List.getElem?_append_right (by rw [List.length_append]; omega), List.length_append, e, List.getElem?_drop]
        congr 1; omega
  unfold spl
  split
  · rename_i y
    rw [List.getElem?_set]
    by_cases e : i = q
    · subst e; simp at h; simp [show i < row.length by omega]
    · simp only [e, if_false]
      rw [if_neg (by simp; omega)]
  · exact general
theorem spl_length (row : List AV) (i : Nat) (ys : List AV) (h : i + ys.length ≤ row.length) : (spl row i ys).length = row.length := by
  unfold spl
  split
  · simp
  · simp; omega
theorem idx_far {o j j' sz i len i' : Nat} (hj : j' ≠ j) (hi' : i' < sz) (hi : i + len ≤ sz) : (o + j') * sz + i' < (o + j) * sz + i ∨ (o + j) * sz + i + len ≤ (o + j') * sz + i' := by
  rcases Nat.lt_or_gt_of_ne hj with h | h
  · left
    have : (o + j') * sz + sz ≤ (o + j) * sz := by rw [← Nat.succ_mul]; exact Nat.mul_le_mul_right _ (by omega)
    omega
  · right
    have : (o + j) * sz + sz ≤ (o + j') * sz := by rw [← Nat.succ_mul]; exact Nat.mul_le_mul_right _ (by omega)
    omega
theorem cut_get (cs : List Value) (off : Nat) (vs : List Value) (h : off + vs.length ≤ cs.length) (q : Nat) : (cs.take off ++ vs ++ cs.drop (off + vs.length)).toArray[q]? = if off ≤ q ∧ q < off + vs.length then vs[q - off]? else cs[q]? := by
  have e : (cs.take off).length = off := by rw [List.length_take]; omega
  simp only [List.getElem?_toArray]
  by_cases h1 : q < off
  · rw [if_neg (by omega), List.append_assoc, List.getElem?_append_left (by omega), List.getElem?_take, if_pos h1]
  · by_cases h2 : q < off + vs.length
    · rw [if_pos ⟨by omega, h2⟩, List.append_assoc, List.getElem?_append_right (by omega), e, List.getElem?_append_left (by omega)]
    · rw [if_neg (by omega), List.getElem?_append_right (by rw [List.length_append]; omega), List.length_append, e, List.getElem?_drop]
      congr 1; omega

section
variable {C : Ctx} {s : AS} {a : Act} {w : World} {S : Nat → Prop} {Ow : Owners} {L : Names} {P : Program}

theorem RelX.cells (h : RelX C s a w S Ow L) {n j i : Nat} {b : Blk} {row : List AV} (hb : lb s.bl n = some b) (hrow : b.xs[j]? = some row) (ys : List AV) (vs : List Value) (hl : vs.length = ys.length) (hfit : i + ys.length ≤ b.sz)
    (h1 : ∀ v ∈ vs, v.oneCell' = true) (hr : ∀ (q : Nat) (y : AV) (v : Value) (p : Path), ys[q]? = some y → vs[q]? = some v → Rep w S Ow L p y v) {b' o' cap : Nat} (hL : L n = .at (some (b', o', cap, false))) :
    ∃ w', (storeCells ⟨b', (o' + j) * b.sz + i, none⟩ vs).run P w = .ok () w' ∧ RelX C { s with bl := st s.bl n { b with xs := b.xs.set j (spl row i ys) } } a w' S Ow L := by
  obtain ⟨loc, hl', hB⟩ := h.blk n b hb
  rw [hL] at hl'
  cases hl'
  obtain ⟨hob, cs, us, hh, hcs, hxs, hz, hcell, hrep⟩ := hB
  have hrl := hz j row hrow
  have hj : j < b.xs.length := (List.getElem?_eq_some_iff.1 hrow).1
  have hroom : (o' + j) * b.sz + i + vs.length ≤ cs.size := by
    rw [hcs]
    have : (o' + j) * b.sz + b.sz ≤ (o' + cap) * b.sz := by rw [← Nat.succ_mul]; exact Nat.mul_le_mul_right _ (by omega)
    omega
  have hrun := run_storeCells_at (P := P) b' ((o' + j) * b.sz + i) b.e vs 0 cs w hh (by omega) h1
  simp only [Nat.add_zero] at hrun
  refine ⟨_, hrun, ?_⟩
  refine h.write n b _ b' o' cap hL hb _ rfl rfl rfl (by simp) (fun c hc => setRow_other w b' c _ hc) (fun _ mv => ?_)
  have hne : ∀ (j' i' : Nat) (x : AV) (u : Value), Rep w S Ow L [n + 1, j', i'] x u → Rep (w.setRow b' (cs.toList.take ((o' + j) * b.sz + i) ++ vs ++ cs.toList.drop ((o' + j) * b.sz + i + vs.length)).toArray) S Ow L [n + 1, j', i'] x u := fun j' i' x u hx =>
    mv _ x u (fun q hq => by rw [hob] at hq; simp at hq) hx
  refine ⟨hob, _, fun j' i' => if j' = j ∧ i ≤ i' ∧ i' < i + vs.length then vs.getD (i' - i) undef else us j' i', setRow_heap w b' cs _ b.e (0, 0) hh, ?_, by simpa using hxs, ?_, ?_, ?_⟩
  · simp; omega
  · intro j' row' hj'
    rw [List.getElem?_set] at hj'
    by_cases ej : j = j'
    · rw [if_pos ej, if_pos hj] at hj'
      cases hj'; show (spl row i ys).length = b.sz
      rw [spl_length _ _ _ (by omega)]; exact hrl
    · rw [if_neg ej] at hj'
      exact hz j' row' hj'
  · intro j' row' i' x hj' hi'
    dsimp only at hj' ⊢
    rw [cut_get _ _ _ (by simpa using hroom)]
    rw [List.getElem?_set] at hj'
    by_cases ej : j = j'
    · subst ej
      rw [if_pos rfl, if_pos hj] at hj'
      cases hj'
      rw [spl_get _ _ _ (by omega)] at hi'
      by_cases hin : i ≤ i' ∧ i' < i + ys.length
      · rw [if_pos hin] at hi'
        have hlt : i' - i < vs.length := by omega
        rw [if_pos (show (o' + j) * b.sz + i ≤ (o' + j) * b.sz + i' ∧ (o' + j) * b.sz + i' < (o' + j) * b.sz + i + vs.length by omega), if_pos (by omega), show (o' + j) * b.sz + i' - ((o' + j) * b.sz + i) = i' - i by omega]
        simp [hlt]
      · rw [if_neg hin] at hi'
        rw [if_neg (show ¬ ((o' + j) * b.sz + i ≤ (o' + j) * b.sz + i' ∧ (o' + j) * b.sz + i' < (o' + j) * b.sz + i + vs.length) by omega), if_neg (by omega)]
        simpa using hcell j row i' x hrow hi'
    · rw [if_neg ej] at hj'
      have hlt : i' < b.sz := by rw [← hz j' row' hj']; exact (List.getElem?_eq_some_iff.1 hi').1
      have hfar := idx_far (o := o') (j := j) (j' := j') (sz := b.sz) (i := i) (len := vs.length) (i' := i') (fun e => ej e.symm) hlt (by omega)
      rw [if_neg (show ¬ ((o' + j) * b.sz + i ≤ (o' + j') * b.sz + i' ∧ (o' + j') * b.sz + i' < (o' + j) * b.sz + i + vs.length) by omega), if_neg (by omega)]
      simpa using hcell j' row' i' x hj' hi'
  · intro j' row' i' x hj' hi'
    dsimp only at hj' ⊢
    rw [List.getElem?_set] at hj'
    by_cases ej : j = j'
    · subst ej
      rw [if_pos rfl, if_pos hj] at hj'
      cases hj'
      rw [spl_get _ _ _ (by omega)] at hi'
      by_cases hin : i ≤ i' ∧ i' < i + ys.length
      · rw [if_pos hin] at hi'
        have hlt : i' - i < vs.length := by omega
        rw [if_pos (by omega)]
        refine hne j i' x _ (hr (i' - i) x _ _ hi' (by simp [hlt]))
      · rw [if_neg hin] at hi'
        rw [if_neg (by omega)]
        exact hne j i' x _ (hrep j row i' x hrow hi')
    · rw [if_neg ej] at hj'
      rw [if_neg (by omega)]
      exact hne j' i' x _ (hrep j' row' i' x hj' hi')

def astore (P : Program) (s : AS) (t : TypeId) (p x : Operand) : Option AS :=
  match ev s p, ev s x, ti P t with
  | some (.pb n sz j i), some y, some k => match lb s.bl n with
    | some b => if b.sz = sz ∧ (cel y).length = k.sz ∧ (cel y).all (ok1 s) ∧ i + k.sz ≤ sz then (b.xs[j]?).map fun row => { s with bl := st s.bl n { b with xs := b.xs.set j (spl row i (cel y)) } } else none
    | none => none
  | _, _, _ => none
theorem astore_sound (h : RelX C s a w S Ow L) {o : Oper} {t : TypeId} {p x : Operand} (ho : o.op = .store t p x) {s' : AS} (hx : astore P s t p x = some s') :
    ∃ w', (execOp a.eval o).run P w = .ok .skip w' ∧ RelX C s' a w' S Ow L := by
  unfold astore at hx
  split at hx
  · rename_i n sz j i y k hp hy hi
    split at hx
    · rename_i b hb
      split at hx
      · rename_i hc
        simp only [Option.map_eq_some_iff] at hx
        obtain ⟨row, hrow, rfl⟩ := hx
        obtain ⟨hsz, hlen, hok, hfit⟩ := hc
        subst hsz
        obtain ⟨b', o', cap, hl, eu⟩ := pb_known h hb (ev_rep h hp)
        obtain ⟨hsize, hone, hrep⟩ := cel_rep h (ev_rep h hy) hok
        obtain ⟨w', hrun, hR⟩ := h.cells (P := P) (i := i) hb hrow (cel y) (a.eval x).cells.toList (by simpa using hsize) (by omega) hone (fun q y' v p' hy' hv => hrep q y' v p' hy' (by simpa using hv)) hl
        refine ⟨w', ?_, hR⟩
        unfold execOp
        simp [ho, Instr.storeAt, eu, Instr.sureAddr, storeVar, ti_size hi, hsize, hlen, hrun]
      · cases hx
    · cases hx
  · cases hx

def anew (s : AS) (t : TypeId) (xs : List AV) : AV × AS := (.pb s.nx xs.length 0 0, { s with bl := (s.nx, ⟨t, xs.length, [xs]⟩) :: s.bl, nx := s.nx + 1 })
def abox (s : AS) (t : TypeId) (x : Operand) : Option (AV × AS) :=
  match ev s x with
  | some y => if (cel y).all (ok1 s) then some (anew s t (cel y)) else none
  | none => none
theorem abox_sound (h : RelX C s a w S Ow L) {o : Oper} {t : TypeId} {x : Operand} (ho : o.op = .box t x) {y : AV} {s' : AS} (hx : abox s t x = some (y, s')) :
    ∃ u w' Ow' L', (execOp a.eval o).run P w = .ok (.value u) w' ∧ RelX C s' a w' S Ow' L' ∧ Rep w' S Ow' L' [0] y u := by
  unfold abox at hx
  split at hx
  · rename_i z hz
    split at hx
    · rename_i hok
      simp only [anew, Option.some.injEq, Prod.mk.injEq] at hx
      obtain ⟨rfl, rfl⟩ := hx
      obtain ⟨hsize, hone, hrep⟩ := cel_rep h (ev_rep h hz) hok
      obtain ⟨w', Ow', L', hrun, hR, hr⟩ := newVar_sound (P := P) h t (a.eval x) (cel z) hsize (fun i y v hy hv => hrep i y v _ hy hv)
      refine ⟨_, w', Ow', L', ?_, hR, hr⟩
      unfold execOp
      simp [ho, Instr.box, hrun]
    · cases hx
  · cases hx
def aalloc (P : Program) (s : AS) (t : TypeId) : Option (AV × AS) :=
  match zc P t, ti P t with
  | some z, some _ => some (anew s t z)
  | _, _ => none
theorem aalloc_sound (h : RelX C s a w S Ow L) {o : Oper} {t : TypeId} (ho : o.op = .alloc t) {y : AV} {s' : AS} (hx : aalloc P s t = some (y, s')) :
    ∃ u w' Ow' L', (execOp a.eval o).run P w = .ok (.value u) w' ∧ RelX C s' a w' S Ow' L' ∧ Rep w' S Ow' L' [0] y u := by
  unfold aalloc at hx
  split at hx
  · rename_i z i hz hi
    simp only [anew, Option.some.injEq, Prod.mk.injEq] at hx
    obtain ⟨rfl, rfl⟩ := hx
    obtain ⟨v, hv, hsz, hzz, hone⟩ := zc_run (w := w) hz hi
    obtain ⟨w', Ow', L', hrun, hR, hr⟩ := newVar_sound (P := P) h t v z (by rw [hzz]; simp) (fun i y v' hy hv' => by
      rw [hzz, List.getElem?_map, Option.map_eq_some_iff] at hy
      obtain ⟨x, hx, rfl⟩ := hy
      have : x = v' := by have e : v.cells[i]? = some x := by simpa using hx
                          rw [hv'] at e; exact (Option.some.inj e).symm
      subst this
      exact .v _ (hone x (List.mem_of_getElem? hx)))
    refine ⟨_, w', Ow', L', ?_, hR, hr⟩
    unfold execOp
    simp [ho, Instr.alloc, hv, hrun]
  · cases hx
end
end Go.Proofs.Ytejpklajfcngbaa.En
end
section
namespace Go.Proofs.Ytejpklajfcngbaa.En
open Go.RowKit
set_option linter.unusedSimpArgs false
set_option linter.unusedVariables false

section
variable {C : Ctx} {s : AS} {a : Act} {w : World} {S : Nat → Prop} {Ow : Owners} {L : Names} {P : Program}

theorem fold_set (off : Nat) : ∀ (vs : List Value) (k : Nat) (cs : Array Value) (q : Nat), off + k + vs.length ≤ cs.size →
    ((vs.zipIdx k).foldl (fun cs x => cs.setIfInBounds (off + x.2) x.1) cs).size = cs.size ∧
    ((vs.zipIdx k).foldl (fun cs x => cs.setIfInBounds (off + x.2) x.1) cs)[q]? = if off + k ≤ q ∧ q < off + k + vs.length then vs[q - (off + k)]? else cs[q]?
  | [], k, cs, q, h => by simp; intro h1 h2; omega
  | v :: r, k, cs, q, h => by
    simp only [List.length_cons] at h
    obtain ⟨h1, h2⟩ := fold_set off r (k + 1) (cs.setIfInBounds (off + k) v) q (by simp; omega)
    simp only [List.zipIdx_cons, List.foldl_cons]
    refine ⟨by rw [h1]; simp, ?_⟩
    rw [h2, Array.getElem?_setIfInBounds]
    by_cases e : off + k = q
    · subst e
      rw [if_neg (by omega), if_pos rfl, if_pos (by omega), if_pos (by simp), Nat.sub_self]
      rfl
    · by_cases hin : off + (k + 1) ≤ q ∧ q < off + (k + 1) + r.length
      · rw [if_pos hin, if_pos (by simp; omega), show q - (off + k) = (q - (off + (k + 1))) + 1 by omega, List.getElem?_cons_succ]
      · rw [if_neg hin, if_neg e, if_neg (by simp; omega)]

def fillA (place : Nat → Option (Nat × Nat)) (s : AS) : List AV → List (Nat × Operand) → Option (List AV)
  | zs, [] => some zs
  | zs, (i, x) :: r => match place i, ev s x with
    | some (off, size), some y => if (cel y).length = size ∧ (cel y).all (ok1 s) ∧ off + size ≤ zs.length then fillA place s (spl zs off (cel y)) r else none
    | _, _ => none
def Cells (w : World) (S : Nat → Prop) (Ow : Owners) (L : Names) (zs : List AV) (cs : Array Value) : Prop :=
  cs.size = zs.length ∧ ∀ (q : Nat) (x : AV) (u : Value), zs[q]? = some x → cs[q]? = some u → u.oneCell' = true ∧ Rep w S Ow L [0] x u
theorem fillA_sound (h : RelX C s a w S Ow L) (place : Nat → Option (Nat × Nat)) : ∀ (parts : List (Nat × Operand)) (zs zs' : List AV) (cs : Array Value), fillA place s zs parts = some zs' → Cells w S Ow L zs cs →
    ∃ cs', Instr.fill place cs (parts.map fun x => (x.1, a.eval x.2)) = some cs' ∧ Cells w S Ow L zs' cs'
  | [], zs, zs', cs, hf, hc => by
    simp only [fillA, Option.some.injEq] at hf
    subst hf
    exact ⟨cs, rfl, hc⟩
  | (i, x) :: r, zs, zs', cs, hf, hc => by
    simp only [fillA] at hf
    split at hf
    · rename_i off size y hp hy
      split at hf
      · rename_i hcond
        obtain ⟨hlen, hok, hfit⟩ := hcond
        obtain ⟨hsize, hone, hrep⟩ := cel_rep h (ev_rep h hy) hok
        have hvl : (a.eval x).cells.toList.length = size := by simp [hsize, hlen]
        have hfs := fun q => fold_set off (a.eval x).cells.toList 0 cs q (by rw [hvl, hc.1]; simpa using hfit)
        have hC : Cells w S Ow L (spl zs off (cel y)) (((a.eval x).cells.toList.zipIdx 0).foldl (fun cs x => cs.setIfInBounds (off + x.2) x.1) cs) := by
          refine ⟨by rw [(hfs 0).1, spl_length _ _ _ (by omega)]; exact hc.1, fun q z u hz hu => ?_⟩
          rw [spl_get _ _ _ (by omega)] at hz
          rw [(hfs q).2, hvl] at hu
          by_cases hin : off ≤ q ∧ q < off + (cel y).length
          · rw [if_pos hin] at hz
            rw [if_pos (by omega)] at hu
            simp only [Nat.add_zero] at hu
            exact ⟨hone u (List.mem_of_getElem? hu), hrep (q - off) z u _ hz (by simpa using hu)⟩
          · rw [if_neg hin] at hz
            rw [if_neg (by omega)] at hu
            exact hc.2 q z u hz hu
        obtain ⟨cs', hcs', hCs'⟩ := fillA_sound h place r _ zs' _ hf hC
        refine ⟨cs', ?_, hCs'⟩
        have hsz : (a.eval x).cells.size = size := by rw [hsize, hlen]
        have hle : ¬ (cs.size < off + size) := by rw [hc.1]; omega
        simp only [List.map_cons, Instr.fill, hp]
        rw [if_neg (by simp [hsz]; rw [hc.1]; omega)]
        rw [← hcs']
        congr 1
        rw [← Array.foldl_toList, Array.toList_zipIdx]
      · cases hf
    · cases hf

def plc (P : Program) (t : TypeId) : Option (Nat → Option (Nat × Nat)) :=
  match P.underlying t with
  | some (.struct fs) => (fs.toList.mapM fun f => (ti P f.type).map fun i => (f.offset, i.sz)).map fun l i => l[i]?
  | some (.array _ e) => (ti P e).map fun k i => some (i * k.sz, k.sz)
  | _ => none
theorem mapM_places : ∀ (fs : List Field) (l : List (Nat × Nat)), (fs.mapM fun f => (ti P f.type).map fun i => (f.offset, i.sz)) = some l → (fs.mapM fun f => Prod.mk f.offset <$> sizeOf f.type : Sem (List (Nat × Nat))).run P w = .ok l w
  | [], l, h => by simp at h; subst h; rfl
  | f :: fs, l, h => by
    simp only [List.mapM_cons, Option.bind_eq_bind, Option.bind_eq_some_iff, Option.map_eq_some_iff, Option.pure_def, Option.some.injEq] at h
    obtain ⟨x, ⟨i, hi, rfl⟩, ls, hls, rfl⟩ := h
    have h2 := mapM_places fs ls hls
    have h1 : (Prod.mk f.offset <$> sizeOf f.type : Sem (Nat × Nat)).run P w = .ok (f.offset, i.sz) w := by
      rw [← bind_pure_comp, Sem.run_bind, ti_size hi]; rfl
    rw [List.mapM_cons, Sem.run_bind, h1, Result.andThen_ok, Sem.run_bind, h2]
    rfl

def abuild (P : Program) (s : AS) (t : TypeId) (parts : Array (Nat × Operand)) : Option (AV × AS) :=
  match zc P t, ti P t, plc P t with
  | some z, some i, some p => if i.agg then (fillA p s z parts.toList).map fun zs => (.ag zs, s) else none
  | _, _, _ => none
theorem zc_cells {t : TypeId} {z : List AV} {i : TI} (hz : zc P t = some z) (hi : ti P t = some i) : ∃ v, (zeroValue t).run P w = .ok v w ∧ Cells w S Ow L z v.cells ∧ v.cells.size = i.sz ∧ z = v.cells.toList.map .v ∧ ∀ x ∈ v.cells.toList, x.oneCell' = true := by
  obtain ⟨v, hv, hsz, hzz, hone⟩ := zc_run (w := w) hz hi
  refine ⟨v, hv, ⟨by rw [hzz]; simp, fun q x u hx hu => ?_⟩, hsz, hzz, hone⟩
  rw [hzz, List.getElem?_map, Option.map_eq_some_iff] at hx
  obtain ⟨y, hy, rfl⟩ := hx
  have e : v.cells[q]? = some y := by simpa using hy
  rw [hu] at e
  cases e
  have := hone u (List.mem_of_getElem? hy)
  exact ⟨this, .v _ this⟩
theorem abuild_sound (h : RelX C s a w S Ow L) {o : Oper} {t : TypeId} {parts : Array (Nat × Operand)} (ho : o.op = .build t parts) {y : AV} {s' : AS} (hx : abuild P s t parts = some (y, s')) :
    ∃ u, s' = s ∧ (execOp a.eval o).run P w = .ok (.value u) w ∧ Rep w S Ow L [0] y u := by
  unfold abuild at hx
  split at hx
  · rename_i z i p hz hi hp
    split at hx
    · rename_i hag
      simp only [Option.map_eq_some_iff, Prod.mk.injEq] at hx
      obtain ⟨zs, hf, rfl, rfl⟩ := hx
      obtain ⟨v, hv, hC, _⟩ := zc_cells (w := w) (S := S) (Ow := Ow) (L := L) hz hi
      obtain ⟨cs', hcs', hC'⟩ := fillA_sound h p parts.toList z zs v.cells hf hC
      have hrep : Rep w S Ow L [0] (.ag zs) (.agg cs') := by
        have e : cs' = cs'.toList.toArray := by simp
        rw [e]
        refine .ag zs _ (by simpa using hC'.1) (fun q x u hx hu => ?_)
        have := (hC'.2 q x u hx (by simpa using hu)).2
        exact this.names (fun _ => .inr (.inl rfl)) (fun b q' hq => absurd hq (h.ow0 b _))
      refine ⟨.agg cs', rfl, ?_, hrep⟩
      have hpm : (parts.map fun x => (x.1, a.eval x.2)).toList = parts.toList.map fun x => (x.1, a.eval x.2) := by simp
      unfold plc at hp
      unfold execOp
      split at hp
      · rename_i fs hu
        simp only [Option.map_eq_some_iff] at hp
        obtain ⟨l, hl, rfl⟩ := hp
        have hm := mapM_places (P := P) (w := w) fs.toList l hl
        have hm2 : (fs.mapM fun f => Prod.mk f.offset <$> sizeOf f.type : Sem (Array (Nat × Nat))).run P w = .ok l.toArray w := by
          rw [Array.mapM_eq_mapM_toList, ← bind_pure_comp, Sem.run_bind, hm]
          rfl
        simp [ho, Instr.build, hv, run_underlying hu, hm2, hcs']
      · rename_i n e hu
        simp only [Option.map_eq_some_iff] at hp
        obtain ⟨k, hk, rfl⟩ := hp
        simp [ho, Instr.build, hv, run_underlying hu, ti_size hk, hcs']
      · cases hp
    · cases hx
  · cases hx

def chunk (sz n : Nat) (zs : List AV) : List (List AV) := (List.range n).map fun j => (zs.drop (j * sz)).take sz
theorem chunk_get {sz n j i : Nat} {zs row : List AV} {x : AV} (hj : (chunk sz n zs)[j]? = some row) (hi : row[i]? = some x) : j < n ∧ i < sz ∧ zs[j * sz + i]? = some x := by
  simp only [chunk, List.getElem?_map, Option.map_eq_some_iff] at hj
  obtain ⟨m, hm, rfl⟩ := hj
  have hlt : j < n := by have := (List.getElem?_eq_some_iff.1 hm).1; simpa using this
  rw [List.getElem?_range hlt] at hm
  cases hm
  rw [List.getElem?_take] at hi
  split at hi
  · rename_i h
    exact ⟨hlt, h, by simpa [List.getElem?_drop] using hi⟩
  · cases hi
theorem chunk_length (sz n : Nat) (zs : List AV) : (chunk sz n zs).length = n := by simp [chunk]

theorem newRow_sound (h : RelX C s a w S Ow L) (e : TypeId) (sz n cap : Nat) (zs : List AV) (cs : Array Value) (hC : Cells w S Ow L zs cs) (hz : zs.length = cap * sz) (hn : n ≤ cap) :
    ∃ w' Ow' L', (newRow e cs).run P w = .ok ⟨w.heap.size, 0, none⟩ w' ∧ RelX C { s with bl := (s.nx, ⟨e, sz, chunk sz n zs⟩) :: s.bl, nx := s.nx + 1 } a w' S Ow' L' ∧ Rep w' S Ow' L' [0] (.own s.nx sz 0 n) (.slice (some ⟨w.heap.size, 0, none⟩) n cap) := by
  obtain ⟨Ow', L', hR, hL, _⟩ := h.alloc ⟨e, sz, chunk sz n zs⟩ cs cap (fun j i => cs.getD (j * sz + i) undef) (by rw [hC.1, hz]) (by rw [chunk_length]; exact hn) (fun j row hj => by
      simp only [chunk, List.getElem?_map, Option.map_eq_some_iff] at hj
      obtain ⟨m, hm, rfl⟩ := hj
      have hlt : j < n := by have := (List.getElem?_eq_some_iff.1 hm).1; simpa using this
      rw [List.getElem?_range hlt] at hm
      cases hm
      show ((zs.drop (j * sz)).take sz).length = sz
      rw [List.length_take, List.length_drop, hz]
      have : j * sz + sz ≤ cap * sz := by rw [← Nat.succ_mul]; exact Nat.mul_le_mul_right _ (by omega)
      omega)
    (fun j row i x hj hi => by
      obtain ⟨_, _, hx⟩ := chunk_get hj hi
      have hlt : j * sz + i < cs.size := by rw [hC.1]; exact (List.getElem?_eq_some_iff.1 hx).1
      simp [hlt])
    (fun j row i x hj hi => by
      obtain ⟨_, _, hx⟩ := chunk_get hj hi
      have hlt : j * sz + i < cs.size := by rw [hC.1]; exact (List.getElem?_eq_some_iff.1 hx).1
      exact (hC.2 _ x _ hx (by simp [hlt])).2)
  refine ⟨_, Ow', L', by simp [newRow], hR, ?_⟩
  have := Rep.own (w := w.alloc (.cells cs e)) (S := S) (Ow := Ow') (L := L') (p := [0]) s.nx sz 0 n w.heap.size 0 cap hL (by omega)
  simpa using this

theorem rep_get (z : List AV) (n q : Nat) (hq : q < n * z.length) : (List.replicate n z).flatten[q]? = z[q % z.length]? := by
  induction n generalizing q with
  | zero => omega
  | succ n ih =>
    rw [List.replicate_succ, List.flatten_cons]
    by_cases h : q < z.length
    · rw [List.getElem?_append_left h, Nat.mod_eq_of_lt h]
    · rw [List.getElem?_append_right (by omega), ih _ (by rw [Nat.succ_mul] at hq; omega)]
      congr 1
      rw [← Nat.mod_eq_sub_mod (by omega)]
theorem zeros_cells {z : List AV} {v : Value} (n : Nat) (hC : Cells w S Ow L z v.cells) : Cells w S Ow L (List.replicate n z).flatten ((Array.range (n * v.cells.size)).map (v.cells[· % v.cells.size]!)) := by
  refine ⟨by simp [hC.1], fun q x u hx hu => ?_⟩
  have hq : q < n * z.length := by have := (List.getElem?_eq_some_iff.1 hx).1; simpa using this
  rw [rep_get z n q hq] at hx
  have hq2 : q < n * v.cells.size := by rw [hC.1]; exact hq
  simp only [Array.getElem?_map, Array.getElem?_range, hq2, if_true, Option.map_some, Option.some.injEq] at hu
  subst hu
  have hm : q % z.length < z.length := (List.getElem?_eq_some_iff.1 hx).1
  refine hC.2 _ x _ hx ?_
  rw [hC.1, getElem!_pos _ _ (by rw [hC.1]; exact hm)]
  simp [hC.1, hm]

def abuildSlice (P : Program) (s : AS) (t : TypeId) (len : Nat) (parts : Array (Nat × Operand)) : Option (AV × AS) :=
  match elT P t with
  | some e => match ti P e, zc P e with
    | some i, some z => if len * i.sz ≤ 65536 then (fillA (fun k => some (k * i.sz, i.sz)) s (List.replicate len z).flatten parts.toList).map fun zs => (.own s.nx i.sz 0 len, { s with bl := (s.nx, ⟨e, i.sz, chunk i.sz len zs⟩) :: s.bl, nx := s.nx + 1 }) else none
    | _, _ => none
  | none => none
theorem abuildSlice_sound (h : RelX C s a w S Ow L) {o : Oper} {t : TypeId} {len : Nat} {parts : Array (Nat × Operand)} (ho : o.op = .buildSlice t len parts) {y : AV} {s' : AS} (hx : abuildSlice P s t len parts = some (y, s')) :
    ∃ u w' Ow' L', (execOp a.eval o).run P w = .ok (.value u) w' ∧ RelX C s' a w' S Ow' L' ∧ Rep w' S Ow' L' [0] y u := by
  unfold abuildSlice at hx
  split at hx
  · rename_i e he
    split at hx
    · rename_i i z hi hz
      split at hx
      · rename_i hle
        simp only [Option.map_eq_some_iff, Prod.mk.injEq] at hx
        obtain ⟨zs, hf, rfl, rfl⟩ := hx
        obtain ⟨v, hv, hC, hvs, _⟩ := zc_cells (w := w) (S := S) (Ow := Ow) (L := L) hz hi
        have hZ := zeros_cells len hC
        obtain ⟨cs', hcs', hC'⟩ := fillA_sound h _ parts.toList _ zs _ hf hZ
        have hlen : zs.length = len * i.sz := by
          rw [← hC'.1]
          have hfs : ∀ (parts : List (Nat × Operand)) (zs zs' : List AV), fillA (fun k => some (k * i.sz, i.sz)) s zs parts = some zs' → zs'.length = zs.length := by
            intro parts
            induction parts with
            | nil => intro zs zs' hf; simp [fillA] at hf; rw [hf]
            | cons p r ih =>
              obtain ⟨k, x⟩ := p
              intro zs zs' hf
              simp only [fillA] at hf
              split at hf
              · split at hf
                · rename_i hc
                  rw [ih _ _ hf, spl_length _ _ _ (by omega)]
                · cases hf
              · cases hf
          rw [hC'.1, hfs _ _ _ hf]
          have : z.length = i.sz := by rw [← hC.1, hvs]
          simp [this]
        obtain ⟨w', Ow', L', hrun, hR, hr⟩ := newRow_sound (P := P) h e i.sz len len zs cs' hC' hlen (Nat.le_refl _)
        refine ⟨_, w', Ow', L', ?_, hR, hr⟩
        unfold execOp
        by_cases h0 : len * i.sz = 0
        · have e0 : (List.replicate len z).flatten = [] := by
            apply List.eq_nil_of_length_eq_zero
            have : z.length = i.sz := by rw [← hC.1, hvs]
            simp [this, h0]
          have e1 : ((Array.range (len * v.cells.size)).map (v.cells[· % v.cells.size]!)) = #[] := by rw [hvs, h0]; simp
          rw [e1] at hcs'
          have e3 : Array.range 0 = #[] := by simp [Array.range]
          simp [ho, Instr.buildSlice, run_underlying (elT_run he), ti_size hi, h0, hcs', hrun, e3]
        · rw [hvs] at hcs'
          simp [ho, Instr.buildSlice, run_underlying (elT_run he), ti_size hi, h0, hv, hvs, hcs', hrun, show ¬ (16777216 < len * i.sz) by omega]
      · cases hx
    · cases hx
  · cases hx

def amake (P : Program) (s : AS) (t : TypeId) (l c : Operand) : Option (AV × AS) :=
  match elT P t, ev s l, ev s c with
  | some e, some (.v (.int .i64 n)), some (.v (.int .i64 m)) => match ti P e, zc P e with
    | some i, some z => if 0 ≤ n ∧ n ≤ m ∧ i.bytes * m ≤ 281474976710656 ∧ m ≤ 281474976710656 then some (.own s.nx i.sz 0 n.toNat, { s with bl := (s.nx, ⟨e, i.sz, List.replicate n.toNat z⟩) :: s.bl, nx := s.nx + 1 }) else none
    | _, _ => none
  | _, _, _ => none
theorem chunk_rep (z : List AV) (n m : Nat) (h : n ≤ m) : chunk z.length n (List.replicate m z).flatten = List.replicate n z := by
  apply List.ext_getElem?
  intro j
  by_cases hj : j < n
  · simp only [chunk, List.getElem?_map, List.getElem?_range hj, Option.map_some, List.getElem?_replicate, hj, if_true, Option.some.injEq]
    apply List.ext_getElem?
    intro i
    rw [List.getElem?_take]
    by_cases hi : i < z.length
    · rw [if_pos hi, List.getElem?_drop, rep_get]
      · congr 1
        rw [Nat.mul_comm, Nat.mul_add_mod, Nat.mod_eq_of_lt hi]
      · have : (j + 1) * z.length ≤ m * z.length := Nat.mul_le_mul_right _ (by omega)
        rw [Nat.succ_mul] at this
        omega
    · rw [if_neg hi, List.getElem?_eq_none (by omega)]
  · simp [chunk, hj, List.getElem?_replicate]
theorem wr64_in {n : Int} (h0 : -9223372036854775808 ≤ n) (h1 : n ≤ 9223372036854775807) : IntKind.i64.wrap n = n := by
  rw [IntKind.wrap_i64]; omega
theorem amake_sound (h : RelX C s a w S Ow L) {o : Oper} {t : TypeId} {l c : Operand} (ho : o.op = .makeSlice t l c) {y : AV} {s' : AS} (hx : amake P s t l c = some (y, s')) :
    ∃ u w' Ow' L', (execOp a.eval o).run P w = .ok (.value u) w' ∧ RelX C s' a w' S Ow' L' ∧ Rep w' S Ow' L' [0] y u := by
  unfold amake at hx
  split at hx
  · rename_i e n m he hl hc
    split at hx
    · rename_i i z hi hz
      split at hx
      · rename_i hcond
        simp only [Option.some.injEq, Prod.mk.injEq] at hx
        obtain ⟨rfl, rfl⟩ := hx
        obtain ⟨h0, h1, h2, h3⟩ := hcond
        obtain ⟨el, _⟩ := (ev_rep h hl).v_inv
        obtain ⟨ec, _⟩ := (ev_rep h hc).v_inv
        obtain ⟨v, hv, hC, hvs, _⟩ := zc_cells (w := w) (S := S) (Ow := Ow) (L := L) hz hi
        have hzl : z.length = i.sz := by rw [← hC.1, hvs]
        have hZ := zeros_cells m.toNat hC
        obtain ⟨w', Ow', L', hrun, hR, hr⟩ := newRow_sound (P := P) h e i.sz n.toNat m.toNat _ _ hZ (by simp [hzl]) (by omega)
        rw [← hzl, chunk_rep z _ _ (by omega), hzl] at hR
        refine ⟨_, w', Ow', L', ?_, hR, hr⟩
        obtain ⟨i', hti, hb, hs⟩ := ti_bytes (w := w) hi
        unfold execOp
        have wn : IntKind.i64.wrap n = n := wr64_in (by omega) (by omega)
        have wm : IntKind.i64.wrap m = m := wr64_in (by omega) (by omega)
        have t1 : ¬ ((i.bytes : Int) * m > 281474976710656) := by omega
        by_cases hm0 : m.toNat * i.sz = 0
        · have e1 : ((Array.range (m.toNat * v.cells.size)).map (v.cells[· % v.cells.size]!)) = #[] := by rw [hvs, hm0]; simp [Array.range]
          rw [e1] at hrun
          have e3 : Array.range 0 = #[] := by simp [Array.range]
          simp [ho, Instr.makeSlice, run_underlying (elT_run he), el, ec, asInt, asIntOf, hti, hb, wn, wm, t1, ti_size hi, hm0, hrun, e3, show ¬ (m < 0) by omega, show ¬ (n < 0) by omega, show ¬ (m < n) by omega]
        · rw [hvs] at hrun
          simp [ho, Instr.makeSlice, run_underlying (elT_run he), el, ec, asInt, asIntOf, hti, hb, wn, wm, t1, ti_size hi, hm0, hrun, hv, hvs, show ¬ (m < 0) by omega, show ¬ (n < 0) by omega, show ¬ (m < n) by omega]
      · cases hx
    · cases hx
  · cases hx
end
end Go.Proofs.Ytejpklajfcngbaa.En
end
section
namespace Go.Proofs.Ytejpklajfcngbaa.En
open Go.RowKit
set_option linter.unusedSimpArgs false
set_option linter.unusedVariables false

section
variable {C : Ctx} {s : AS} {a : Act} {w : World} {S : Nat → Prop} {Ow : Owners} {L : Names} {P : Program}

def reow (n off m : Nat) : Path → Path
  | [] => []
  | [x] => if x = n + 1 then [m + 1] else [x]
  | x :: j :: r => if x = n + 1 ∧ off ≤ j then (m + 1) :: (j - off) :: r else x :: j :: r
theorem reow_head {n off m : Nat} {p q : Path} {x : Nat} (h : reow n off m p = x :: q) : x = m + 1 ∨ ∃ r, p = x :: r := by
  unfold reow at h
  split at h
  · cases h
  · split at h
    · cases h; exact .inl rfl
    · cases h; exact .inr ⟨_, rfl⟩
  · split at h
    · cases h; exact .inl rfl
    · cases h; exact .inr ⟨_, rfl⟩
theorem reow_other {n off m x : Nat} {q : Path} (h : x ≠ n + 1) : reow n off m (x :: q) = x :: q := by
  unfold reow
  cases q with
  | nil => simp [h]
  | cons j r => simp [h]

theorem RelX.rename (h : RelX C s a w S Ow L) {n sz off len : Nat} {k : Blk} {u : Value} (hk : lb s.bl n = some k) (hsz : k.sz = sz) (hfit : off + len ≤ k.xs.length) (hr : Rep w S Ow L [0] (.own n sz off len) u) :
    ∃ Ow' L' loc, RelX C { s with bl := (s.nx, { k with xs := (k.xs.drop off).take len }) :: rm s.bl n, nx := s.nx + 1 } a w S Ow' L' ∧ L' s.nx = .at loc ∧ Rep w S Ow' L' [0] (.own s.nx sz 0 len) u ∧ ∀ x v, Rep w S Ow L [0] x v → Rep w S Ow' L' [0] x v := by
  obtain ⟨loc, hl, hB⟩ := h.blk n k hk
  have hnx : n < s.nx := by
    rcases Nat.lt_or_ge n s.nx with g | g
    · exact g
    · have := h.fresh n g
      rw [hl] at this; cases this
  -- the new place
  obtain ⟨loc2, hloc2, hrep2⟩ : ∃ loc2 : Loc, (∀ Ow' L', (∀ b p, Ow b = some p → Ow' b = some (reow n off s.nx p)) → (∀ m, L m = .free ∨ L' m = L m ∨ L' m = .gone) → BlkRep w S Ow' L' s.nx { k with xs := (k.xs.drop off).take len } loc2) ∧ ∀ Ow' L', L' s.nx = .at loc2 → Rep w S Ow' L' [0] (.own s.nx sz 0 len) u := by
    have mk : ∀ b o cap, BlkRep w S Ow L n k (some (b, o, cap, false)) → off ≤ cap → off + len ≤ cap → ∀ Ow' L', (∀ b p, Ow b = some p → Ow' b = some (reow n off s.nx p)) → (∀ m, L m = .free ∨ L' m = L m ∨ L' m = .gone) → BlkRep w S Ow' L' s.nx { k with xs := (k.xs.drop off).take len } (some (b, o + off, cap - off, false)) := by
      intro b o cap hB hoc hlc Ow' L' hOw hLn
      obtain ⟨g1, cs, us, g2, g3, g4, g5, g6, g7⟩ := hB
      have sub : ∀ (j : Nat) (row : List AV), ((k.xs.drop off).take len)[j]? = some row → k.xs[off + j]? = some row := fun j row hj => by
        rw [List.getElem?_take] at hj
        split at hj
        · simpa [List.getElem?_drop] using hj
        · cases hj
      refine ⟨by rw [hOw _ _ g1]; simp [reow], cs, fun j i => us (off + j) i, g2, by rw [g3]; congr 1; omega, by simp; omega, fun j row hj => g5 _ row (sub j row hj), fun j row i x hj hi => ?_, fun j row i x hj hi => ?_⟩
      · have := g6 (off + j) row i x (sub j row hj) hi
        rw [← this]; simp only [Nat.add_assoc]
      · refine (g7 (off + j) row i x (sub j row hj) hi).names hLn (fun b q hb => ?_)
        rw [hOw _ _ hb]
        simp [reow]
    cases hr with
    | own _ _ _ _ b o cap hL hle =>
      rw [hl] at hL
      cases hL
      refine ⟨some (b, o + off, cap - off, false), mk b o cap hB (by omega) hle, fun Ow' L' hL' => ?_⟩
      have := Rep.own (w := w) (S := S) (Ow := Ow') (L := L') (p := [0]) s.nx sz 0 len b (o + off) (cap - off) hL' (by omega)
      simpa using this
    | own_end _ _ _ b o cap ad hL hle =>
      rw [hl] at hL
      cases hL
      exact ⟨some (b, o + off, cap - off, false), mk b o cap hB (by omega) (by omega), fun Ow' L' hL' => .own_end s.nx sz 0 b (o + off) (cap - off) ad hL' (by omega)⟩
    | own_nil _ _ A hL =>
      rw [hl] at hL
      cases hL
      exact ⟨none, fun Ow' L' _ _ => by show (k.xs.drop 0).take 0 = []; simp, fun Ow' L' hL' => .own_nil s.nx sz A hL'⟩
    | own_gone _ _ _ _ _ hL _ => rw [hl] at hL; cases hL
  let L' : Names := fun m => if m = s.nx then .at loc2 else if m = n then .gone else L m
  let Ow' : Owners := fun b => (Ow b).map (reow n off s.nx)
  have hOw : ∀ b p, Ow b = some p → Ow' b = some (reow n off s.nx p) := fun b p hb => by simp [Ow', hb]
  have hLx : L' s.nx = .at loc2 := by simp [L']
  have hLn : ∀ m, L m = .free ∨ L' m = L m ∨ L' m = .gone := fun m => by
    by_cases e : m = s.nx
    · exact .inl (h.fresh m (by omega))
    · by_cases e2 : m = n
      · exact .inr (.inr (by simp [L', e, e2]; omega))
      · exact .inr (.inl (by simp [L', e, e2]))
  refine ⟨Ow', L', loc2, ?_, hLx, hrep2 Ow' L' hLx, fun x v hx => hx.names hLn (fun b q hq => absurd hq (h.ow0 b q))⟩
  refine { fix := fix_of h.fix hLn, keep := h.keep, inS := h.inS, upS := h.upS, ltS := h.ltS, owS := fun b hb => by simp [Ow', h.owS b hb], ow := fun b p hb => ?_, ow0 := fun b q hb => ?_, blk := ?_, fresh := ?_, named := ?_, freshO := ?_, slot := ?_, size := h.size, defers := h.defers }
  · simp only [Ow', Option.map_eq_some_iff] at hb
    obtain ⟨p', hp', _⟩ := hb
    exact h.ow b p' hp'
  · simp only [Ow', Option.map_eq_some_iff] at hb
    obtain ⟨p', hp', hq⟩ := hb
    rcases reow_head hq with e | ⟨r, rfl⟩
    · cases e
    · exact h.ow0 b r hp'
  · intro m kk hm
    by_cases e : m = s.nx
    · subst e
      simp only [lb, if_true, Option.some.injEq] at hm
      subst hm
      exact ⟨loc2, hLx, hloc2 Ow' L' hOw hLn⟩
    · simp only [lb, show ¬ s.nx = m from fun he => e he.symm, if_false, lb_rm] at hm
      by_cases e2 : n = m
      · simp [e2] at hm
      · rw [if_neg e2] at hm
        obtain ⟨loc3, hl3, hB3⟩ := h.blk m kk hm
        refine ⟨loc3, by simp [L', e, show ¬ m = n from fun he => e2 he.symm, hl3], hB3.names hLn (fun b q hb => ?_)⟩
        rw [hOw _ _ hb, reow_other (by omega)]
  · intro m hm
    have hm' : s.nx + 1 ≤ m := hm
    simp only [L', show m ≠ s.nx by omega, show m ≠ n by omega, if_false]
    exact h.fresh m (by omega)
  · intro m hm
    have hm' : m < s.nx + 1 := hm
    by_cases e : m = s.nx
    · simp [L', e]
    · by_cases e2 : m = n
      · subst e2; simp [L', e]
      · simp only [L', e, e2, if_false]; exact h.named m (by omega)
  · intro b m q hb
    simp only [Ow', Option.map_eq_some_iff] at hb
    obtain ⟨p', hp', hq⟩ := hb
    show m ≤ s.nx + 1
    rcases reow_head hq with e | ⟨r, rfl⟩
    · omega
    · have := h.freshO b m r hp'; omega
  · intro t x hx
    obtain ⟨v, hv, hR⟩ := h.slot t x hx
    exact ⟨v, hv, hR.names hLn (fun b q hq => absurd hq (h.ow0 b q))⟩

def RowsR (w : World) (S : Nat → Prop) (Ow : Owners) (L : Names) (sz : Nat) (ys : List (List AV)) (vs : List Value) : Prop :=
  vs.length = ys.length * sz ∧ (∀ v ∈ vs, v.oneCell' = true) ∧ (∀ (j : Nat) (row : List AV), ys[j]? = some row → row.length = sz) ∧
    ∀ (j : Nat) (row : List AV) (i : Nat) (x : AV) (v : Value), ys[j]? = some row → row[i]? = some x → vs[j * sz + i]? = some v → Rep w S Ow L [0] x v

theorem app_get {ys xs : List (List AV)} {j : Nat} {row : List AV} (h : (xs ++ ys)[j]? = some row) : xs[j]? = some row ∨ (xs.length ≤ j ∧ ys[j - xs.length]? = some row) := by
  by_cases e : j < xs.length
  · rw [List.getElem?_append_left e] at h; exact .inl h
  · rw [List.getElem?_append_right (by omega)] at h; exact .inr ⟨by omega, h⟩

theorem RelX.extend (h : RelX C s a w S Ow L) {n : Nat} {k : Blk} {b o cap : Nat} (hk : lb s.bl n = some k) (hL : L n = .at (some (b, o, cap, false))) (ys : List (List AV)) (vs : List Value) (hR : RowsR w S Ow L k.sz ys vs) (hfit : k.xs.length + ys.length ≤ cap) :
    ∃ w', (storeCells ⟨b, (o + k.xs.length) * k.sz, none⟩ vs).run P w = .ok () w' ∧ RelX C { s with bl := st s.bl n { k with xs := k.xs ++ ys } } a w' S Ow L := by
  obtain ⟨loc, hl', hB⟩ := h.blk n k hk
  rw [hL] at hl'
  cases hl'
  obtain ⟨hob, cs, us, hh, hcs, hxs, hz, hcell, hrep⟩ := hB
  obtain ⟨hvl, h1, hyz, hyr⟩ := hR
  have hroom : (o + k.xs.length) * k.sz + vs.length ≤ cs.size := by
    rw [hcs, hvl, ← Nat.add_mul]
    exact Nat.mul_le_mul_right _ (by omega)
  have hrun := run_storeCells_at (P := P) b ((o + k.xs.length) * k.sz) k.e vs 0 cs w hh (by omega) h1
  simp only [Nat.add_zero] at hrun
  refine ⟨_, hrun, ?_⟩
  refine h.write n k _ b o cap hL hk _ rfl rfl rfl (by simp) (fun c hc => setRow_other w b c _ hc) (fun _ mv => ?_)
  have hne : ∀ (j' i' : Nat) (x : AV) (u : Value), Rep w S Ow L [n + 1, j', i'] x u → Rep _ S Ow L [n + 1, j', i'] x u := fun j' i' x u hx => mv _ x u (fun q hq => by rw [hob] at hq; simp at hq) hx
  refine ⟨hob, _, fun j i => if j < k.xs.length then us j i else vs.getD ((j - k.xs.length) * k.sz + i) undef, setRow_heap w b cs _ k.e (0, 0) hh, by simp; omega, by simp; omega, fun j row hj => ?_, fun j row i x hj hi => ?_, fun j row i x hj hi => ?_⟩
  · rcases app_get hj with g | ⟨_, g⟩
    · exact hz j row g
    · exact hyz _ row g
  · dsimp only at hj ⊢
    rw [cut_get _ _ _ (by simpa using hroom)]
    rcases app_get hj with g | ⟨g0, g⟩
    · have hlt : j < k.xs.length := (List.getElem?_eq_some_iff.1 g).1
      have hi' : i < k.sz := by rw [← hz j row g]; exact (List.getElem?_eq_some_iff.1 hi).1
      have : (o + j) * k.sz + k.sz ≤ (o + k.xs.length) * k.sz := by rw [← Nat.succ_mul]; exact Nat.mul_le_mul_right _ (by omega)
      rw [if_neg (by omega), if_pos hlt]
      simpa using hcell j row i x g hi
    · have hlt : j - k.xs.length < ys.length := (List.getElem?_eq_some_iff.1 g).1
      have hi' : i < k.sz := by rw [← hyz _ row g]; exact (List.getElem?_eq_some_iff.1 hi).1
      have e1 : (o + j) * k.sz = (o + k.xs.length) * k.sz + (j - k.xs.length) * k.sz := by rw [← Nat.add_mul]; congr 1; omega
      have e2 : (j - k.xs.length) * k.sz + k.sz ≤ ys.length * k.sz := by rw [← Nat.succ_mul]; exact Nat.mul_le_mul_right _ (by omega)
      rw [if_pos (by omega), if_neg (by omega), e1, show (o + k.xs.length) * k.sz + (j - k.xs.length) * k.sz + i - (o + k.xs.length) * k.sz = (j - k.xs.length) * k.sz + i by omega]
      have : (j - k.xs.length) * k.sz + i < vs.length := by omega
      simp [this]
  · dsimp only at hj ⊢
    rcases app_get hj with g | ⟨g0, g⟩
    · have hlt : j < k.xs.length := (List.getElem?_eq_some_iff.1 g).1
      rw [if_pos hlt]
      exact hne j i x _ (hrep j row i x g hi)
    · have hlt : j - k.xs.length < ys.length := (List.getElem?_eq_some_iff.1 g).1
      have hi' : i < k.sz := by rw [← hyz _ row g]; exact (List.getElem?_eq_some_iff.1 hi).1
      have e2 : (j - k.xs.length) * k.sz + k.sz ≤ ys.length * k.sz := by rw [← Nat.succ_mul]; exact Nat.mul_le_mul_right _ (by omega)
      rw [if_neg (by omega)]
      have : (j - k.xs.length) * k.sz + i < vs.length := by omega
      exact hne j i x _ ((hyr _ row i x _ g hi (by simp [this])).names (fun _ => .inr (.inl rfl)) (fun b q hq => absurd hq (h.ow0 b q)))

theorem row_cells {n : Nat} {k : Blk} {b o cap : Nat} (hB : BlkRep w S Ow L n k (some (b, o, cap, false))) :
    ∃ vs : List Value, vs.length = k.xs.length * k.sz ∧ (∀ j u, vs[j]? = some u → w.cell? ⟨b, o * k.sz + j, none⟩ = some u) ∧ ∀ (j : Nat) (row : List AV) (i : Nat) (x : AV) (v : Value), k.xs[j]? = some row → row[i]? = some x → vs[j * k.sz + i]? = some v → Rep w S Ow L [n + 1, j, i] x v := by
  obtain ⟨hob, cs, us, hh, hcs, hxs, hz, hcell, hrep⟩ := hB
  have hle : o * k.sz + k.xs.length * k.sz ≤ cs.size := by rw [hcs, ← Nat.add_mul]; exact Nat.mul_le_mul_right _ (by omega)
  refine ⟨(cs.toList.drop (o * k.sz)).take (k.xs.length * k.sz), by rw [List.length_take, List.length_drop, Array.length_toList]; omega, fun j u hu => ?_, fun j row i x v hj hi hv => ?_⟩
  · rw [List.getElem?_take] at hu
    split at hu
    · rw [cell_of_row w b _ cs k.e (0, 0) hh]
      simpa [List.getElem?_drop] using hu
    · cases hu
  · have hlt : j < k.xs.length := (List.getElem?_eq_some_iff.1 hj).1
    have hi' : i < k.sz := by rw [← hz j row hj]; exact (List.getElem?_eq_some_iff.1 hi).1
    have e2 : j * k.sz + k.sz ≤ k.xs.length * k.sz := by rw [← Nat.succ_mul]; exact Nat.mul_le_mul_right _ (by omega)
    rw [List.getElem?_take, if_pos (by omega), List.getElem?_drop] at hv
    have e3 := hcell j row i x hj hi
    rw [Nat.add_mul, Nat.add_assoc] at e3
    rw [show cs.toList[o * k.sz + (j * k.sz + i)]? = cs[o * k.sz + (j * k.sz + i)]? by simp, e3] at hv
    cases hv
    exact hrep j row i x hj hi

theorem RelX.reloc (h : RelX C s a w S Ow L) {n : Nat} {k : Blk} (hk : lb s.bl n = some k) (ys : List (List AV)) (olds news : List Value) (zs : Array Value) (cap : Nat) (hol : olds.length = k.xs.length * k.sz) (hzk : ∀ (j : Nat) (row : List AV), k.xs[j]? = some row → row.length = k.sz)
    (hor : ∀ (j : Nat) (row : List AV) (i : Nat) (x : AV) (v : Value), k.xs[j]? = some row → row[i]? = some x → olds[j * k.sz + i]? = some v → Rep w S Ow L [n + 1, j, i] x v) (hR : RowsR w S Ow L k.sz ys news) (hcap : k.xs.length + ys.length ≤ cap) (hzs : zs.size = (cap - (k.xs.length + ys.length)) * k.sz) :
    ∃ Ow' L', RelX C { s with bl := (s.nx, { k with xs := k.xs ++ ys }) :: rm s.bl n, nx := s.nx + 1 } a (w.alloc (.cells ((olds ++ news).toArray ++ zs) k.e)) S Ow' L' ∧ L' s.nx = .at (some (w.heap.size, 0, cap, false)) := by
  obtain ⟨loc, hl, hB⟩ := h.blk n k hk
  obtain ⟨hvl, h1, hyz, hyr⟩ := hR
  have hnx : n < s.nx := by
    rcases Nat.lt_or_ge n s.nx with g | g
    · exact g
    · have := h.fresh n g
      rw [hl] at this; cases this
  have hnew := heap_alloc_new w (Obj.cells ((olds ++ news).toArray ++ zs) k.e)
  generalize hO : Obj.cells ((olds ++ news).toArray ++ zs) k.e = ob at hnew ⊢
  have hb : ∀ b : Nat, b < w.heap.size → (w.alloc ob).heap[b]? = w.heap[b]? := fun b hb => heap_alloc_old w _ b hb
  have hsz : (w.alloc ob).heap.size = w.heap.size + 1 := by simp
  have hS : ∀ b : Nat, S b → (w.alloc ob).heap[b]? = w.heap[b]? := fun b hb' => hb b (h.ltS b hb')
  have hO' : ∀ (b : Nat) (p : Path), Ow b = some p → (w.alloc ob).heap[b]? = w.heap[b]? := fun b p hp => hb b (h.ow b p hp).2
  have hne : ∀ (b : Nat) (p : Path), Ow b = some p → b ≠ w.heap.size := fun b p hp => by have := (h.ow b p hp).2; omega
  let L' : Names := fun m => if m = s.nx then .at (some (w.heap.size, 0, cap, false)) else if m = n then .gone else L m
  let Ow' : Owners := fun b => if b = w.heap.size then some [s.nx + 1] else (Ow b).map (reow n 0 s.nx)
  have hOw : ∀ b p, Ow b = some p → Ow' b = some (reow n 0 s.nx p) := fun b p hp => by simp [Ow', hne b p hp, hp]
  have hLn : ∀ m, L m = .free ∨ L' m = L m ∨ L' m = .gone := fun m => by
    by_cases e : m = s.nx
    · exact .inl (h.fresh m (by omega))
    · by_cases e2 : m = n
      · exact .inr (.inr (by simp [L', e, e2]; omega))
      · exact .inr (.inl (by simp [L', e, e2]))
  have hkeep : Keep C.W C.X (w.alloc ob) := ⟨h.keep.os, h.keep.tape, h.keep.output, by have := h.keep.size; omega, fun b hb' hx => (hb b (by have := h.keep.size; omega)).trans (h.keep.block b hb' hx), h.keep.drawn⟩
  refine ⟨Ow', L', ?_, by simp [L']⟩
  refine { fix := fix_of h.fix hLn, keep := hkeep, inS := h.inS, upS := h.upS, ltS := fun b hb => by have := h.ltS b hb; omega, owS := fun b hb => ?_, ow := fun b p hp => ?_, ow0 := fun b q hp => ?_, blk := ?_, fresh := ?_, named := ?_, freshO := ?_, slot := ?_, size := h.size, defers := h.defers }
  · have := h.ltS b hb
    simp [Ow', show b ≠ w.heap.size by omega, h.owS b hb]
  · by_cases e : b = w.heap.size
    · subst e; exact ⟨.inl h.keep.size, by omega⟩
    · simp only [Ow', e, if_false, Option.map_eq_some_iff] at hp
      obtain ⟨p', hp', _⟩ := hp
      exact ⟨(h.ow b p' hp').1, by have := (h.ow b p' hp').2; omega⟩
  · by_cases e : b = w.heap.size
    · simp [Ow', e] at hp
    · simp only [Ow', e, if_false, Option.map_eq_some_iff] at hp
      obtain ⟨p', hp', hq⟩ := hp
      rcases reow_head hq with e | ⟨r, rfl⟩
      · cases e
      · exact h.ow0 b r hp'
  · intro m kk hm
    by_cases e : m = s.nx
    · subst e
      simp only [lb, if_true, Option.some.injEq] at hm
      subst hm
      have hov : (olds ++ news).length = (k.xs.length + ys.length) * k.sz := by rw [List.length_append, hol, hvl, Nat.add_mul]
      have hle : (k.xs.length + ys.length) * k.sz + (cap - (k.xs.length + ys.length)) * k.sz = cap * k.sz := by rw [← Nat.add_mul]; congr 1; omega
      refine ⟨some (w.heap.size, 0, cap, false), by simp [L'], by simp [Ow'], (olds ++ news).toArray ++ zs, fun j i => (olds ++ news).getD (j * k.sz + i) undef, by rw [hnew, ← hO]; rfl, ?_, by simpa using hcap, fun j row hj => ?_, fun j row i x hj hi => ?_, fun j row i x hj hi => ?_⟩
      · show ((olds ++ news).toArray ++ zs).size = (0 + cap) * k.sz
        rw [Nat.zero_add]
        simp only [Array.size_append, List.size_toArray, hov, hzs]; omega
      · rcases app_get hj with g | ⟨_, g⟩
        · exact hzk j row g
        · exact hyz _ row g
      · dsimp only at hj ⊢
        have hlt : j < k.xs.length + ys.length := by have := (List.getElem?_eq_some_iff.1 hj).1; simpa using this
        have hi' : i < k.sz := by
          rcases app_get hj with g | ⟨_, g⟩
          · rw [← hzk j row g]; exact (List.getElem?_eq_some_iff.1 hi).1
          · rw [← hyz _ row g]; exact (List.getElem?_eq_some_iff.1 hi).1
        have e2 : j * k.sz + k.sz ≤ (k.xs.length + ys.length) * k.sz := by rw [← Nat.succ_mul]; exact Nat.mul_le_mul_right _ (by omega)
        have hlt2 : j * k.sz + i < (olds ++ news).length := by omega
        rw [Nat.zero_add, Array.getElem?_append_left (by simpa using hlt2)]
        simp only [List.getElem?_toArray, List.getD_eq_getElem?_getD, List.getElem?_eq_getElem hlt2, Option.getD_some]
      · dsimp only at hj ⊢
        rcases app_get hj with g | ⟨g0, g⟩
        · have hlt : j < k.xs.length := (List.getElem?_eq_some_iff.1 g).1
          have hi' : i < k.sz := by rw [← hzk j row g]; exact (List.getElem?_eq_some_iff.1 hi).1
          have e2 : j * k.sz + k.sz ≤ k.xs.length * k.sz := by rw [← Nat.succ_mul]; exact Nat.mul_le_mul_right _ (by omega)
          have hlt2 : j * k.sz + i < olds.length := by omega
          have hv : olds[j * k.sz + i]? = some ((olds ++ news).getD (j * k.sz + i) undef) := by
            simp only [List.getD_eq_getElem?_getD, List.getElem?_append_left hlt2, List.getElem?_eq_getElem hlt2, Option.getD_some]
          refine ((hor j row i x _ g hi hv).world (by omega) (fun _ hk => hk) hS (fun b q hq => hO' b _ hq)).names hLn (fun b q hq => ?_)
          rw [hOw _ _ hq]
          simp [reow]
        · have hlt : j - k.xs.length < ys.length := (List.getElem?_eq_some_iff.1 g).1
          have hi' : i < k.sz := by rw [← hyz _ row g]; exact (List.getElem?_eq_some_iff.1 hi).1
          have e2 : (j - k.xs.length) * k.sz + k.sz ≤ ys.length * k.sz := by rw [← Nat.succ_mul]; exact Nat.mul_le_mul_right _ (by omega)
          have e3 : j * k.sz = k.xs.length * k.sz + (j - k.xs.length) * k.sz := by rw [← Nat.add_mul]; congr 1; omega
          have hlt2 : (j - k.xs.length) * k.sz + i < news.length := by omega
          have hv : news[(j - k.xs.length) * k.sz + i]? = some ((olds ++ news).getD (j * k.sz + i) undef) := by
            simp only [List.getD_eq_getElem?_getD]
            rw [List.getElem?_append_right (by omega), show j * k.sz + i - olds.length = (j - k.xs.length) * k.sz + i by omega, List.getElem?_eq_getElem hlt2, Option.getD_some]
          exact ((hyr _ row i x _ g hi hv).world (by omega) (fun _ hk => hk) hS (fun b q hq => absurd hq (h.ow0 b q))).names hLn (fun b q hq => absurd hq (h.ow0 b q))
    · simp only [lb, show ¬ s.nx = m from fun he => e he.symm, if_false, lb_rm] at hm
      by_cases e2 : n = m
      · simp [e2] at hm
      · rw [if_neg e2] at hm
        obtain ⟨loc3, hl3, hB3⟩ := h.blk m kk hm
        refine ⟨loc3, by simp [L', e, show ¬ m = n from fun he => e2 he.symm, hl3], (hB3.world (by omega) hS (fun b q hq => hO' b _ hq)).names hLn (fun b q hb => ?_)⟩
        rw [hOw _ _ hb, reow_other (by omega)]
  · intro m hm
    have hm' : s.nx + 1 ≤ m := hm
    simp only [L', show m ≠ s.nx by omega, show m ≠ n by omega, if_false]
    exact h.fresh m (by omega)
  · intro m hm
    have hm' : m < s.nx + 1 := hm
    by_cases e : m = s.nx
    · simp [L', e]
    · by_cases e2 : m = n
      · subst e2; simp [L', e]
      · simp only [L', e, e2, if_false]; exact h.named m (by omega)
  · intro b m q hb
    show m ≤ s.nx + 1
    by_cases e : b = w.heap.size
    · simp [Ow', e] at hb; omega
    · simp only [Ow', e, if_false, Option.map_eq_some_iff] at hb
      obtain ⟨p', hp', hq⟩ := hb
      rcases reow_head hq with e | ⟨r, rfl⟩
      · omega
      · have := h.freshO b m r hp'; omega
  · intro t x hx
    obtain ⟨v, hv, hR⟩ := h.slot t x hx
    exact ⟨v, hv, (hR.world (by omega) (fun _ hk => hk) hS (fun b q hq => absurd hq (h.ow0 b q))).names hLn (fun b q hq => absurd hq (h.ow0 b q))⟩

def srcRows (s : AS) (x : Operand) : Option (List (List AV)) :=
  match ev s x with
  | some (.im _ ys) => if ys.all (·.all c1) then some ys else none
  | some (.own m z off len) => match lb s.bl m with
    | some k => if k.sz = z ∧ off + len ≤ k.xs.length ∧ ((k.xs.drop off).take len).all (·.all flat) then some ((k.xs.drop off).take len) else none
    | none => none
  | some (.v (.slice none 0 0)) => some []
  | _ => none
def srcSz (s : AS) (x : Operand) (sz : Nat) : Bool :=
  match ev s x with
  | some (.im z _) | some (.own _ z _ _) => z == sz
  | _ => true
theorem src_sound (h : RelX C s a w S Ow L) {x : Operand} {ys : List (List AV)} {sz : Nat} {tx e' : TypeId} (hx : srcRows s x = some ys) (hz : srcSz s x sz = true) (ht : P.underlying tx = some (.slice e')) :
    ∃ vs, Src P sz tx (a.eval x) ys.length vs w ∧ RowsR w S Ow L sz ys vs := by
  unfold srcRows at hx
  unfold srcSz at hz
  split at hx
  · rename_i z ys' hy
    split at hx
    case isFalse => cases hx
    rename_i hall
    cases hx
    simp only [hy, beq_iff_eq] at hz
    subst hz
    have hr := ev_rep h hy
    have c1_ : ∀ (j : Nat) (row : List AV) (i : Nat) (x : AV), ys[j]? = some row → row[i]? = some x → c1 x = true := fun j row i x hj hi => by
      simp only [List.all_eq_true] at hall
      exact hall row (List.mem_of_getElem? hj) x (List.mem_of_getElem? hi)
    generalize a.eval x = u at hr
    cases hr with
    | im _ _ A c ad us hc ha hS hzr hcell hrr =>
      have hlen : ((List.range (ys.length * z)).map fun q => us (q / z) (q % z)).length = ys.length * z := by simp
      have getv : ∀ (q : Nat) (v : Value), ((List.range (ys.length * z)).map fun q => us (q / z) (q % z))[q]? = some v → q < ys.length * z ∧ v = us (q / z) (q % z) := fun q v hv => by
        simp only [List.getElem?_map, Option.map_eq_some_iff] at hv
        obtain ⟨m, hm, rfl⟩ := hv
        have hlt : q < ys.length * z := by have := (List.getElem?_eq_some_iff.1 hm).1; simpa using this
        rw [List.getElem?_range hlt] at hm
        cases hm
        exact ⟨hlt, rfl⟩
      have split_ : ∀ q, q < ys.length * z → ∃ row x, ys[q / z]? = some row ∧ row[q % z]? = some x := fun q hq => by
        have hz0 : 0 < z := by rcases Nat.eq_zero_or_pos z with e | e
                               · rw [e] at hq; omega
                               · exact e
        have h1 : q / z < ys.length := (Nat.div_lt_iff_lt_mul hz0).2 hq
        have h2 := hzr _ _ (List.getElem?_eq_getElem h1)
        have h3 : q % z < ys[q / z].length := by rw [h2]; exact Nat.mod_lt _ hz0
        exact ⟨_, _, List.getElem?_eq_getElem h1, List.getElem?_eq_getElem h3⟩
      refine ⟨(List.range (ys.length * z)).map fun q => us (q / z) (q % z), ?_, hlen, fun v hv => ?_, hzr, fun j row i y v hj hi hv => ?_⟩
      · have hone : ∀ u ∈ (List.range (ys.length * z)).map fun q => us (q / z) (q % z), u.oneCell' = true := fun v hv => by
          obtain ⟨q, hq⟩ := List.getElem?_of_mem hv
          obtain ⟨hlt, rfl⟩ := getv q v hq
          obtain ⟨row, y, hrow, hy'⟩ := split_ q hlt
          exact (hrr _ row _ y hrow hy').one (c1_ _ row _ y hrow hy')
        cases hys : ys with
        | nil =>
          subst hys
          cases A with
          | none => simpa using Src.ofNil (P := P) (w := w) (size := z) ht c
          | some ad' => exact Src.ofSlice w ht ad' 0 c _ (by simp) (fun j u hu => by simp at hu) (by simp)
        | cons y0 yr =>
          have hne : ys ≠ [] := by rw [hys]; simp
          rw [← hys, ha hne]
          refine Src.ofSlice w ht ad ys.length c _ (by simp) (fun q v hv => ?_) hone
          obtain ⟨hlt, rfl⟩ := getv q v hv
          obtain ⟨row, y, hrow, hy'⟩ := split_ q hlt
          have hz0 : 0 < z := by rcases Nat.eq_zero_or_pos z with e | e
                                 · rw [e] at hlt; omega
                                 · exact e
          have := hcell _ row _ y hrow hy'
          have e1 : q / z * z + q % z = q := by rw [Nat.mul_comm]; exact Nat.div_add_mod q z
          rw [e1] at this
          have hsp := (hS hne).2.2
          have : ad.add q = ⟨ad.block, ad.off + q, none⟩ := by
            obtain ⟨bb, oo, sp⟩ := ad
            simp at hsp; subst hsp
            simp [Addr.add_lit]
          rw [this]; assumption
      · obtain ⟨q, hq⟩ := List.getElem?_of_mem hv
        obtain ⟨hlt, rfl⟩ := getv q v hq
        obtain ⟨row, y, hrow, hy'⟩ := split_ q hlt
        exact (hrr _ row _ y hrow hy').one (c1_ _ row _ y hrow hy')
      · obtain ⟨hlt, rfl⟩ := getv _ v hv
        have hi' : i < z := by rw [← hzr j row hj]; exact (List.getElem?_eq_some_iff.1 hi).1
        have hz0 : 0 < z := by omega
        have e1 : (j * z + i) / z = j := by rw [Nat.mul_comm, Nat.mul_add_div hz0, Nat.div_eq_of_lt hi', Nat.add_zero]
        have e2 : (j * z + i) % z = i := by rw [Nat.mul_comm, Nat.mul_add_mod, Nat.mod_eq_of_lt hi']
        rw [e1, e2]
        exact (hrr j row i y hj hi).any
  · rename_i m z off len hy
    split at hx
    · rename_i k hk
      split at hx
      · rename_i hc
        cases hx
        obtain ⟨hkz, hfit, hall⟩ := hc
        simp only [hy, beq_iff_eq] at hz
        subst hz
        have hr := ev_rep h hy
        generalize a.eval x = u at hr
        have fl : ∀ (j : Nat) (row : List AV) (i : Nat) (y : AV), ((k.xs.drop off).take len)[j]? = some row → row[i]? = some y → flat y = true := fun j row i y hj hi => by
          simp only [List.all_eq_true] at hall
          exact hall row (List.mem_of_getElem? hj) y (List.mem_of_getElem? hi)
        have fc : ∀ y, flat y = true → c1 y = true := fun y hf => by cases y <;> simp_all [flat, c1]
        have hlen : ((k.xs.drop off).take len).length = len := by rw [List.length_take, List.length_drop]; omega
        have sub : ∀ (j : Nat) (row : List AV), ((k.xs.drop off).take len)[j]? = some row → k.xs[off + j]? = some row := fun j row hj => by
          rw [List.getElem?_take] at hj
          split at hj
          · simpa [List.getElem?_drop] using hj
          · cases hj
        obtain ⟨loc, hl, hB⟩ := h.blk m k hk
        subst hkz
        have none_ : len = 0 → ∀ c, (∃ A, u = .slice A 0 c) → ∃ vs, Src P k.sz tx u ((k.xs.drop off).take len).length vs w ∧ RowsR w S Ow L k.sz ((k.xs.drop off).take len) vs := fun h0 c hA => by
          subst h0
          obtain ⟨A, rfl⟩ := hA
          refine ⟨[], ?_, by simp, by simp, by simp, by simp⟩
          cases A with
          | none => simpa using Src.ofNil (P := P) (w := w) (size := k.sz) ht c
          | some ad => simpa using Src.ofSlice w ht ad 0 c [] (by simp) (fun j u hu => by simp at hu) (by simp)
        cases hr with
        | own _ _ _ _ b o cap hL hle =>
          rw [hl] at hL
          cases hL
          obtain ⟨hob, cs, us, hh, hcs, hxs, hz, hcell, hrep⟩ := hB
          have hroom : (o + off) * k.sz + len * k.sz ≤ cs.size := by rw [hcs, ← Nat.add_mul]; exact Nat.mul_le_mul_right _ (by omega)
          have getv : ∀ (q : Nat) (v : Value), ((cs.toList.drop ((o + off) * k.sz)).take (len * k.sz))[q]? = some v → q < len * k.sz ∧ cs[(o + off) * k.sz + q]? = some v := fun q v hv => by
            rw [List.getElem?_take] at hv
            split at hv
            · rename_i hq; exact ⟨hq, by simpa [List.getElem?_drop] using hv⟩
            · cases hv
          have rep_ : ∀ (q : Nat) (v : Value), ((cs.toList.drop ((o + off) * k.sz)).take (len * k.sz))[q]? = some v → ∃ (j : Nat) (row : List AV) (i : Nat) (y : AV), ((k.xs.drop off).take len)[j]? = some row ∧ row[i]? = some y ∧ Rep w S Ow L [m + 1, off + j, i] y v := fun q v hv => by
            obtain ⟨hq, hc⟩ := getv q v hv
            have hz0 : 0 < k.sz := by rcases Nat.eq_zero_or_pos k.sz with e | e
                                      · rw [e] at hq; omega
                                      · exact e
            have h1 : q / k.sz < len := (Nat.div_lt_iff_lt_mul hz0).2 hq
            have hrow := List.getElem?_eq_getElem (show q / k.sz < ((k.xs.drop off).take len).length by omega)
            have h2 := hz _ _ (sub _ _ hrow)
            have h3 : q % k.sz < (((k.xs.drop off).take len)[q / k.sz]'(by omega)).length := by rw [h2]; exact Nat.mod_lt _ hz0
            refine ⟨_, _, q % k.sz, _, hrow, List.getElem?_eq_getElem h3, ?_⟩
            have g := hcell _ _ _ _ (sub _ _ hrow) (List.getElem?_eq_getElem h3)
            have e1 : (o + (off + q / k.sz)) * k.sz + q % k.sz = (o + off) * k.sz + q := by
              rw [← Nat.add_assoc, Nat.add_mul, Nat.add_assoc]; congr 1
              rw [Nat.mul_comm]; exact Nat.div_add_mod q k.sz
            rw [e1, hc] at g
            cases g
            exact hrep _ _ _ _ (sub _ _ hrow) (List.getElem?_eq_getElem h3)
          have hone : ∀ v ∈ (cs.toList.drop ((o + off) * k.sz)).take (len * k.sz), v.oneCell' = true := fun v hv => by
            obtain ⟨q, hq⟩ := List.getElem?_of_mem hv
            obtain ⟨j, row, i, y, hj, hi, hR⟩ := rep_ q v hq
            exact hR.one (fc _ (fl j row i y hj hi))
          have hvl : ((cs.toList.drop ((o + off) * k.sz)).take (len * k.sz)).length = len * k.sz := by rw [List.length_take, List.length_drop, Array.length_toList]; omega
          refine ⟨_, ?_, by rw [hvl, hlen], hone, fun j row hj => hz _ row (sub j row hj), fun j row i y v hj hi hv => ?_⟩
          · rw [hlen]
            refine Src.ofSlice w ht ⟨b, (o + off) * k.sz, none⟩ len (cap - off) _ hvl (fun q v hv => ?_) hone
            rw [Addr.add_lit, cell_of_row w b _ cs k.e (0, 0) hh]
            exact (getv q v hv).2
          · have g := hcell _ _ _ _ (sub j row hj) hi
            obtain ⟨_, hc⟩ := getv _ v hv
            have e1 : (o + (off + j)) * k.sz + i = (o + off) * k.sz + (j * k.sz + i) := by rw [← Nat.add_assoc, Nat.add_mul, Nat.add_assoc]
            rw [e1, hc] at g
            cases g
            exact (hrep _ _ _ _ (sub j row hj) hi).flat (fl j row i y hj hi)
        | own_end _ _ _ b o cap ad hL hle => exact none_ rfl 0 ⟨_, rfl⟩
        | own_nil _ _ _ hL => exact none_ rfl 0 ⟨_, rfl⟩
        | own_gone _ _ _ _ _ hg _ => rw [hl] at hg; cases hg
      · cases hx
    · cases hx
  · rename_i hy
    cases hx
    obtain ⟨e, _⟩ := (ev_rep h hy).v_inv
    rw [e]
    exact ⟨[], by simpa using Src.ofNil (P := P) (w := w) (size := sz) ht 0, by simp, by simp, by simp, by simp⟩
  · cases hx
end
end Go.Proofs.Ytejpklajfcngbaa.En
end
section
namespace Go.Proofs.Ytejpklajfcngbaa.En
open Go.RowKit
set_option linter.unusedSimpArgs false
set_option linter.unusedVariables false

section
variable {C : Ctx} {s : AS} {a : Act} {w : World} {S : Nat → Prop} {Ow : Owners} {L : Names} {P : Program}

def aappend (P : Program) (s : AS) (x y : Operand) (t tx : TypeId) : Option (AV × AS) :=
  match elT P t, elT P tx, srcRows s y, ev s x with
  | some e, some _, some ys, some (.own n sz off len) => match ti P e, zc P e, lb s.bl n with
    | some i, some _, some k => if srcSz s y sz = true ∧ k.sz = sz ∧ sz = i.sz ∧ k.e = e ∧ off + len ≤ k.xs.length ∧ 1 ≤ i.bytes ∧ (len + ys.length) * i.bytes ≤ 140737488355328 then
        some (.own (s.nx + 1) sz 0 (len + ys.length), { s with bl := (s.nx + 1, { k with xs := (k.xs.drop off).take len ++ ys }) :: rm (rm s.bl n) s.nx, nx := s.nx + 2 }) else none
    | _, _, _ => none
  | some e, some _, some ys, some (.v (.slice none 0 0)) => match ti P e, zc P e with
    | some i, some _ => if srcSz s y i.sz = true ∧ 1 ≤ i.bytes ∧ ys.length * i.bytes ≤ 140737488355328 then some (.own s.nx i.sz 0 ys.length, { s with bl := (s.nx, ⟨e, i.sz, ys⟩) :: s.bl, nx := s.nx + 1 }) else none
    | _, _ => none
  | _, _, _, _ => none

theorem ti_info {t : TypeId} {i : TI} (h : ti P t = some i) : ∃ i', P.info? t = some i' ∧ i'.size = i.sz ∧ i'.bytes = i.bytes := by
  unfold ti at h
  split at h
  · rename_i d i' hd hi; cases h; exact ⟨i', hi, rfl, rfl⟩
  · cases h
theorem zc_zero {t : TypeId} {z : List AV} {i : TypeInfo} (h : zc P t = some z) (hi : P.info? t = some i) : ∃ v, i.zero = some v ∧ v.cells.size = i.size := by
  unfold zc at h
  simp only [hi, Option.bind_some, Option.bind_eq_some_iff] at h
  obtain ⟨v, hv, h⟩ := h
  split at h
  · rename_i hc; exact ⟨v, hv, hc.2⟩
  · cases h
theorem zeroCells_size (z : Array Value) (n : Nat) : (Builtin.zeroCells z n).size = n * z.size := by simp [Builtin.zeroCells]

theorem rm_rm (l : List (Nat × Blk)) (m : Nat) (x : Blk) : rm ((m, x) :: l) m = rm l m := by simp [rm]
theorem own_inv {p : Path} {n sz off len : Nat} {u : Value} (hr : Rep w S Ow L p (.own n sz off len) u) : (∃ b o cap, L n = .at (some (b, o, cap, false)) ∧ off + len ≤ cap ∧ u = .slice (some ⟨b, (o + off) * sz, none⟩) len (cap - off)) ∨
    (∃ b o cap ad, L n = .at (some (b, o, cap, false)) ∧ off = cap ∧ len = 0 ∧ u = .slice (some ad) 0 0) ∨ (L n = .at none ∧ off = 0 ∧ len = 0 ∧ ∃ A, u = .slice A 0 0) ∨ L n = .gone := by
  cases hr with
  | own _ _ _ _ b o cap hL hle => exact .inl ⟨b, o, cap, hL, hle, rfl⟩
  | own_end _ _ _ b o cap ad hL hle => exact .inr (.inl ⟨b, o, cap, ad, hL, hle, rfl, rfl⟩)
  | own_nil _ _ A hL => exact .inr (.inr (.inl ⟨hL, rfl, rfl, A, rfl⟩))
  | own_gone _ _ _ _ _ hL _ => exact .inr (.inr (.inr hL))

theorem grow (h : RelX C s a w S Ow L) {n : Nat} {k : Blk} {u : Value} (hk : lb s.bl n = some k) (hr : Rep w S Ow L [0] (.own n k.sz 0 k.xs.length) u) {i : TI} {z : List AV} {t tx : TypeId} (ht : elT P t = some k.e) (hi : ti P k.e = some i) (hsz : k.sz = i.sz) (hz : zc P k.e = some z)
    {ys : List (List AV)} {vs : List Value} {x : Value} (hs : Src P k.sz tx x ys.length vs w) (hR : RowsR w S Ow L k.sz ys vs) (hb : 1 ≤ i.bytes) (hfit : (k.xs.length + ys.length) * i.bytes ≤ 140737488355328) (ty : TypeId) :
    ∃ u' w' Ow' L', (Builtin.append_ #[t, tx] ty #[u, x]).run P w = .ok u' w' ∧ RelX C { s with bl := (s.nx, { k with xs := k.xs ++ ys }) :: rm s.bl n, nx := s.nx + 1 } a w' S Ow' L' ∧ Rep w' S Ow' L' [0] (.own s.nx k.sz 0 (k.xs.length + ys.length)) u' := by
  obtain ⟨i', hi', his, hib⟩ := ti_info hi
  obtain ⟨zv, hzv, hzs⟩ := zc_zero hz hi'
  have ht' := elT_run ht
  obtain ⟨loc, hl, hB⟩ := h.blk n k hk
  have hs' : Src P i'.size tx x ys.length vs w := by rw [his, ← hsz]; exact hs
  have hle1 : k.xs.length + ys.length ≤ 140737488355328 := Nat.le_trans (Nat.le_mul_of_pos_right _ hb) hfit
  have hgrow : ∀ cap, cap < k.xs.length + ys.length → Builtin.nextslicecap (k.xs.length + ys.length) cap * i'.bytes ≤ 281474976710656 := fun cap hc => growslice_fits hc (by rw [hib]; exact hfit)
  -- the new row, out of cells that are known
  have grown : ∀ (A : Option Addr) (cap : Nat) (olds : List Value), u = .slice A k.xs.length cap → cap < k.xs.length + ys.length → (Builtin.firstCells i'.size k.xs.length (.slice A k.xs.length cap)).run P w.drew = .ok olds.toArray w.drew → olds.length = k.xs.length * k.sz →
      (∀ (j : Nat) (row : List AV), k.xs[j]? = some row → row.length = k.sz) → (∀ (j : Nat) (row : List AV) (i : Nat) (x : AV) (v : Value), k.xs[j]? = some row → row[i]? = some x → olds[j * k.sz + i]? = some v → Rep w S Ow L [n + 1, j, i] x v) →
      ∃ u' w' Ow' L', (Builtin.append_ #[t, tx] ty #[u, x]).run P w = .ok u' w' ∧ RelX C { s with bl := (s.nx, { k with xs := k.xs ++ ys }) :: rm s.bl n, nx := s.nx + 1 } a w' S Ow' L' ∧ Rep w' S Ow' L' [0] (.own s.nx k.sz 0 (k.xs.length + ys.length)) u' := by
    intro A cap olds hu hcap hold hol hzk hor
    have hrun := run_append_grow_src (P := P) w t tx ty k.e i' zv ht' hi' hzv A k.xs.length cap olds hold x ys.length vs hs' hcap (by omega) (hgrow cap hcap)
    rw [← hu] at hrun
    have hge : k.xs.length + ys.length ≤ grownCap w (k.xs.length + ys.length) cap k.e := by unfold grownCap; simp only [Question.cut]; omega
    have hD := h.drawn (w' := w.drew) rfl rfl rfl rfl
    have hrD : ∀ (p : Path) (x : AV) (v : Value), Rep w S Ow L p x v → Rep w.drew S Ow L p x v := fun p x v hx => hx.world (Nat.le_refl _) (fun _ hk => hk) (fun _ _ => rfl) (fun _ _ _ => rfl)
    obtain ⟨Ow', L', hR', hL'⟩ := hD.reloc hk ys olds vs (Builtin.zeroCells zv.cells (grownCap w (k.xs.length + ys.length) cap k.e - (k.xs.length + ys.length))) (grownCap w (k.xs.length + ys.length) cap k.e) hol hzk (fun j row i x v hj hi hv => hrD _ _ _ (hor j row i x v hj hi hv))
      ⟨hR.1, hR.2.1, hR.2.2.1, fun j row i x v hj hi hv => hrD _ _ _ (hR.2.2.2 j row i x v hj hi hv)⟩ hge (by rw [zeroCells_size, hzs, his, hsz])
    refine ⟨_, _, Ow', L', hrun, hR', ?_⟩
    have := Rep.own (w := w.drew.alloc (.cells ((olds ++ vs).toArray ++ Builtin.zeroCells zv.cells (grownCap w (k.xs.length + ys.length) cap k.e - (k.xs.length + ys.length))) k.e)) (S := S) (Ow := Ow') (L := L') (p := [0]) s.nx k.sz 0 (k.xs.length + ys.length) w.heap.size 0 (grownCap w (k.xs.length + ys.length) cap k.e) hL' (by omega)
    simpa using this
  have stays : ∀ (A : Option Addr) (cap : Nat), u = .slice A k.xs.length cap → k.xs.length + ys.length ≤ cap → ys = [] → (A = none ∨ ∃ ad, A = some ad) → ∃ u' w' Ow' L', (Builtin.append_ #[t, tx] ty #[u, x]).run P w = .ok u' w' ∧ RelX C { s with bl := (s.nx, { k with xs := k.xs ++ ys }) :: rm s.bl n, nx := s.nx + 1 } a w' S Ow' L' ∧ Rep w' S Ow' L' [0] (.own s.nx k.sz 0 (k.xs.length + ys.length)) u' := by
    intro A cap hu hcap hys hA
    subst hys
    have hvs : vs = [] := List.eq_nil_of_length_eq_zero (by simpa using hR.1)
    subst hvs
    obtain ⟨Ow', L', loc', hR', _, hrep', _⟩ := h.rename hk rfl (off := 0) (len := k.xs.length) (by omega) hr
    refine ⟨u, w, Ow', L', ?_, by simpa using hR', by simpa using hrep'⟩
    subst hu
    have hc0 : (Builtin.firstCells i'.size 0 x).run P w = .ok #[] w := hs'.cells
    have hl0 : ∀ w' : World, (Builtin.lenOf x).run P w' = .ok 0 w' := hs'.len
    rcases hs'.kind with ⟨e', hkk⟩ | hkk <;> cases A <;> simp [Builtin.append_, run_underlying ht', run_underlying hkk, sizeOf, typeInfo, hi', hl0, show k.xs.length ≤ cap by simpa using hcap, hc0, storeCells]
  have empty_ : ∀ A : Option Addr, k.xs.length = 0 → u = .slice A 0 0 → ∃ u' w' Ow' L', (Builtin.append_ #[t, tx] ty #[u, x]).run P w = .ok u' w' ∧ RelX C { s with bl := (s.nx, { k with xs := k.xs ++ ys }) :: rm s.bl n, nx := s.nx + 1 } a w' S Ow' L' ∧ Rep w' S Ow' L' [0] (.own s.nx k.sz 0 (k.xs.length + ys.length)) u' := by
    intro A h0 hu
    have hx0 : k.xs = [] := List.eq_nil_of_length_eq_zero h0
    by_cases hys : ys = []
    · exact stays A 0 (by rw [hu, h0]) (by rw [h0, hys]; simp) hys (by cases A <;> simp)
    · have hpos : 0 < ys.length := List.length_pos_iff.2 hys
      refine grown A 0 [] (by rw [hu, h0]) (by omega) ?_ (by simp [h0]) (by simp [hx0]) (by simp [hx0])
      rw [h0]
      cases A with
      | none => exact run_firstCells_none w.drew i'.size 0 0 0
      | some ad => exact run_firstCells_some w.drew i'.size 0 ad 0 0 [] (by simp) (fun j v hv => by simp at hv)
  rcases own_inv hr with ⟨b, o, cap, hL, hle, rfl⟩ | ⟨b, o, cap, ad, hL, hle, h0, hu⟩ | ⟨hL, _, h0, A, hu⟩ | hg
  · rw [hl] at hL
    cases hL
    have hBB := hB
    obtain ⟨hob, cs, us, hh, hcs, hxs, hzk, hcell, hrep⟩ := hBB
    by_cases hroom : k.xs.length + ys.length ≤ cap
    · -- there is room
      obtain ⟨w', hrun, hX⟩ := h.extend (P := P) hk hl ys vs hR hroom
      have hu : Rep w' S Ow L [0] (.own n k.sz 0 (k.xs.length + ys.length)) (.slice (some ⟨b, (o + 0) * k.sz, none⟩) (k.xs.length + ys.length) (cap - 0)) := .own n k.sz 0 _ b o cap hl (by omega)
      have hk2 : lb (st s.bl n { k with xs := k.xs ++ ys }) n = some { k with xs := k.xs ++ ys } := by rw [lb_st, if_pos rfl, hk]; rfl
      obtain ⟨Ow', L', loc', hR', _, hrep', _⟩ := hX.rename hk2 rfl (off := 0) (len := k.xs.length + ys.length) (by simp) hu
      refine ⟨_, w', Ow', L', ?_, ?_, hrep'⟩
      · have hst : (storeCells ⟨b, o * k.sz + k.xs.length * i'.size, none⟩ vs).run P w = .ok () w' := by
          rw [his, ← hsz, ← Nat.add_mul]; exact hrun
        rcases hs'.kind with ⟨e', hkk⟩ | hkk <;> simp [Builtin.append_, run_underlying ht', run_underlying hkk, sizeOf, typeInfo, hi', hs'.len, hroom, hs'.cells, Addr.add_lit, hst]
      · have e1 : rm (st s.bl n { k with xs := k.xs ++ ys }) n = rm s.bl n := by
          clear hX hk2 hR' hrep' hu hrun hk
          induction s.bl with
          | nil => rfl
          | cons p r ih =>
            obtain ⟨q, y⟩ := p
            by_cases e : q = n
            · simp [st, rm, e]
            · simp [st, rm, e, ih]
        have e2 : (List.drop 0 (k.xs ++ ys)).take (k.xs.length + ys.length) = k.xs ++ ys := by rw [List.drop_zero]; exact List.take_of_length_le (by simp)
        rw [e1, e2] at hR'
        exact hR'
    · obtain ⟨olds, hol, hoc, hor⟩ := row_cells hB
      refine grown (some ⟨b, (o + 0) * k.sz, none⟩) (cap - 0) olds rfl (by omega) ?_ hol hzk hor
      have := run_firstCells_some (P := P) w.drew i'.size k.xs.length ⟨b, o * k.sz, none⟩ k.xs.length cap olds (by rw [hol, his, hsz]) (fun j v hv => by rw [Addr.add_lit]; exact hoc j v hv)
      simpa using this
  · exact empty_ (some ad) h0 hu
  · exact empty_ A h0 hu
  · rw [hl] at hg; cases hg

theorem aappend_sound (h : RelX C s a w S Ow L) {o : Oper} {x y : Operand} {t tx : TypeId} (ho : o.op = .call { callee := .builtin .append, args := #[x, y], argTypes := #[t, tx] }) {v : AV} {s' : AS} (hx : aappend P s x y t tx = some (v, s')) :
    ∃ u w' Ow' L', (execOp a.eval o).run P w = .ok (.value u) w' ∧ RelX C s' a w' S Ow' L' ∧ Rep w' S Ow' L' [0] v u := by
  have hexec : ∀ u w', (Builtin.append_ #[t, tx] o.type #[a.eval x, a.eval y]).run P w = .ok u w' → (execOp a.eval o).run P w = .ok (.value u) w' := fun u w' hr => by
    unfold execOp
    simp [ho, resolve, invoke, builtin, hr]
  unfold aappend at hx
  split at hx
  · rename_i e e2 ys n sz off len he he2 hys hd
    split at hx
    · rename_i i z k hi hz hk
      split at hx
      · rename_i hc
        simp only [Option.some.injEq, Prod.mk.injEq] at hx
        obtain ⟨rfl, rfl⟩ := hx
        obtain ⟨hsrc, hksz, hsi, hke, hfit, hb, hsize⟩ := hc
        subst hksz
        subst hke
        obtain ⟨vs, hs, hR⟩ := src_sound (P := P) h hys hsrc (elT_run he2)
        obtain ⟨Ow1, L1, loc, hX, hL1, hr1, hmv⟩ := h.rename hk rfl hfit (ev_rep h hd)
        have hlen : ((k.xs.drop off).take len).length = len := by rw [List.length_take, List.length_drop]; omega
        have hk1 : lb ((s.nx, { k with xs := (k.xs.drop off).take len }) :: rm s.bl n) s.nx = some { k with xs := (k.xs.drop off).take len } := by simp [lb]
        obtain ⟨u', w', Ow', L', hrun, hX', hr'⟩ := grow (P := P) hX hk1 (by simpa [hlen] using hr1) he hi hsi hz hs ⟨hR.1, hR.2.1, hR.2.2.1, fun j row i x v hj hi hv => hmv x v (hR.2.2.2 j row i x v hj hi hv)⟩ hb (by simpa [hlen] using hsize) o.type
        refine ⟨u', w', Ow', L', hexec _ _ hrun, ?_, by simpa [hlen] using hr'⟩
        simpa [rm_rm] using hX'
      · cases hx
    · cases hx
  · rename_i e e2 ys he he2 hys hd
    split at hx
    · rename_i i z hi hz
      split at hx
      · rename_i hc
        simp only [Option.some.injEq, Prod.mk.injEq] at hx
        obtain ⟨rfl, rfl⟩ := hx
        obtain ⟨hsrc, hb, hsize⟩ := hc
        obtain ⟨eu, _⟩ := (ev_rep h hd).v_inv
        obtain ⟨vs, hs, hR⟩ := src_sound (P := P) h hys hsrc (elT_run he2)
        obtain ⟨i', hi', his, hib⟩ := ti_info hi
        obtain ⟨zv, hzv, hzs⟩ := zc_zero hz hi'
        have hs' : Src P i'.size tx (a.eval y) ys.length vs w := by rw [his]; exact hs
        have hle1 : ys.length ≤ 140737488355328 := Nat.le_trans (Nat.le_mul_of_pos_right _ hb) hsize
        by_cases h0 : ys = []
        · subst h0
          have hc0 : (Builtin.firstCells i'.size 0 (a.eval y)).run P w = .ok vs.toArray w := hs'.cells
          have hl0 : ∀ w' : World, (Builtin.lenOf (a.eval y)).run P w' = .ok 0 w' := hs'.len
          obtain ⟨L', hX, hL, _⟩ := h.allocNil ⟨e, i.sz, []⟩ rfl
          refine ⟨.slice none 0 0, w, Ow, L', hexec _ _ ?_, hX, .own_nil s.nx i.sz none hL⟩
          rw [eu]
          simp [Builtin.append_, run_underlying (elT_run he), run_underlying (elT_run he2), sizeOf, typeInfo, hi', hl0, hc0]
        · have hpos : 0 < ys.length := List.length_pos_iff.2 h0
          have hD := h.drawn (w' := w.drew) rfl rfl rfl rfl
          have hrD : ∀ (p : Path) (x : AV) (v : Value), Rep w S Ow L p x v → Rep w.drew S Ow L p x v := fun p x v hx => hx.world (Nat.le_refl _) (fun _ hk => hk) (fun _ _ => rfl) (fun _ _ _ => rfl)
          have hrun := run_append_grow_src (P := P) w t tx o.type e i' zv (elT_run he) hi' hzv none 0 0 [] (run_firstCells_none w.drew i'.size 0 0 0) (a.eval y) ys.length vs hs' (by omega) (by omega) (growslice_fits (by omega) (by rw [hib]; simpa using hsize))
          simp only [Nat.zero_add, List.nil_append] at hrun
          have hge : ys.length ≤ grownCap w ys.length 0 e := by unfold grownCap; simp only [Question.cut]; omega
          have hvl := hR.1
          have hget : ∀ (j : Nat) (row : List AV) (q : Nat) (x : AV), ys[j]? = some row → row[q]? = some x → j * i.sz + q < vs.length := fun j row q x hj hq => by
            have hlt : j < ys.length := (List.getElem?_eq_some_iff.1 hj).1
            have hq' : q < i.sz := by rw [← hR.2.2.1 j row hj]; exact (List.getElem?_eq_some_iff.1 hq).1
            have : j * i.sz + i.sz ≤ ys.length * i.sz := by rw [← Nat.succ_mul]; exact Nat.mul_le_mul_right _ (by omega)
            omega
          obtain ⟨Ow', L', hX, hL, _⟩ := hD.alloc ⟨e, i.sz, ys⟩ (vs.toArray ++ Builtin.zeroCells zv.cells (grownCap w ys.length 0 e - ys.length)) (grownCap w ys.length 0 e) (fun j q => vs.getD (j * i.sz + q) undef) (by
              simp only [Array.size_append, List.size_toArray, zeroCells_size, hzs, his, hvl]
              rw [← Nat.add_mul]; congr 1; omega) hge hR.2.2.1 (fun j row q x hj hq => by
              have := hget j row q x hj hq
              show (vs.toArray ++ _)[j * i.sz + q]? = _
              rw [Array.getElem?_append_left (by simpa using this)]
              simp [this]) (fun j row q x hj hq => hrD _ _ _ (hR.2.2.2 j row q x _ hj hq (by simp [hget j row q x hj hq])))
          refine ⟨_, _, Ow', L', hexec _ _ (by rw [eu]; exact hrun), hX, ?_⟩
          have := Rep.own (w := w.drew.alloc (.cells (vs.toArray ++ Builtin.zeroCells zv.cells (grownCap w ys.length 0 e - ys.length)) e)) (S := S) (Ow := Ow') (L := L') (p := [0]) s.nx i.sz 0 ys.length w.heap.size 0 (grownCap w ys.length 0 e) hL (by omega)
          simpa using this
      · cases hx
    · cases hx
  · cases hx

def bnd (s : AS) (x : Option Operand) (d : Nat) : Option Nat :=
  match x with
  | none => some d
  | some x => match ev s x with
    | some (.v (.int .i64 z)) => if 0 ≤ z then some z.toNat else none
    | _ => none
def aslice (P : Program) (s : AS) (t : TypeId) (x : Operand) (lo hi : Option Operand) : Option AV :=
  match elT P t, ev s x with
  | some e, some (.own n sz off len) => match ti P e, lb s.bl n, bnd s lo 0, bnd s hi len with
    | some i, some _, some l, some h => if i.sz = sz ∧ l ≤ h ∧ h ≤ len then some (.own n sz (off + l) (h - l)) else none
    | _, _, _, _ => none
  | some e, some (.im sz xs) => match ti P e, bnd s lo 0, bnd s hi xs.length with
    | some i, some l, some h => if i.sz = sz ∧ l ≤ h ∧ h ≤ xs.length then some (.im sz ((xs.take h).drop l)) else none
    | _, _, _ => none
  | none, some (.v (.string b)) => if isStrT P t = true then match bnd s lo 0, bnd s hi b.size with
    | some l, some h => if l ≤ h ∧ h ≤ b.size then some (.v (.string (b.extract l h))) else none
    | _, _ => none
    else none
  | _, _ => none
theorem bnd_run (h : RelX C s a w S Ow L) {x : Option Operand} {d q m : Nat} {code : BoundsCode} (hx : bnd s x d = some q) (hq : q ≤ m) (y : Operand) (hy : x = some y) : (Instr.sliceBound (a.eval y) m code).run P w = .ok q w := by
  subst hy
  simp only [bnd] at hx
  split at hx
  · rename_i z hz
    split at hx
    · rename_i h0
      cases hx
      obtain ⟨e, _⟩ := (ev_rep h hz).v_inv
      have : z ≤ (m : Int) := by omega
      simp [Instr.sliceBound, asIntOf, e, h0, this]
    · cases hx
  · cases hx
theorem bounds_run (h : RelX C s a w S Ow L) {lo hi : Option Operand} {l q len cap : Nat} (hl : bnd s lo 0 = some l) (hq : bnd s hi len = some q) (h1 : l ≤ q) (h2 : q ≤ len) (h3 : len ≤ cap) :
    (Instr.sliceBounds true len cap (lo.map a.eval) (hi.map a.eval) none).run P w = .ok (l, q, cap) w := by
  unfold Instr.sliceBounds
  cases hi with
  | none =>
    simp only [bnd, Option.some.injEq] at hq
    subst hq
    cases lo with
    | none => simp only [bnd, Option.some.injEq] at hl; subst hl; simp
    | some y => simp [bnd_run (P := P) h hl h1 y rfl]
  | some z =>
    have hz := bnd_run (P := P) (m := cap) (code := .sliceAcap) h hq (by omega) z rfl
    cases lo with
    | none => simp only [bnd, Option.some.injEq] at hl; subst hl; simp [hz]
    | some y => simp [hz, bnd_run (P := P) h hl h1 y rfl]
theorem bounds_runS (h : RelX C s a w S Ow L) {lo hi : Option Operand} {l q len : Nat} (hl : bnd s lo 0 = some l) (hq : bnd s hi len = some q) (h1 : l ≤ q) (h2 : q ≤ len) :
    (Instr.sliceBounds false len len (lo.map a.eval) (hi.map a.eval) none).run P w = .ok (l, q, len) w := by
  unfold Instr.sliceBounds
  cases hi with
  | none =>
    simp only [bnd, Option.some.injEq] at hq
    subst hq
    cases lo with
    | none => simp only [bnd, Option.some.injEq] at hl; subst hl; simp
    | some y => simp [bnd_run (P := P) h hl h1 y rfl]
  | some z =>
    have hz := bnd_run (P := P) (m := len) (code := .sliceAlen) h hq (by omega) z rfl
    cases lo with
    | none => simp only [bnd, Option.some.injEq] at hl; subst hl; simp [hz]
    | some y => simp [hz, bnd_run (P := P) h hl h1 y rfl]
theorem aslice_sound (h : RelX C s a w S Ow L) {o : Oper} {t : TypeId} {x : Operand} {lo hi : Option Operand} (ho : o.op = .slice t x lo hi none) {v : AV} (hx : aslice P s t x lo hi = some v) :
    ∃ u, (execOp a.eval o).run P w = .ok (.value u) w ∧ Rep w S Ow L [0] v u := by
  unfold aslice at hx
  split at hx
  · rename_i e n sz off len he hv
    split at hx
    · rename_i i k l q hi' hk hl hq
      split at hx
      · rename_i hc
        cases hx
        obtain ⟨hsz, h1, h2⟩ := hc
        obtain ⟨loc, hloc, hB⟩ := h.blk n k hk
        have hu := elT_run he
        rcases own_inv (ev_rep h hv) with ⟨b, o', cap, hL, hle, eu⟩ | ⟨b, o', cap, ad, hL, hle, h0, eu⟩ | ⟨hL, hoff, h0, A, eu⟩ | hg
        · have hb := bounds_run (P := P) h hl hq h1 h2 (show len ≤ cap - off by omega)
          by_cases hcl : cap - off = l
          · refine ⟨.slice (some ⟨b, (o' + off) * sz, none⟩) (q - l) (cap - off - l), ?_, ?_⟩
            · rw [hcl] at hb
              unfold execOp
              simp [ho, Instr.sliceAt, Instr.slice, run_underlying hu, eu, hb, ti_size hi', hcl]
            · rw [show q - l = 0 by omega, show cap - off - l = 0 by omega]
              exact .own_end n sz (off + l) b o' cap _ hL (by omega)
          · refine ⟨.slice (some (Addr.add ⟨b, (o' + off) * sz, none⟩ (l * sz))) (q - l) (cap - off - l), ?_, ?_⟩
            · unfold execOp
              simp [ho, Instr.sliceAt, Instr.slice, run_underlying hu, eu, hb, ti_size hi', hcl, hsz]
            · have := Rep.own (w := w) (S := S) (Ow := Ow) (L := L) (p := [0]) n sz (off + l) (q - l) b o' cap hL (by omega)
              rw [Addr.add_lit, ← Nat.add_mul, show o' + off + l = o' + (off + l) by omega, show cap - off - l = cap - (off + l) by omega]
              exact this
        · subst h0
          have hq0 : q = 0 := by omega
          have hl0 : l = 0 := by omega
          subst hq0 hl0
          have hb := bounds_run (P := P) h hl hq h1 h2 (Nat.le_refl 0)
          refine ⟨.slice (some ad) 0 0, ?_, .own_end n sz (off + 0) b o' cap ad hL (by omega)⟩
          unfold execOp
          simp [ho, Instr.sliceAt, Instr.slice, run_underlying hu, eu, hb, ti_size hi']
        · subst h0
          have hq0 : q = 0 := by omega
          have hl0 : l = 0 := by omega
          subst hq0 hl0 hoff
          have hb := bounds_run (P := P) h hl hq h1 h2 (Nat.le_refl 0)
          refine ⟨.slice A 0 0, ?_, .own_nil n sz A hL⟩
          unfold execOp
          cases A <;> simp [ho, Instr.sliceAt, Instr.slice, run_underlying hu, eu, hb, ti_size hi']
        · rw [hloc] at hg; cases hg
      · cases hx
    · cases hx
  · rename_i e sz xs he hv
    split at hx
    · rename_i i l q hi' hl hq
      split at hx
      · rename_i hc
        cases hx
        obtain ⟨hsz, h1, h2⟩ := hc
        have hu := elT_run he
        have hr := ev_rep h hv
        generalize eu : a.eval x = u at hr
        cases hr with
        | im _ _ A c ad us hc ha hS hz hcell hrr =>
          have hb := bounds_run (P := P) h hl hq h1 h2 hc
          have hlen : ((xs.take q).drop l).length = q - l := by rw [List.length_drop, List.length_take]; omega
          have sub : ∀ (j : Nat) (row : List AV), ((xs.take q).drop l)[j]? = some row → xs[l + j]? = some row := fun j row hj => by
            rw [List.getElem?_drop, List.getElem?_take] at hj
            split at hj
            · exact hj
            · cases hj
          have mk : ∀ A', ((xs.take q).drop l ≠ [] → A' = some (ad.add (l * sz))) → Rep w S Ow L [0] (.im sz ((xs.take q).drop l)) (.slice A' (q - l) (c - l)) := fun A' hA' => by
            have hbl : (ad.add (l * sz)).block = ad.block := by unfold Addr.add; split <;> rfl
            have hof : (ad.add (l * sz)).off = ad.off + l * sz := by unfold Addr.add; split <;> simp_all
            have ne : (xs.take q).drop l ≠ [] → xs ≠ [] := fun h e => h (by simp [e])
            rw [← hlen]
            refine .im sz _ A' (c - l) (ad.add (l * sz)) (fun j i => us (l + j) i) (by omega) hA' (fun hne => ?_) (fun j row hj => hz _ row (sub j row hj)) (fun j row i' y hj hi => ?_) (fun j row i' y hj hi => hrr _ row i' y (sub j row hj) hi)
            · have := hS (ne hne)
              refine ⟨by rw [hbl]; exact this.1, by rw [hbl]; exact this.2.1, ?_⟩
              unfold Addr.add; split
              · exact this.2.2
              · rfl
            · have := hcell _ row i' y (sub j row hj) hi
              rw [hbl, hof, Nat.add_assoc, ← Nat.add_assoc (l * sz), ← Nat.add_mul]
              exact this
          by_cases hcl : c = l
          · refine ⟨.slice A (q - l) (c - l), ?_, mk A (fun hne => absurd (List.eq_nil_of_length_eq_zero (by omega)) hne)⟩
            rw [hcl] at hb
            unfold execOp
            simp [ho, Instr.sliceAt, Instr.slice, run_underlying hu, eu, hb, ti_size hi', hcl]
          · refine ⟨.slice (A.map (·.add (l * sz))) (q - l) (c - l), ?_, mk _ (fun hne => ?_)⟩
            · unfold execOp
              simp [ho, Instr.sliceAt, Instr.slice, run_underlying hu, eu, hb, ti_size hi', hcl, hsz]
            · have : xs ≠ [] := fun e => hne (by simp [e])
              rw [ha this]; rfl
      · cases hx
    · cases hx
  · rename_i b he hv
    split at hx
    · rename_i hstr
      have hu : P.underlying t = some .string := by unfold isStrT at hstr; split at hstr <;> simp_all
      split at hx
      · rename_i l q hl hq
        split at hx
        · rename_i hc
          cases hx
          obtain ⟨eu, _⟩ := (ev_rep h hv).v_inv
          have hb := bounds_runS (P := P) h hl hq hc.1 hc.2
          refine ⟨_, ?_, .v _ rfl⟩
          unfold execOp
          simp [ho, Instr.sliceAt, Instr.slice, run_underlying hu, eu, hb]
        · cases hx
      · cases hx
    · cases hx
  · cases hx
end
end Go.Proofs.Ytejpklajfcngbaa.En
end
section
namespace Go.Proofs.Ytejpklajfcngbaa.En
open Go.RowKit
set_option linter.unusedSimpArgs false
set_option linter.unusedVariables false

section
variable {C : Ctx} {s s' : AS} {a : Act} {w : World} {S : Nat → Prop} {Ow : Owners} {L : Names} {P : Program}

theorem RelX.grown (h : RelX C s a w S Ow L) {w' : World} (hb : BelowD w.heap.size w w') : RelX C s a w' S Ow L := by
  have hS : ∀ k, S k → w'.heap[k]? = w.heap[k]? := fun k hk => hb.block k (h.ltS k hk)
  have hO : ∀ (k : Nat) (p : Path), Ow k = some p → w'.heap[k]? = w.heap[k]? := fun k p hk => hb.block k (h.ow k p hk).2
  refine { fix := h.fix, keep := ⟨hb.os.trans h.keep.os, hb.tape.trans h.keep.tape, hb.output.trans h.keep.output, Nat.le_trans h.keep.size hb.size, fun k hk hx => (hb.block k (Nat.lt_of_lt_of_le hk h.keep.size)).trans (h.keep.block k hk hx), Nat.le_trans h.keep.drawn hb.drawn⟩, inS := h.inS, upS := h.upS, ltS := fun k hk => Nat.lt_of_lt_of_le (h.ltS k hk) hb.size, owS := h.owS, ow := fun k p hk => ⟨(h.ow k p hk).1, Nat.lt_of_lt_of_le (h.ow k p hk).2 hb.size⟩, ow0 := h.ow0, blk := ?_, fresh := h.fresh, named := h.named, freshO := h.freshO, slot := ?_, size := h.size, defers := h.defers }
  · intro n k hn
    obtain ⟨loc, hl, hB⟩ := h.blk n k hn
    exact ⟨loc, hl, hB.world hb.size hS fun b q hq => hO b _ hq⟩
  · intro t x hx
    obtain ⟨v, hv, hR⟩ := h.slot t x hx
    exact ⟨v, hv, hR.world hb.size (fun _ hk => hk) hS fun k q hk => hO k _ hk⟩

theorem RelX.skip (h : RelX C s a w S Ow L) {d : Option Nat} (hd : okd C.nt.n d = true) : RelX C (En.put s d (.tu [])) (a.put d undef) w S Ow L :=
  h.put d hd (.tu [] [] rfl fun i x u hx hu => by simp at hx)

def astep (P : Program) (nt : NT) (s : AS) (o : Oper) : Option AS :=
  if okd nt.n o.dst then match o.op with
    | .load t p => (aload P s t p).map fun r => put r.2 o.dst r.1
    | .store t p x => (astore P s t p x).map fun s' => put s' o.dst (.tu [])
    | .alloc t => (aalloc P s t).map fun r => put r.2 o.dst r.1
    | .box t x => (abox s t x).map fun r => put r.2 o.dst r.1
    | .build t ps => (abuild P s t ps).map fun r => put r.2 o.dst r.1
    | .buildSlice t n ps => (abuildSlice P s t n ps).map fun r => put r.2 o.dst r.1
    | .makeSlice t l c => (amake P s t l c).map fun r => put r.2 o.dst r.1
    | .slice t x lo hi none => (aslice P s t x lo hi).map fun v => put s o.dst v
    | .call ⟨.builtin .append, as, ts⟩ => match as.toList, ts.toList with
      | [x, y], [t, tx] => (aappend P s x y t tx).map fun r => put r.2 o.dst r.1
      | _, _ => none
    | op => (aval P s op).map fun v => put s o.dst v
  else none

theorem astep_sound (h : RelX C s a w S Ow L) {o : Oper} (hx : astep P C.nt s o = some s') :
    ∃ n w' Ow' L', (execOp a.eval o).run P w = .ok n w' ∧ ((∃ u, n = .value u ∧ RelX C s' (a.put o.dst u) w' S Ow' L') ∨ (n = .skip ∧ RelX C s' (a.put o.dst undef) w' S Ow' L')) := by
  unfold astep at hx
  split at hx
  case isFalse => cases hx
  rename_i hd
  have val : ∀ {x : AV} {s1 : AS} {u : Value} {w' : World} {Ow' : Owners} {L' : Names}, (execOp a.eval o).run P w = .ok (.value u) w' → RelX C s1 a w' S Ow' L' → Rep w' S Ow' L' [0] x u → s' = put s1 o.dst x →
      ∃ n w' Ow' L', (execOp a.eval o).run P w = .ok n w' ∧ ((∃ u, n = .value u ∧ RelX C s' (a.put o.dst u) w' S Ow' L') ∨ (n = .skip ∧ RelX C s' (a.put o.dst undef) w' S Ow' L')) :=
    fun hr hR hu e => ⟨_, _, _, _, hr, .inl ⟨_, rfl, by rw [e]; exact hR.put o.dst hd hu⟩⟩
  split at hx
  · rename_i t p hop
    simp only [Option.map_eq_some_iff] at hx
    obtain ⟨⟨x, s1⟩, hl, rfl⟩ := hx
    obtain ⟨u, Ow', L', hr, hR, hu⟩ := aload_sound h hop hl
    exact val (hr w fun _ _ => rfl) hR hu rfl
  · rename_i t p x hop
    simp only [Option.map_eq_some_iff] at hx
    obtain ⟨s1, hl, rfl⟩ := hx
    obtain ⟨w', hr, hR⟩ := astore_sound h hop hl
    exact ⟨_, _, _, _, hr, .inr ⟨rfl, hR.skip hd⟩⟩
  · rename_i t hop
    simp only [Option.map_eq_some_iff] at hx
    obtain ⟨⟨x, s1⟩, hl, rfl⟩ := hx
    obtain ⟨u, w', Ow', L', hr, hR, hu⟩ := aalloc_sound h hop hl
    exact val hr hR hu rfl
  · rename_i t y hop
    simp only [Option.map_eq_some_iff] at hx
    obtain ⟨⟨x, s1⟩, hl, rfl⟩ := hx
    obtain ⟨u, w', Ow', L', hr, hR, hu⟩ := abox_sound h hop hl
    exact val hr hR hu rfl
  · rename_i t ps hop
    simp only [Option.map_eq_some_iff] at hx
    obtain ⟨⟨x, s1⟩, hl, rfl⟩ := hx
    obtain ⟨u, rfl, hr, hu⟩ := abuild_sound h hop hl
    exact val hr h hu rfl
  · rename_i t n ps hop
    simp only [Option.map_eq_some_iff] at hx
    obtain ⟨⟨x, s1⟩, hl, rfl⟩ := hx
    obtain ⟨u, w', Ow', L', hr, hR, hu⟩ := abuildSlice_sound h hop hl
    exact val hr hR hu rfl
  · rename_i t l c hop
    simp only [Option.map_eq_some_iff] at hx
    obtain ⟨⟨x, s1⟩, hl, rfl⟩ := hx
    obtain ⟨u, w', Ow', L', hr, hR, hu⟩ := amake_sound h hop hl
    exact val hr hR hu rfl
  · rename_i t y lo hi hop
    simp only [Option.map_eq_some_iff] at hx
    obtain ⟨x, hl, rfl⟩ := hx
    obtain ⟨u, hr, hu⟩ := aslice_sound h hop hl
    exact val hr h hu rfl
  · rename_i as ts hop
    split at hx
    · rename_i x y t tx has hts
      simp only [Option.map_eq_some_iff] at hx
      obtain ⟨⟨v, s1⟩, hl, rfl⟩ := hx
      have ea : as = #[x, y] := by rw [← Array.toArray_toList (xs := as), has]
      have et : ts = #[t, tx] := by rw [← Array.toArray_toList (xs := ts), hts]
      subst ea et
      obtain ⟨u, w', Ow', L', hr, hR, hu⟩ := aappend_sound h hop hl
      exact val hr hR hu rfl
    · cases hx
  · simp only [Option.map_eq_some_iff] at hx
    obtain ⟨v, hv, rfl⟩ := hx
    obtain ⟨u, hr, hu⟩ := aval_sound (w := w) h hv
    exact val (hr w) h hu rfl

theorem aload_same {t : TypeId} {p : Operand} {x : AV} (hx : aload P s t p = some (x, s')) (hn : s'.nx = s.nx) : s' = s := by
  unfold aload loadOne at hx
  repeat' split at hx
  all_goals first
    | (simp only [Option.some.injEq, Prod.mk.injEq] at hx; obtain ⟨_, rfl⟩ := hx; first | rfl | (simp at hn; done))
    | (simp only [Option.map_eq_some_iff, Prod.mk.injEq] at hx; obtain ⟨_, _, _, rfl⟩ := hx; rfl)
    | (cases hx; done)

def qstep (P : Program) (nt : NT) (s : AS) (o : Oper) : Option AS :=
  if okd nt.n o.dst then match o.op with
    | .load t p => match aload P s t p with
      | some (x, s') => if s'.nx = s.nx then some (put s o.dst x) else none
      | none => none
    | op => (aval P s op).map fun v => put s o.dst v
  else none
theorem qstep_sound (h : RelX C s a w S Ow L) {o : Oper} (hx : qstep P C.nt s o = some s') :
    ∃ u Ow' L', (∀ w', BelowD w.heap.size w w' → (execOp a.eval o).run P w' = .ok (.value u) w') ∧ RelX C s' (a.put o.dst u) w S Ow' L' := by
  unfold qstep at hx
  split at hx
  case isFalse => cases hx
  rename_i hd
  split at hx
  · rename_i t p hop
    split at hx
    · rename_i x s1 hl
      split at hx
      · rename_i hn
        cases hx
        have := aload_same hl hn
        subst this
        obtain ⟨u, Ow', L', hr, hR, hu⟩ := aload_sound h hop hl
        exact ⟨u, Ow', L', fun w' hb => hr w' hb.block, hR.put o.dst hd hu⟩
      · cases hx
    · cases hx
  · simp only [Option.map_eq_some_iff] at hx
    obtain ⟨v, hv, rfl⟩ := hx
    obtain ⟨u, hr, hu⟩ := aval_sound (w := w) h hv
    exact ⟨u, Ow, L, fun w' _ => hr w', h.put o.dst hd hu⟩

def gd (ops : Array Oper) (s : AS) (o : Oper) : Option Bool :=
  match o.guard with
  | none => some true
  | some (g, b) => match (ops[g]?).bind (·.dst) with
    | some t => match lk s.tm t with
      | some (.v (.bool c)) => some (c == b)
      | some (.tu _) => some false
      | _ => none
    | none => none
theorem gd_sound (h : RelX C s a w S Ow L) {ops : Array Oper} {o : Oper} {b : Bool} (hg : gd ops s o = some b) : Region.wanted o (yielded ops a.tmps) = b := by
  unfold gd at hg
  unfold Region.wanted
  split at hg
  · rename_i e; rw [e]; cases hg; rfl
  · rename_i g b' e
    rw [e]
    split at hg
    · rename_i t ht
      split at hg
      · rename_i c hc
        cases hg
        obtain ⟨u, hu, hR⟩ := h.slot t _ hc
        obtain ⟨rfl, _⟩ := hR.v_inv
        simp [yielded, ht, hu]
      · rename_i xs hc
        cases hg
        obtain ⟨u, hu, hR⟩ := h.slot t _ hc
        obtain ⟨us, rfl, _⟩ := hR.tu_inv
        simp [yielded, ht, hu]
      · cases hg
    · cases hg

/-! #### what is lent to be looked at -/
def lent (S : Nat → Prop) (Ow : Owners) : Nat → Prop := fun k => S k ∨ Ow k ≠ none
inductive Fz (bl : List (Nat × Blk)) : AV → AV → Prop
  | v (x : Value) : Fz bl (.v x) (.v x)
  | im (sz : Nat) (xs : List (List AV)) : Fz bl (.im sz xs) (.im sz xs)
  | nl (sz : Nat) : Fz bl (.v (.slice none 0 0)) (.im sz [])
  | pi (xs : List AV) : Fz bl (.pi xs) (.pi xs)
  | ag (xs ys : List AV) (h : ys.length = xs.length) (hr : ∀ (i : Nat) (x y : AV), xs[i]? = some x → ys[i]? = some y → Fz bl x y) : Fz bl (.ag xs) (.ag ys)
  | tu (xs ys : List AV) (h : ys.length = xs.length) (hr : ∀ (i : Nat) (x y : AV), xs[i]? = some x → ys[i]? = some y → Fz bl x y) : Fz bl (.tu xs) (.tu ys)
  | ow (e : TypeId) (sz : Nat) (xs ys : List (List AV)) (h : ys.length = xs.length) (h1 : ∀ (j : Nat) (r r' : List AV), xs[j]? = some r → ys[j]? = some r' → r'.length = r.length)
      (hr : ∀ (j : Nat) (r r' : List AV) (i : Nat) (x y : AV), xs[j]? = some r → ys[j]? = some r' → r[i]? = some x → r'[i]? = some y → Fz bl x y) : Fz bl (.ow e sz xs) (.im sz ys)
  | own (n off len : Nat) (k : Blk) (ys zs : List (List AV)) (hk : lb bl n = some k) (h : ys.length = k.xs.length) (h1 : ∀ (j : Nat) (r r' : List AV), k.xs[j]? = some r → ys[j]? = some r' → r'.length = r.length)
      (hr : ∀ (j : Nat) (r r' : List AV) (i : Nat) (x y : AV), k.xs[j]? = some r → ys[j]? = some r' → r[i]? = some x → r'[i]? = some y → Fz bl x y) (hl : off + len ≤ ys.length) (hz : zs = (ys.drop off).take len) : Fz bl (.own n k.sz off len) (.im k.sz zs)
  | fn (g : FuncId) (xs ys : List AV) (h : ys.length = xs.length) (hr : ∀ (i : Nat) (x y : AV), xs[i]? = some x → ys[i]? = some y → Fz bl x y) : Fz bl (.fn g xs) (.fn g ys)
  | pb (n j i : Nat) (k : Blk) (row ys : List AV) (hk : lb bl n = some k) (hrow : k.xs[j]? = some row) (h : ys.length ≤ (row.drop i).length) (hr : ∀ (q : Nat) (x y : AV), (row.drop i)[q]? = some x → ys[q]? = some y → Fz bl x y) : Fz bl (.pb n k.sz j i) (.pi ys)

theorem get_of_le {α β : Type} {xs : List α} {ys : List β} {i : Nat} {y : β} (h : ys.length ≤ xs.length) (hy : ys[i]? = some y) : ∃ x, xs[i]? = some x := by
  have : i < xs.length := by have := (List.getElem?_eq_some_iff.1 hy).1; omega
  exact ⟨xs[i], List.getElem?_eq_getElem this⟩
theorem get_of_len {α β : Type} {xs : List α} {ys : List β} {i : Nat} {y : β} (h : ys.length = xs.length) (hy : ys[i]? = some y) : ∃ x, xs[i]? = some x := by
  have : i < xs.length := by have := (List.getElem?_eq_some_iff.1 hy).1; omega
  exact ⟨_, List.getElem?_eq_getElem this⟩

def lentN (N : Nat → Prop) (S : Nat → Prop) (Ow : Owners) : Nat → Prop := fun k => S k ∨ ∃ n q, N n ∧ Ow k = some ((n + 1) :: q)
theorem lentN_lent {N : Nat → Prop} {k : Nat} (h : lentN N S Ow k) : lent S Ow k := by
  rcases h with h | ⟨n, q, _, h⟩
  · exact .inl h
  · exact .inr (by rw [h]; simp)
theorem Rep.fzN (h : RelX C s a w S Ow L) {N : Nat → Prop} {bl : List (Nat × Blk)} (hbl : ∀ n k, lb bl n = some k → N n ∧ lb s.bl n = some k) {x y : AV} (hf : Fz bl x y) : ∀ {p : Path} {u : Value} {L1 : Names}, (∀ b q, Ow b = some (p ++ q) → ∃ n r, N n ∧ p ++ q = (n + 1) :: r) → (∀ n, L1 n = L n ∨ L1 n = .free) → Rep w S Ow L1 p x u → ∀ {p' : Path}, Rep w (lentN N S Ow) noOwner noName p' y u := by
  have hle : ∀ k, S k → lentN N S Ow k := fun k hk => .inl hk
  have ext : ∀ {p : Path}, (∀ b q, Ow b = some (p ++ q) → ∃ n r, N n ∧ p ++ q = (n + 1) :: r) → ∀ (e : Path), ∀ b q, Ow b = some (p ++ e ++ q) → ∃ n r, N n ∧ p ++ e ++ q = (n + 1) :: r := fun {p} hp e b q hq => by
    rw [List.append_assoc] at hq ⊢
    exact hp b (e ++ q) hq
  induction hf with
  | v x => intro p u L1 hp _ hr p'; obtain ⟨rfl, h1⟩ := hr.v_inv; exact .v _ h1
  | nl sz =>
    intro p u L1 hp _ hr p'
    obtain ⟨rfl, _⟩ := hr.v_inv
    exact .im sz [] none 0 ⟨0, 0, none⟩ (fun _ _ => undef) (Nat.le_refl 0) (fun hx => absurd rfl hx) (fun hx => absurd rfl hx) (fun j row hj => by simp at hj) (fun j row i y hj => by simp at hj) (fun j row i y hj => by simp at hj)
  | im sz xs =>
    intro p u L1 hp _ hr p'
    cases hr with
    | im _ _ A c ad us hc ha hS hz hcell hrr =>
      exact (Rep.im sz xs A c ad us hc ha hS hz hcell hrr : Rep w S noOwner noName p' (.im sz xs) _).world (Nat.le_refl _) hle (fun _ _ => rfl) (fun _ _ _ => rfl)
  | pi xs =>
    intro p u L1 hp _ hr p'
    cases hr with
    | pi _ ad us hS hcell hrr =>
      exact (Rep.pi xs ad us hS hcell hrr : Rep w S noOwner noName p' (.pi xs) _).world (Nat.le_refl _) hle (fun _ _ => rfl) (fun _ _ _ => rfl)
  | ag xs ys hl _ ih =>
    intro p u L1 hp hL1 hr p'
    obtain ⟨us, rfl, h1, h2⟩ := hr.ag_inv
    refine .ag ys us (by omega) fun i y u hy hu => ?_
    obtain ⟨x, hx⟩ := get_of_len hl hy
    exact ih i x y hx hy (ext hp _) hL1 (h2 i x u hx hu)
  | tu xs ys hl _ ih =>
    intro p u L1 hp hL1 hr p'
    obtain ⟨us, rfl, h1, h2⟩ := hr.tu_inv
    refine .tu ys us (by omega) fun i y u hy hu => ?_
    obtain ⟨x, hx⟩ := get_of_len hl hy
    exact ih i x y hx hy (ext hp _) hL1 (h2 i x u hx hu)
  | fn g xs ys hl _ ih =>
    intro p u L1 hp hL1 hr p'
    obtain ⟨us, rfl, h1, h2⟩ := hr.fn_inv
    refine .fn g ys us (by omega) fun i y u hy hu => ?_
    obtain ⟨x, hx⟩ := get_of_len hl hy
    exact ih i x y hx hy (ext hp _) hL1 (h2 i x u hx hu)
  | ow e sz xs ys hl h1 _ ih =>
    intro p u L1 hp hL1 hr p'
    cases hr with
    | ow _ _ _ b o cap cs us ho hh hs hc hz hcell hrr =>
      have here : ∀ {b : Nat}, Ow b = some p → lentN N S Ow b := fun {b} hb => by
        obtain ⟨n, r, h1, h2⟩ := hp b [] (by simpa using hb)
        exact .inr ⟨n, r, h1, by rw [hb]; simpa using h2⟩
      have e0 : xs.length = ys.length := hl.symm
      rw [e0]
      refine .im sz ys _ cap ⟨b, o * sz, none⟩ us (by omega) (fun _ => rfl) (fun _ => ⟨here ho, (h.ow b _ ho).2, rfl⟩) (fun j row hj => ?_) (fun j row i y hj hi => ?_) (fun j row i y hj hi => ?_)
      · obtain ⟨r, hx⟩ := get_of_len hl hj
        rw [h1 j r row hx hj]; exact hz j r hx
      · obtain ⟨r, hx⟩ := get_of_len hl hj
        obtain ⟨x, hxi⟩ := get_of_len (h1 j r row hx hj) hi
        have := hcell j r i x hx hxi
        rw [cell_of_row w b _ cs e (0, 0) hh, ← this, Nat.add_mul, Nat.add_assoc]
      · obtain ⟨r, hx⟩ := get_of_len hl hj
        obtain ⟨x, hxi⟩ := get_of_len (h1 j r row hx hj) hi
        exact ih j r row i x y hx hj hxi hi (ext hp _) (fun _ => .inr rfl) (hrr j r i x hx hxi)
    | ow_nil _ _ A0 =>
      have : ys = [] := List.eq_nil_of_length_eq_zero (by simpa using hl)
      subst this
      exact .im sz [] A0 0 ⟨0, 0, none⟩ (fun _ _ => undef) (Nat.le_refl 0) (fun hx => absurd rfl hx) (fun hx => absurd rfl hx) (fun j row hj => by simp at hj) (fun j row i y hj => by simp at hj) (fun j row i y hj => by simp at hj)
  | own n off len k ys zs hk hl h1 _ hlen hzs ih =>
    intro p u L1 hp hL1 hr p'
    subst hzs
    obtain ⟨loc, hloc, hB⟩ := h.blk n k (hbl n k hk).2
    have hzl : ((ys.drop off).take len).length = len := by rw [List.length_take, List.length_drop]; omega
    have nilCase : len = 0 → ∀ A c, u = .slice A 0 c → Rep w (lentN N S Ow) noOwner noName p' (.im k.sz ((ys.drop off).take len)) u := fun h0 A c e => by
      subst h0 e
      rw [List.take_zero]
      exact .im k.sz [] A c ⟨0, 0, none⟩ (fun _ _ => undef) (Nat.zero_le _) (fun hx => absurd rfl hx) (fun hx => absurd rfl hx) (fun j row hj => by simp at hj) (fun j row i y hj => by simp at hj) (fun j row i y hj => by simp at hj)
    have pick : ∀ {m : NL}, L1 n = m → m ≠ .free → L n = m := fun {m} e hne => by
      rcases hL1 n with g | g
      · rw [← g]; exact e
      · rw [g] at e; exact absurd e.symm hne
    cases hr with
    | own _ _ _ _ b o cap hL hle2 =>
      have hL := pick hL (by simp)
      rw [hloc] at hL
      cases hL
      obtain ⟨hob, cs, us, hh, hcs, hxs, hz, hcell, hrep⟩ := hB
      have sub : ∀ (j : Nat) (row : List AV), ((ys.drop off).take len)[j]? = some row → ys[off + j]? = some row := fun j row hj => by
        rw [List.getElem?_take] at hj
        split at hj
        · rwa [List.getElem?_drop] at hj
        · cases hj
      have := Rep.im (w := w) (S := lentN N S Ow) (Ow := noOwner) (L := noName) (p := p') k.sz ((ys.drop off).take len) (some ⟨b, (o + off) * k.sz, none⟩) (cap - off) ⟨b, (o + off) * k.sz, none⟩ (fun j i => us (off + j) i) (by rw [hzl]; omega) (fun _ => rfl) (fun _ => ⟨.inr ⟨n, [], (hbl n k hk).1, hob⟩, (h.ow b _ hob).2, rfl⟩) (fun j row hj => ?_) (fun j row i y hj hi => ?_) (fun j row i y hj hi => ?_)
      · rwa [hzl] at this
      · have hj := sub j row hj
        obtain ⟨r, hx⟩ := get_of_len hl hj
        rw [h1 _ r row hx hj]; exact hz _ r hx
      · have hj := sub j row hj
        obtain ⟨r, hx⟩ := get_of_len hl hj
        obtain ⟨x, hxi⟩ := get_of_len (h1 _ r row hx hj) hi
        have := hcell _ r i x hx hxi
        rw [cell_of_row w b _ cs k.e (0, 0) hh, ← this]
        congr 1
        rw [← Nat.add_assoc, ← Nat.add_mul, Nat.add_assoc]
      · have hj := sub j row hj
        obtain ⟨r, hx⟩ := get_of_len hl hj
        obtain ⟨x, hxi⟩ := get_of_len (h1 _ r row hx hj) hi
        exact ih _ r row i x y hx hj hxi hi (fun b q hq => ⟨n, _, (hbl n k hk).1, rfl⟩) (fun _ => .inl rfl) (hrep _ r i x hx hxi)
    | own_end => exact nilCase rfl _ _ rfl
    | own_nil => exact nilCase rfl _ _ rfl
    | own_gone _ _ _ _ _ hg _ =>
      have := pick hg (by simp)
      rw [hloc] at this; cases this
  | pb n j i k row ys hk hrow hl _ ih =>
    intro p u L1 hp hL1 hr p'
    obtain ⟨loc, hloc, hB⟩ := h.blk n k (hbl n k hk).2
    have pick : ∀ {m : NL}, L1 n = m → m ≠ .free → L n = m := fun {m} e hne => by
      rcases hL1 n with g | g
      · rw [← g]; exact e
      · rw [g] at e; exact absurd e.symm hne
    cases hr with
    | pb _ _ _ _ b o cap hL =>
      have hL := pick hL (by simp)
      rw [hloc] at hL
      cases hL
      obtain ⟨hob, cs, us, hh, hcs, hxs, hz, hcell, hrep⟩ := hB
      refine .pi ys _ (fun q => us j (i + q)) ⟨.inr ⟨n, [], (hbl n k hk).1, hob⟩, (h.ow b _ hob).2, rfl⟩ (fun q y hq => ?_) (fun q y hq => ?_)
      · obtain ⟨x, hx⟩ := get_of_le hl hq
        rw [List.getElem?_drop] at hx
        have := hcell j row (i + q) x hrow hx
        show w.cell? ⟨b, (o + j) * k.sz + i + q, none⟩ = _
        rw [cell_of_row w b _ cs k.e (0, 0) hh, ← this, Nat.add_assoc]
      · obtain ⟨x, hx⟩ := get_of_le hl hq
        refine ih q x y hx hq (fun b q hq => ⟨n, _, (hbl n k hk).1, rfl⟩) (fun _ => .inl rfl) (hrep j row (i + q) x hrow (by rwa [List.getElem?_drop] at hx))
    | pb_gone _ _ _ _ _ hg _ =>
      have := pick hg (by simp)
      rw [hloc] at this; cases this
theorem Rep.fz (h : RelX C s a w S Ow L) {x y : AV} (hf : Fz s.bl x y) {u : Value} {r p' : Path} (hr : Rep w S Ow L (0 :: r) x u) : Rep w (lent S Ow) noOwner noName p' y u :=
  (Rep.fzN h (N := fun _ => True) (fun n k hk => ⟨trivial, hk⟩) hf (fun b q hq => absurd hq (h.ow0 b _)) (fun _ => .inl rfl) hr).world (Nat.le_refl _) (fun _ hk => lentN_lent hk) (fun _ _ => rfl) (fun _ _ _ => rfl)
end
end Go.Proofs.Ytejpklajfcngbaa.En
end
section
namespace Go.Proofs.Ytejpklajfcngbaa.En
open Go.RowKit
set_option linter.unusedSimpArgs false
set_option linter.unusedVariables false

def Post (C : Ctx) (Q : Exit → AS → Prop) (e : Exit) (a : Act) (w : World) : Prop := ∃ s S Ow L, Q e s ∧ RelX C s a w S Ow L
def Holds (P : Program) (nt : NT) (c : Code) (Q : Exit → AS → Prop) (s : AS) : Prop :=
  ∀ (C : Ctx) (a : Act) (w : World) (S : Nat → Prop) (Ow : Owners) (L : Names), C.nt = nt → RelX C s a w S Ow L → c.wp P (Post C Q) a w
def thenA (K : AS → Prop) (Q : Exit → AS → Prop) : Exit → AS → Prop
  | .normal, s => K s
  | e, s => Q e s
def inB (id : Nat) (Q : Exit → AS → Prop) : Exit → AS → Prop
  | .exit i, s => if i = id then Q .normal s else Q (.exit i) s
  | e, s => Q e s

section
variable {P : Program} {nt : NT} {Q Q' : Exit → AS → Prop} {s s' : AS}

theorem Holds.mono {c : Code} (h : Holds P nt c Q s) (hQ : ∀ e s, Q e s → Q' e s) : Holds P nt c Q' s :=
  fun C a w S Ow L hn hR => wp_mono (h C a w S Ow L hn hR) fun e a w ⟨s, S, Ow, L, q, r⟩ => ⟨s, S, Ow, L, hQ e s q, r⟩
theorem Holds.seq {x y : Code} (h : Holds P nt x (thenA (Holds P nt y Q) Q) s) : Holds P nt (.seq x y) Q s := by
  intro C a w S Ow L hn hR
  refine wp_seq (wp_mono (h C a w S Ow L hn hR) ?_)
  rintro e a1 w1 ⟨s1, S1, Ow1, L1, q, r⟩
  cases e with
  | normal => exact q C a1 w1 S1 Ow1 L1 hn r
  | _ => exact ⟨s1, S1, Ow1, L1, q, r⟩
theorem Holds.block {id : Nat} {c : Code} (h : Holds P nt c (inB id Q) s) : Holds P nt (.block id c) Q s := by
  intro C a w S Ow L hn hR
  refine wp_block (wp_mono (h C a w S Ow L hn hR) ?_)
  rintro e a1 w1 ⟨s1, S1, Ow1, L1, q, r⟩
  cases e with
  | exit i =>
    simp only [inB] at q
    simp only [Exit.inBlock]
    split
    · rename_i hi; rw [if_pos hi] at q; exact ⟨s1, S1, Ow1, L1, q, r⟩
    · rename_i hi; rw [if_neg hi] at q; exact ⟨s1, S1, Ow1, L1, q, r⟩
  | _ => exact ⟨s1, S1, Ow1, L1, q, r⟩
theorem Holds.skip (h : Q .normal s) : Holds P nt .skip Q s := fun _ _ _ S Ow L _ hR => wp_skip ⟨s, S, Ow, L, h, hR⟩
theorem Holds.exit {id : Nat} (h : Q (.exit id) s) : Holds P nt (.exit id) Q s := fun _ _ _ S Ow L _ hR => wp_exit ⟨s, S, Ow, L, h, hR⟩
theorem Holds.ret (h : Q .ret s) : Holds P nt .ret Q s := fun _ _ _ S Ow L _ hR => wp_ret ⟨s, S, Ow, L, h, hR⟩
theorem Holds.cond {c : Operand} {x y : Code} {b : Bool} (hc : ev s c = some (.v (.bool b))) (h1 : b = true → Holds P nt x Q s) (h2 : b = false → Holds P nt y Q s) : Holds P nt (.cond c x y) Q s := by
  intro C a w S Ow L hn hR
  obtain ⟨e, _⟩ := (ev_rep hR hc).v_inv
  exact wp_cond_split e (fun hb => h1 hb C a w S Ow L hn hR) (fun hb => h2 hb C a w S Ow L hn hR)
theorem thenA_normal {K : AS → Prop} (h : K s) : thenA K Q .normal s := h
theorem thenA_exit {K : AS → Prop} {i : Nat} (h : Q (.exit i) s) : thenA K Q (.exit i) s := h
theorem thenA_ret {K : AS → Prop} (h : Q .ret s) : thenA K Q .ret s := h
theorem inB_normal {id : Nat} (h : Q .normal s) : inB id Q .normal s := h
theorem inB_ret {id : Nat} (h : Q .ret s) : inB id Q .ret s := h
theorem inB_here {id : Nat} (h : Q .normal s) : inB id Q (.exit id) s := by simpa [inB] using h
theorem inB_past {id i : Nat} (hi : (i == id) = false) (h : Q (.exit i) s) : inB id Q (.exit i) s := by
  have : i ≠ id := by simpa using hi
  simpa [inB, this] using h
theorem least (p : Nat → Prop) (h : ∃ n, p n) : ∃ n, p n ∧ ∀ m, p m → n ≤ m := by
  obtain ⟨n, hn⟩ := h
  induction n using Nat.strongRecOn with
  | _ n ih =>
    by_cases g : ∃ m, m < n ∧ p m
    · obtain ⟨m, hm, hp⟩ := g
      exact ih m hm hp
    · exact ⟨n, hn, fun m hm => Nat.le_of_not_lt fun hl => g ⟨m, hl, hm⟩⟩
def Cov (k : Nat) (s0 s1 : AS) : Prop := ∀ (C : Ctx) (a : Act) (w : World) (S : Nat → Prop) (Ow : Owners) (L : Names), C.nt.k = k → RelX C s1 a w S Ow L → ∃ S' Ow' L', RelX C s0 a w S' Ow' L'
theorem Cov.refl (k : Nat) (s : AS) : Cov k s s := fun _ _ _ S Ow L _ h => ⟨S, Ow, L, h⟩
theorem Cov.trans {n : Nat} {a b c : AS} (h : Cov n a b) (k : Cov n b c) : Cov n a c := fun C x w S Ow L e r => let ⟨S', Ow', L', r'⟩ := k C x w S Ow L e r; h C x w S' Ow' L' e r'
theorem Holds.loop {c : Code} {ι : Type} (I : ι → AS) (V : ι → Prop) (μ : ι → Nat) (i0 : ι) (h0 : V i0) (hs : Cov nt.k (I i0) s)
    (round : ∀ i, V i → Holds P nt c (thenA (fun s1 => ∃ j, V j ∧ μ j < μ i ∧ Cov nt.k (I j) s1) Q) (I i)) : Holds P nt (.loop c) Q s := by
  intro C a w S Ow L hn hR
  obtain ⟨S0, Ow0, L0, hR0⟩ := hs C a w S Ow L (by rw [hn]) hR
  let J : Act → World → Nat → Prop := fun a w n => ∃ i, μ i = n ∧ V i ∧ ∃ S Ow L, RelX C (I i) a w S Ow L
  have hJ : ∀ a w, (∃ n, J a w n) → ∃ n, J a w n ∧ ∀ m, J a w m → n ≤ m := fun a w => least _
  let M : Act → World → Nat := fun a w => by
    classical exact if h : ∃ n, J a w n then Classical.choose (hJ a w h) else 0
  have hM : ∀ a w, (∃ n, J a w n) → J a w (M a w) ∧ ∀ m, J a w m → M a w ≤ m := fun a w h => by
    have := Classical.choose_spec (hJ a w h)
    simp only [M, dif_pos h]
    exact this
  refine wp_loop (fun a w => ∃ n, J a w n) M ⟨_, i0, rfl, h0, S0, Ow0, L0, hR0⟩ fun a1 w1 h1 => ?_
  obtain ⟨⟨i, hi, hV, S1, Ow1, L1, hR1⟩, _⟩ := hM a1 w1 h1
  refine wp_mono (round i hV C a1 w1 S1 Ow1 L1 hn hR1) ?_
  rintro e a2 w2 ⟨s2, S2, Ow2, L2, q, r⟩
  cases e with
  | normal =>
    obtain ⟨j, hVj, hlt, hc⟩ := q
    obtain ⟨S3, Ow3, L3, hR3⟩ := hc C a2 w2 S2 Ow2 L2 (by rw [hn]) r
    have hj : J a2 w2 (μ j) := ⟨j, rfl, hVj, S3, Ow3, L3, hR3⟩
    have := (hM a2 w2 ⟨_, hj⟩).2 _ hj
    exact ⟨⟨_, hj⟩, by omega⟩
  | _ => exact ⟨s2, S2, Ow2, L2, q, r⟩
theorem Holds.cov {c : Code} (hc : Cov nt.k s' s) (h : Holds P nt c Q s') : Holds P nt c Q s := fun C a w S Ow L hn hR => let ⟨S', Ow', L', hR'⟩ := hc C a w S Ow L (by rw [hn]) hR; h C a w S' Ow' L' hn hR'

/-! #### regions in the order of their text -/
def G (P : Program) (nt : NT) (ops : Array Oper) (K : AS → Prop) (l : List Nat) (s : AS) : Prop :=
  ∀ (C : Ctx) (a : Act) (w : World) (S : Nat → Prop) (Ow : Owners) (L : Names) (Q : Exit → Act → World → Prop), C.nt = nt → RelX C s a w S Ow L →
    (∀ s a w S Ow L, K s → RelX C s a w S Ow L → Q .normal a w) → wpOps P ops Q l a w
variable {ops : Array Oper} {K : AS → Prop} {l : List Nat} {i : Nat} {o : Oper}
theorem Holds.region {id : Nat} (h : G P nt ops (fun s => Q .normal s) (List.range ops.size) s) : Holds P nt (.region id ops false) Q s :=
  fun C a w S Ow L hn hR => wp_region (h C a w S Ow L _ hn hR fun s a w S Ow L q r => ⟨s, S, Ow, L, q, r⟩)
theorem G.nil (h : K s) : G P nt ops K [] s := fun _ _ _ _ _ _ _ _ hR hQ => hQ _ _ _ _ _ _ h hR
theorem G.step (ho : ops[i]? = some o) (hg : gd ops s o = some true) (ha : astep P nt s o = some s') (h : G P nt ops K l s') : G P nt ops K (i :: l) s := by
  intro C a w S Ow L Q hn hR hQ
  subst hn
  simp only [wpOps, ho, gd_sound hR hg, if_true]
  left
  obtain ⟨n, w', Ow', L', hr, ⟨u, rfl, hR'⟩ | ⟨rfl, hR'⟩⟩ := astep_sound hR ha
  · unfold Oper.wp; rw [hr]; exact h C _ _ _ _ _ Q rfl hR' hQ
  · unfold Oper.wp; rw [hr]; exact h C _ _ _ _ _ Q rfl hR' hQ
theorem G.skip (ho : ops[i]? = some o) (hg : gd ops s o = some false) (hd : okd nt.n o.dst = true) (h : G P nt ops K l (put s o.dst (.tu []))) : G P nt ops K (i :: l) s := by
  intro C a w S Ow L Q hn hR hQ
  subst hn
  simp only [wpOps, ho, gd_sound hR hg, Bool.false_eq_true, if_false]
  exact h C _ _ _ _ _ Q rfl (hR.skip hd) hQ
theorem G.guard {b : Bool} (ho : ops[i]? = some o) (hg : gd ops s o = some b) (h1 : b = true → G P nt ops K (i :: l) s) (h2 : b = false → G P nt ops K (i :: l) s) : G P nt ops K (i :: l) s := by
  cases b
  · exact h2 rfl
  · exact h1 rfl

/-! #### calls of functions that write nothing that stood -/
def Ent (P : Program) (f : FuncId) : Prop := ∃ fn, P.funcs[f]? = some fn ∧ (fn.name == "runtime.NumGoroutine") = false ∧ fn.body.isNone = false
def Pure (P : Program) (f : FuncId) (args : List AV) (r : AV) : Prop :=
  Ent P f ∧ ∀ (W : World) (S : Nat → Prop) (us : List Value), (∀ k, S k → k < W.heap.size) → us.length = args.length → (∀ (i : Nat) (x : AV) (u : Value), args[i]? = some x → us[i]? = some u → Rep W S noOwner noName [] x u) →
    Calls P f us.toArray W fun e w' => ∃ v, e = .returned v ∧ BelowD W.heap.size W w' ∧ ∃ S' : Nat → Prop, (∀ k, S k → S' k) ∧ (∀ k, S' k → k < w'.heap.size ∧ (S k ∨ W.heap.size ≤ k)) ∧ Rep w' S' noOwner noName [] r v
theorem run_call {P : Program} {f : FuncId} {args : Array Value} {w : World} (h : Ent P f) : (callFunc f args).run P w = .ok (.enter f args) w := by
  obtain ⟨fn, h1, h2, h3⟩ := h
  have h2' : ¬ fn.name = "runtime.NumGoroutine" := by simpa using h2
  have h3' : ¬ fn.body = none := by
    intro e
    rw [e] at h3
    cases h3
  simp [callFunc, h1, h2', h3']
theorem exec_call {a : Act} {c : Operand} {aas : Array Operand} {ts : Array TypeId} {w : World} {f : FuncId} {us : List Value} (ho : o.op = .call ⟨.value c, aas, ts⟩) (he : a.eval c = .func (.func f) #[] us.toArray) (h : Ent P f) :
    (execOp a.eval o).run P w = .ok (.enter f (aas.toList.map a.eval ++ us).toArray) w := by
  unfold execOp
  have e : (aas.toList.map a.eval ++ us).toArray = aas.map a.eval ++ us.toArray := by simp
  simp [ho, resolve, Deferred.ofValue, he, invoke, run_call h, e]
def isV : AV → Bool
  | .v _ => true
  | _ => false
def dry1 : AV → Bool
  | .v _ => true
  | .ag xs => xs.all isV
  | _ => false
def dry : AV → Bool
  | .v _ => true
  | .ag xs | .tu xs => xs.all dry1
  | _ => false
theorem Rep.isV {w w' : World} {S S' : Nat → Prop} {Ow Ow' : Owners} {L L' : Names} {p p' : Path} {x : AV} {u : Value} (h : Rep w S Ow L p x u) (hd : En.isV x = true) : Rep w' S' Ow' L' p' x u := by
  cases h with
  | v _ h => exact .v _ h
  | _ => simp [En.isV] at hd
theorem Rep.dry1 {w w' : World} {S S' : Nat → Prop} {Ow Ow' : Owners} {L L' : Names} {p p' : Path} {x : AV} {u : Value} (h : Rep w S Ow L p x u) (hd : En.dry1 x = true) : Rep w' S' Ow' L' p' x u := by
  cases h with
  | v _ h => exact .v _ h
  | ag xs us hl hr =>
    simp only [En.dry1, List.all_eq_true] at hd
    exact .ag xs us hl fun i x u hx hu => (hr i x u hx hu).isV (hd x (List.mem_of_getElem? hx))
  | _ => simp [En.dry1] at hd
theorem Rep.dry {w w' : World} {S S' : Nat → Prop} {Ow Ow' : Owners} {L L' : Names} {p p' : Path} {x : AV} {u : Value} (h : Rep w S Ow L p x u) (hd : En.dry x = true) : Rep w' S' Ow' L' p' x u := by
  cases h with
  | v _ h => exact .v _ h
  | ag xs us hl hr =>
    simp only [En.dry, List.all_eq_true] at hd
    exact .ag xs us hl fun i x u hx hu => (hr i x u hx hu).dry1 (hd x (List.mem_of_getElem? hx))
  | tu xs us hl hr =>
    simp only [En.dry, List.all_eq_true] at hd
    exact .tu xs us hl fun i x u hx hu => (hr i x u hx hu).dry1 (hd x (List.mem_of_getElem? hx))
  | _ => simp [En.dry] at hd
inductive FzL (bl : List (Nat × Blk)) : List AV → List AV → Prop
  | nil : FzL bl [] []
  | cons {x y : AV} {xs ys : List AV} (h : Fz bl x y) (hr : FzL bl xs ys) : FzL bl (x :: xs) (y :: ys)
theorem FzL.len {bl : List (Nat × Blk)} {xs ys : List AV} (h : FzL bl xs ys) : ys.length = xs.length := by induction h <;> simp_all
theorem FzL.get {bl : List (Nat × Blk)} {xs ys : List AV} (h : FzL bl xs ys) : ∀ (i : Nat) (x y : AV), xs[i]? = some x → ys[i]? = some y → Fz bl x y := by
  induction h with
  | nil => intro i x y hx; simp at hx
  | cons h _ ih =>
    intro i x y hx hy
    cases i with
    | zero => simp at hx hy; subst hx hy; exact h
    | succ i => exact ih i x y (by simpa using hx) (by simpa using hy)
theorem args_rep {C : Ctx} {a : Act} {w : World} {S : Nat → Prop} {Ow : Owners} {L : Names} (h : RelX C s a w S Ow L) {aas : Array Operand} {f : FuncId} {xs cap ys : List AV} {us : List Value} (he : aas.toList.mapM (ev s) = some xs) (hc : Rep w S Ow L [0] (.fn f cap) (.func (.func f) #[] us.toArray)) (hf : FzL s.bl (xs ++ cap) ys) :
    (aas.toList.map a.eval ++ us).length = ys.length ∧ ∀ (i : Nat) (y : AV) (u : Value), ys[i]? = some y → (aas.toList.map a.eval ++ us)[i]? = some u → Rep w (lent S Ow) noOwner noName [] y u := by
  obtain ⟨us', e, hl, hr⟩ := hc.fn_inv
  simp only [Value.func.injEq, true_and] at e
  have e : us = us' := by simpa using e
  subst e
  have hxl : xs.length = aas.toList.length := mapM_some_length he
  refine ⟨by rw [hf.len]; simp only [List.length_append, List.length_map, hl, hxl], fun i y u hy hu => ?_⟩
  obtain ⟨x, hx⟩ := get_of_len hf.len hy
  have hz := hf.get i x y hx hy
  by_cases hi : i < xs.length
  · rw [List.getElem?_append_left hi] at hx
    rw [List.getElem?_append_left (by simp only [List.length_map]; omega)] at hu
    simp only [List.getElem?_map, Option.map_eq_some_iff] at hu
    obtain ⟨op, hop, rfl⟩ := hu
    have := mapM_some_get he i op hop
    rw [hx] at this
    exact (ev_rep h this).fz h hz
  · rw [List.getElem?_append_right (by omega)] at hx
    rw [List.getElem?_append_right (by simp only [List.length_map]; omega)] at hu
    have e2 : (aas.toList.map a.eval).length = xs.length := by simp only [List.length_map]; omega
    rw [e2] at hu
    exact (hr _ x u hx hu).fz h hz
theorem lent_lt {C : Ctx} {a : Act} {w : World} {S : Nat → Prop} {Ow : Owners} {L : Names} (h : RelX C s a w S Ow L) (k : Nat) (hk : lent S Ow k) : k < w.heap.size := by
  rcases hk with hk | hk
  · exact h.ltS k hk
  · cases e : Ow k with
    | none => exact absurd e hk
    | some p => exact (h.ow k p e).2
theorem G.call {c : Operand} {aas : Array Operand} {ts : Array TypeId} {f : FuncId} {xs cap ys : List AV} {r : AV} (ho : ops[i]? = some o) (hg : gd ops s o = some true) (hop : o.op = .call ⟨.value c, aas, ts⟩) (hd : okd nt.n o.dst = true)
    (hc : ev s c = some (.fn f cap)) (he : aas.toList.mapM (ev s) = some xs) (hf : FzL s.bl (xs ++ cap) ys) (hp : Pure P f ys r) (hr : dry r = true) (h : G P nt ops K l (put s o.dst r)) : G P nt ops K (i :: l) s := by
  intro C a w S Ow L Q hn hR hQ
  subst hn
  simp only [wpOps, ho, gd_sound hR hg, if_true]
  left
  have hcr := ev_rep hR hc
  obtain ⟨us, e, _⟩ := hcr.fn_inv
  rw [e] at hcr
  obtain ⟨hl, hrep⟩ := args_rep hR he hcr hf
  unfold Oper.wp
  rw [exec_call hop e hp.1]
  refine Calls.mono (hp.2 w (lent S Ow) _ (lent_lt hR) hl hrep) fun e' w' => ?_
  rintro ⟨v, rfl, hb, S', _, _, hv⟩
  exact h C _ _ _ _ _ Q rfl ((hR.grown hb).put o.dst hd (hv.dry hr)) hQ

/-! #### regions that draw their order -/
def Gq (P : Program) (nt : NT) (ops : Array Oper) (K : AS → Prop) (l : List Oper) (s : AS) : Prop :=
  ∀ (C : Ctx) (a : Act) (w : World) (S : Nat → Prop) (Ow : Owners) (L : Names), C.nt = nt → RelX C s a w S Ow L →
    wpQuiet P ops (fun w' => BelowD w.heap.size w w') (fun a' => ∃ s' S' Ow' L', K s' ∧ RelX C s' a' w S' Ow' L') l a
variable {lo : List Oper}
theorem Holds.draw {id : Nat} (hm : P.follows .mixedOrders = true) (hB : Region.lexB .any ops = true) (h : Gq P nt ops (fun s => Q .normal s) ops.toList s) : Holds P nt (.region id ops true) Q s := by
  intro C a w S Ow L hn hR
  refine wp_region_quiet (C := fun w' => BelowD w.heap.size w w') hm hB (BelowD.drew (BelowD.refl _ w)) ?_
  have mono : ∀ (l : List Oper) (a : Act) {K K' : Act → Prop}, (∀ a, K a → K' a) → wpQuiet P ops (fun w' => BelowD w.heap.size w w') K l a → wpQuiet P ops (fun w' => BelowD w.heap.size w w') K' l a := by
    intro l
    induction l with
    | nil => intro a K K' hk h; exact hk a h
    | cons o l ih =>
      intro a K K' hk h
      simp only [wpQuiet] at h ⊢
      split
      · rename_i hw
        rw [if_pos hw] at h
        obtain ⟨v, h1, h2⟩ := h
        exact ⟨v, h1, ih _ hk h2⟩
      · rename_i hw
        rw [if_neg hw] at h
        exact ih _ hk h
  refine mono _ _ ?_ (h C a w S Ow L hn hR)
  rintro a' ⟨s', S', Ow', L', q, r⟩ w' hb
  exact ⟨s', S', Ow', L', q, r.grown hb⟩
theorem Gq.nil (h : K s) : Gq P nt ops K [] s := fun C a w S Ow L _ hR => ⟨s, S, Ow, L, h, hR⟩
theorem Gq.step (hg : gd ops s o = some true) (ha : qstep P nt s o = some s') (h : Gq P nt ops K lo s') : Gq P nt ops K (o :: lo) s := by
  intro C a w S Ow L hn hR
  subst hn
  simp only [wpQuiet, gd_sound hR hg, if_true]
  obtain ⟨u, Ow', L', hr, hR'⟩ := qstep_sound hR ha
  refine ⟨u, fun w' hb => ?_, h C _ w S Ow' L' rfl hR'⟩
  unfold Oper.quietAt
  rw [hr w' hb]
  exact ⟨rfl, rfl⟩
theorem Gq.skip (hg : gd ops s o = some false) (hd : okd nt.n o.dst = true) (h : Gq P nt ops K lo (put s o.dst (.tu []))) : Gq P nt ops K (o :: lo) s := by
  intro C a w S Ow L hn hR
  subst hn
  simp only [wpQuiet, gd_sound hR hg, Bool.false_eq_true, if_false]
  exact h C _ w S Ow L rfl (hR.skip hd)
theorem Gq.guard {b : Bool} (hg : gd ops s o = some b) (h1 : b = true → Gq P nt ops K (o :: lo) s) (h2 : b = false → Gq P nt ops K (o :: lo) s) : Gq P nt ops K (o :: lo) s := by
  cases b
  · exact h2 rfl
  · exact h1 rfl
theorem Gq.call {c : Operand} {aas : Array Operand} {ts : Array TypeId} {f : FuncId} {xs cap ys : List AV} {x : Value} (hg : gd ops s o = some true) (hop : o.op = .call ⟨.value c, aas, ts⟩) (hd : okd nt.n o.dst = true)
    (hc : ev s c = some (.fn f cap)) (he : aas.toList.mapM (ev s) = some xs) (hf : FzL s.bl (xs ++ cap) ys) (hp : Pure P f ys (.v x)) (h1 : x.oneCell' = true) (h : Gq P nt ops K lo (put s o.dst (.v x))) : Gq P nt ops K (o :: lo) s := by
  intro C a w S Ow L hn hR
  subst hn
  simp only [wpQuiet, gd_sound hR hg, if_true]
  have hcr := ev_rep hR hc
  obtain ⟨us, e, _⟩ := hcr.fn_inv
  rw [e] at hcr
  obtain ⟨hl, hrep⟩ := args_rep hR he hcr hf
  refine ⟨x, fun w' hb => ?_, h C _ w S Ow L rfl (hR.put o.dst hd (.v x h1))⟩
  unfold Oper.quietAt
  rw [exec_call hop e hp.1]
  refine ⟨rfl, Calls.mono (hp.2 w' (lent S Ow) _ (fun k hk => Nat.lt_of_lt_of_le (lent_lt hR k hk) hb.size) hl fun i y u hy hu => (hrep i y u hy hu).world hb.size (fun _ h => h) (fun k hk => hb.block k (lent_lt hR k hk)) (fun k q hk => by cases hk)) fun e' w2 => ?_⟩
  rintro ⟨v, rfl, hb2, S', _, _, hv⟩
  obtain ⟨rfl, _⟩ := hv.v_inv
  exact ⟨rfl, hb.toBelow.trans ⟨hb2.os, hb2.tape, hb2.output, hb2.size, fun k hk => hb2.block k (Nat.lt_of_lt_of_le hk hb.size)⟩, Nat.le_trans hb.drawn hb2.drawn⟩

/-! #### a function's own contract -/
def sl : Nat → List AV → List (Nat × AV)
  | _, [] => []
  | k, x :: r => (k, x) :: sl (k + 1) r
theorem lk_sl (xs : List AV) : ∀ (k t : Nat) (x : AV), lk (sl k xs) t = some x → k ≤ t ∧ xs[t - k]? = some x := by
  induction xs with
  | nil => intro k t x h; simp [sl, lk] at h
  | cons y r ih =>
    intro k t x h
    simp only [sl, lk] at h
    split at h
    · rename_i e; cases h; subst e; simp
    · rename_i e
      obtain ⟨h1, h2⟩ := ih (k + 1) t x h
      refine ⟨by omega, ?_⟩
      rw [show t - k = (t - (k + 1)) + 1 by omega]
      simpa using h2
def Ret (ts : List Nat) (r : AV) (e : Exit) (s : AS) : Prop :=
  (e = .normal ∨ e = .ret) ∧ match ts with
    | [t] => ∃ x, lk s.tm t = some x ∧ Fz s.bl x r
    | ts => ∃ xs, ts.mapM (lk s.tm) = some xs ∧ Fz s.bl (.tu xs) r
theorem Ret.one {t : Nat} {r x : AV} {e : Exit} {s : AS} (hx : lk s.tm t = some x) (hf : Fz s.bl x r) (he : e = .normal ∨ e = .ret) : Ret [t] r e s := ⟨he, x, hx, hf⟩
theorem Ret.many {t u : Nat} {ts : List Nat} {r : AV} {xs : List AV} {e : Exit} {s : AS} (hx : (t :: u :: ts).mapM (lk s.tm) = some xs) (hf : Fz s.bl (.tu xs) r) (he : e = .normal ∨ e = .ret) : Ret (t :: u :: ts) r e s := ⟨he, xs, hx, hf⟩
theorem Ret.none {r : AV} {e : Exit} {s : AS} (hf : Fz s.bl (.tu []) r) (he : e = .normal ∨ e = .ret) : Ret [] r e s := ⟨he, [], rfl, hf⟩
def rv (tmps : Array Value) : List Nat → Value
  | [t] => tmps.getD t undef
  | ts => .tuple (ts.map fun t => tmps.getD t undef).toArray
theorem mapM_tmp (f : ResultVar → Sem Value) (g : Nat → Value) (hf : ∀ t, f (.tmp t) = pure (g t)) : ∀ ts : List Nat, (ts.map ResultVar.tmp).mapM f = pure (ts.map g)
  | [] => rfl
  | t :: r => by rw [List.map_cons, List.mapM_cons, mapM_tmp f g hf r, hf]; rfl
theorem results_of (fn : Func) (ts : List Nat) (hr : fn.results = (ts.map ResultVar.tmp).toArray) (tmps : Array Value) (P : Program) (w : World) :
    (results fn tmps).run P w = .ok (rv tmps ts) w := by
  unfold results
  simp only [hr, List.mapM_toArray]
  rw [mapM_tmp _ (fun t => tmps.getD t undef) (fun t => rfl)]
  clear hr
  match ts with
  | [] => rfl
  | [t] => rfl
  | t :: u :: r => simp [rv]
theorem Pure.of {f : FuncId} {fn : Func} {c : Code} {args : List AV} {ts : List Nat} {r : AV} (hf : P.funcs[f]? = some fn) (hn : (fn.name == "runtime.NumGoroutine") = false) (hb : fn.body = some c) (hr : fn.results = (ts.map ResultVar.tmp).toArray) (hnt : args.length ≤ fn.ntmps)
    (h : Holds P ⟨fn.ntmps, 0⟩ c (Ret ts r) ⟨sl 0 args, [], 0⟩) : Pure P f args r := by
  refine ⟨⟨fn, hf, hn, by rw [hb]; rfl⟩, fun W S us hS hl hrep => calls_of_wp hf hb ?_⟩
  have hsz : us.toArray.size = args.length := by simpa using hl
  have hR : RelX ⟨W, fun _ => False, S, ⟨fn.ntmps, 0⟩, fun _ => none⟩ ⟨sl 0 args, [], 0⟩ { tmps := us.toArray ++ Array.replicate (fn.ntmps - us.toArray.size) undef, defers := [] } W S noOwner noName := by
    refine { fix := fun n loc hn => (by cases hn), keep := Keep.refl W _, inS := fun k hk => hk, upS := fun k hk => .inl hk, ltS := hS, owS := fun k _ => rfl, ow := fun k p hk => (by cases hk), ow0 := fun k q hk => (by cases hk), blk := fun n k hk => (by simp [lb] at hk), fresh := fun n _ => rfl, named := fun n hn => absurd hn (Nat.not_lt_zero n), freshO := fun k n q hk => (by cases hk), slot := fun t x hx => ?_, size := ?_, defers := rfl }
    · obtain ⟨_, hx⟩ := lk_sl args 0 t x hx
      rw [Nat.sub_zero] at hx
      have hlt : t < us.length := by have := (List.getElem?_eq_some_iff.1 hx).1; omega
      have hu : us[t]? = some us[t] := List.getElem?_eq_getElem hlt
      refine ⟨us[t], ?_, (hrep t x _ hx hu).any⟩
      rw [Array.getElem?_append_left (by simpa using hlt)]
      simp [hlt]
    · simp; omega
  refine wp_mono (h _ _ _ _ _ _ rfl hR) ?_
  rintro e a w ⟨s, S1, Ow, L, ⟨he, hq⟩, hR1⟩
  have key : ∀ v, (results fn a.tmps).run P w = .ok v w → (∃ x, Rep w S1 Ow L [0] x v ∧ Fz s.bl x r) → a.defers = [] ∧ ∃ v, (results fn a.tmps).run P w = .ok v w ∧ ∃ v', Ending.returned v = .returned v' ∧ BelowD W.heap.size W w ∧ ∃ S' : Nat → Prop, (∀ k, S k → S' k) ∧ (∀ k, S' k → k < w.heap.size ∧ (S k ∨ W.heap.size ≤ k)) ∧ Rep w S' noOwner noName [] r v' := by
    rintro v hv ⟨x, hx, hz⟩
    refine ⟨hR1.defers, v, hv, v, rfl, hR1.keep.below, lent S1 Ow, fun k hk => .inl (hR1.inS k hk), fun k hk => ⟨lent_lt hR1 k hk, ?_⟩, hx.fz hR1 hz⟩
    rcases hk with hk | hk
    · rcases hR1.upS k hk with g | g | g
      · exact .inl g
      · exact .inr g
      · exact g.elim
    · cases e : Ow k with
      | none => exact absurd e hk
      | some p => exact .inr ((hR1.ow k p e).1.resolve_right fun g => g)
  have slot : ∀ t x, lk s.tm t = some x → Rep w S1 Ow L [0] x (a.tmps.getD t undef) := fun t x hx => by
    obtain ⟨u, hu, hr⟩ := hR1.slot t x hx
    simpa [Array.getD_eq_getD_getElem?, hu] using hr
  have hres := results_of fn ts hr a.tmps P w
  have fin : a.defers = [] ∧ ∃ v, (results fn a.tmps).run P w = .ok v w ∧ ∃ v', Ending.returned v = .returned v' ∧ BelowD W.heap.size W w ∧ ∃ S' : Nat → Prop, (∀ k, S k → S' k) ∧ (∀ k, S' k → k < w.heap.size ∧ (S k ∨ W.heap.size ≤ k)) ∧ Rep w S' noOwner noName [] r v' := by
    have many : (∃ xs, ts.mapM (lk s.tm) = some xs ∧ Fz s.bl (.tu xs) r) → (results fn a.tmps).run P w = .ok (.tuple (ts.map fun t => a.tmps.getD t undef).toArray) w → _ := fun ⟨xs, hx, hz⟩ hres => key _ hres ⟨.tu xs, by
      have hlen : xs.length = ts.length := mapM_some_length hx
      refine .tu xs _ (by simp [hlen]) fun i x u hxi hu => ?_
      simp only [List.getElem?_map, Option.map_eq_some_iff] at hu
      obtain ⟨t, ht, rfl⟩ := hu
      have := mapM_some_get hx i t ht
      rw [hxi] at this
      exact (slot t x this).names (fun _ => .inr (.inl rfl)) (fun b q hq => absurd hq (hR1.ow0 b _)), hz⟩
    match ts, hq, hres, many with
    | [], hq, hres, many => exact many hq hres
    | [t], ⟨x, hx, hz⟩, hres, _ => exact key _ hres ⟨x, slot t x hx, hz⟩
    | t :: u :: r, hq, hres, many => exact many hq hres
  rcases he with rfl | rfl
  · exact fin
  · exact fin
end
attribute [irreducible] G Gq Holds thenA inB Pure Ret
end Go.Proofs.Ytejpklajfcngbaa.En
end
section
namespace Go.Proofs.Ytejpklajfcngbaa.En
open Go.RowKit
set_option linter.unusedSimpArgs false
set_option linter.unusedVariables false

def ren1 (ρ : Nat → Nat) : AV → AV
  | .own n sz off len => .own (ρ n) sz off len
  | .pb n sz j i => .pb (ρ n) sz j i
  | .mp n => .mp (ρ n)
  | x => x
def ren2 (ρ : Nat → Nat) : AV → AV
  | .ag xs => .ag (xs.map (ren1 ρ))
  | x => ren1 ρ x
def ren (ρ : Nat → Nat) : AV → AV
  | .ag xs => .ag (xs.map (ren1 ρ))
  | .tu xs => .tu (xs.map (ren2 ρ))
  | .fn g xs => .fn g (xs.map (ren1 ρ))
  | x => ren1 ρ x
def okr1 (nx : Nat) : AV → Bool
  | .own n _ _ _ | .pb n _ _ _ | .mp n => decide (n < nx)
  | .ag _ | .tu _ | .fn _ _ => false
  | _ => true
def okr2 (nx : Nat) : AV → Bool
  | .ag xs => xs.all (okr1 nx)
  | x => okr1 nx x
def okr (nx : Nat) : AV → Bool
  | .ag xs | .fn _ xs => xs.all (okr1 nx)
  | .tu xs => xs.all (okr2 nx)
  | x => okr1 nx x
def nf : AV → Bool
  | .v _ | .im _ _ | .pi _ | .ow _ _ _ => true
  | _ => false

section
variable {C : Ctx} {s s0 : AS} {a : Act} {w : World} {S : Nat → Prop} {Ow Ow' : Owners} {L L' : Names} {P : Program} {ρ : Nat → Nat} {nx : Nat}

theorem Rep.ren1 (hL : ∀ n, n < nx → L' n = L (ρ n) ∨ L' n = .gone) {x : AV} {p p' : Path} {u : Value} (hO : ∀ k q, Ow k = some (p ++ q) → Ow' k = some (p' ++ q)) (hx : okr1 nx x = true) (h : Rep w S Ow L p (En.ren1 ρ x) u) : Rep w S Ow' L' p' x u := by
  cases x with
  | v x => obtain ⟨rfl, h1⟩ := Rep.v_inv h; exact .v _ h1
  | ag xs => simp [okr1] at hx
  | tu xs => simp [okr1] at hx
  | fn g xs => simp [okr1] at hx
  | im sz xs =>
    simp only [En.ren1] at h
    cases h with
    | im _ _ A c ad us hc ha hS hz hcell hr => exact .im sz xs A c ad us hc ha hS hz hcell hr
  | pi xs =>
    simp only [En.ren1] at h
    cases h with
    | pi _ ad us hS hcell hr => exact .pi xs ad us hS hcell hr
  | ow e sz xs =>
    simp only [En.ren1] at h
    cases h with
    | ow _ _ _ b o cap cs us ho hh hs hc hz hcell hr =>
      refine .ow e sz xs b o cap cs us (by have := hO b [] (by simpa using ho); simpa using this) hh hs hc hz hcell fun j row i x hj hi => (hr j row i x hj hi).names (fun _ => .inr (.inl rfl)) fun k q hk => ?_
      have := hO k ([j, i] ++ q) (by rw [← List.append_assoc]; exact hk)
      rw [List.append_assoc]; exact this
    | ow_nil _ _ A => exact .ow_nil e sz A
  | own n sz off len =>
    simp only [En.ren1] at h
    simp only [okr1, decide_eq_true_eq] at hx
    rcases hL n hx with e | e
    · cases h with
      | own _ _ _ _ b o cap h hl => exact .own n sz off len b o cap (e.trans h) hl
      | own_end _ _ _ b o cap a h hl => exact .own_end n sz off b o cap a (e.trans h) hl
      | own_nil _ _ A h => exact .own_nil n sz A (e.trans h)
      | own_gone _ _ _ _ u h h1 => exact .own_gone n sz off len u (e.trans h) h1
    · exact .own_gone n sz off len u e (h.one rfl)
  | pb n sz j i =>
    simp only [En.ren1] at h
    simp only [okr1, decide_eq_true_eq] at hx
    rcases hL n hx with e | e
    · cases h with
      | pb _ _ _ _ b o cap h => exact .pb n sz j i b o cap (e.trans h)
      | pb_gone _ _ _ _ u h h1 => exact .pb_gone n sz j i u (e.trans h) h1
    · exact .pb_gone n sz j i u e (h.one rfl)
  | mp n =>
    simp only [En.ren1] at h
    simp only [okr1, decide_eq_true_eq] at hx
    rcases hL n hx with e | e
    · cases h with
      | mp _ b h => exact .mp n b (e.trans h)
      | mp_gone _ u h h1 => exact .mp_gone n u (e.trans h) h1
    · exact .mp_gone n u e (h.one rfl)

theorem Rep.ren2 (hL : ∀ n, n < nx → L' n = L (ρ n) ∨ L' n = .gone) {x : AV} {p p' : Path} {u : Value} (hO : ∀ k q, Ow k = some (p ++ q) → Ow' k = some (p' ++ q)) (hx : okr2 nx x = true) (h : Rep w S Ow L p (En.ren2 ρ x) u) : Rep w S Ow' L' p' x u := by
  have ext : ∀ (m : Nat) (i : Nat) k q, Ow k = some (p ++ [m, i] ++ q) → Ow' k = some (p' ++ [m, i] ++ q) := fun m i k q hk => by
    rw [List.append_assoc] at hk ⊢; exact hO k _ hk
  have at' : ∀ (xs : List AV) (i : Nat) (x : AV), xs.all (okr1 nx) = true → xs[i]? = some x → okr1 nx x = true ∧ (xs.map (En.ren1 ρ))[i]? = some (En.ren1 ρ x) := fun xs i x ha hi => by
    rw [List.all_eq_true] at ha
    exact ⟨ha x (List.mem_of_getElem? hi), by simp [hi]⟩
  cases x with
  | ag xs =>
    simp only [En.ren2] at h
    simp only [okr2] at hx
    obtain ⟨us, rfl, hl, hr⟩ := h.ag_inv
    refine .ag xs us (by simpa using hl) fun i x u hi hu => ?_
    obtain ⟨h1, h2⟩ := at' xs i x hx hi
    exact (hr i _ u h2 hu).ren1 hL (ext 0 i) h1
  | tu xs => exact Rep.ren1 hL hO hx h
  | fn g xs => exact Rep.ren1 hL hO hx h
  | _ => exact Rep.ren1 hL hO hx h

theorem Rep.ren (hL : ∀ n, n < nx → L' n = L (ρ n) ∨ L' n = .gone) {x : AV} {p p' : Path} {u : Value} (hO : ∀ k q, Ow k = some (p ++ q) → Ow' k = some (p' ++ q)) (hx : okr nx x = true) (h : Rep w S Ow L p (En.ren ρ x) u) : Rep w S Ow' L' p' x u := by
  have ext : ∀ (m : Nat) (i : Nat) k q, Ow k = some (p ++ [m, i] ++ q) → Ow' k = some (p' ++ [m, i] ++ q) := fun m i k q hk => by
    rw [List.append_assoc] at hk ⊢; exact hO k _ hk
  have at' : ∀ (xs : List AV) (i : Nat) (x : AV), xs.all (okr1 nx) = true → xs[i]? = some x → okr1 nx x = true ∧ (xs.map (En.ren1 ρ))[i]? = some (En.ren1 ρ x) := fun xs i x ha hi => by
    rw [List.all_eq_true] at ha
    exact ⟨ha x (List.mem_of_getElem? hi), by simp [hi]⟩
  have at2 : ∀ (xs : List AV) (i : Nat) (x : AV), xs.all (okr2 nx) = true → xs[i]? = some x → okr2 nx x = true ∧ (xs.map (En.ren2 ρ))[i]? = some (En.ren2 ρ x) := fun xs i x ha hi => by
    rw [List.all_eq_true] at ha
    exact ⟨ha x (List.mem_of_getElem? hi), by simp [hi]⟩
  cases x with
  | ag xs =>
    simp only [En.ren] at h
    simp only [okr] at hx
    obtain ⟨us, rfl, hl, hr⟩ := h.ag_inv
    refine .ag xs us (by simpa using hl) fun i x u hi hu => ?_
    obtain ⟨h1, h2⟩ := at' xs i x hx hi
    exact (hr i _ u h2 hu).ren1 hL (ext 0 i) h1
  | tu xs =>
    simp only [En.ren] at h
    simp only [okr] at hx
    obtain ⟨us, rfl, hl, hr⟩ := h.tu_inv
    refine .tu xs us (by simpa using hl) fun i x u hi hu => ?_
    obtain ⟨h1, h2⟩ := at2 xs i x hx hi
    exact (hr i _ u h2 hu).ren2 hL (ext 1 i) h1
  | fn g xs =>
    simp only [En.ren] at h
    simp only [okr] at hx
    obtain ⟨us, rfl, hl, hr⟩ := h.fn_inv
    refine .fn g xs us (by simpa using hl) fun i x u hi hu => ?_
    obtain ⟨h1, h2⟩ := at' xs i x hx hi
    exact (hr i _ u h2 hu).ren1 hL (ext 2 i) h1
  | _ => exact Rep.ren1 hL hO hx h

theorem ren_nf {x : AV} (h : nf x = true) : ren ρ x = x := by cases x <;> simp_all [nf, ren, ren1, ren2]
theorem okr_nf {x : AV} (h : nf x = true) : okr nx x = true := by cases x <;> simp_all [nf, okr, okr1, okr2]
theorem rows_nf {xs : List (List AV)} (h : ∀ row ∈ xs, ∀ x ∈ row, nf x = true) : xs.map (List.map (ren ρ)) = xs := by
  have : ∀ row ∈ xs, row.map (ren ρ) = id row := fun row hr => by
    have : ∀ x ∈ row, ren ρ x = id x := fun x hx => ren_nf (h row hr x hx)
    rw [List.map_congr_left this]; simp
  rw [List.map_congr_left this]; simp

def BlkC (ρ : Nat → Nat) (nx : Nat) (k k' : Blk) : Prop := k'.e = k.e ∧ k'.sz = k.sz ∧ ((k'.xs = k.xs ∧ ∀ row ∈ k.xs, ∀ x ∈ row, nf x = true) ∨ (k'.xs = k.xs.map (List.map (ren ρ)) ∧ ∀ row ∈ k.xs, ∀ x ∈ row, okr nx x = true))
theorem BlkC.all {k k' : Blk} (h : BlkC ρ nx k k') : k'.xs = k.xs.map (List.map (ren ρ)) ∧ ∀ row ∈ k.xs, ∀ x ∈ row, okr nx x = true := by
  rcases h.2.2 with ⟨e, hn⟩ | h
  · exact ⟨by rw [rows_nf hn, e], fun row hr x hx => okr_nf (hn row hr x hx)⟩
  · exact h
def ChkT (ρ : Nat → Nat) (nx : Nat) (tm : List (Nat × AV)) : List (Nat × AV) → Prop
  | [] => True
  | (t, x) :: r => (okr nx x = true ∧ lk tm t = some (ren ρ x)) ∧ ChkT ρ nx tm r
theorem ChkT.get {tm : List (Nat × AV)} {l : List (Nat × AV)} (h : ChkT ρ nx tm l) {t : Nat} {x : AV} (hx : lk l t = some x) : okr nx x = true ∧ lk tm t = some (En.ren ρ x) := by
  induction l with
  | nil => simp [lk] at hx
  | cons p r ih =>
    obtain ⟨k, y⟩ := p
    simp only [lk] at hx
    split at hx
    · rename_i e; cases hx; subst e; exact h.1
    · exact ih h.2 hx
def ChkB (ρ : Nat → Nat) (nx : Nat) (bl : List (Nat × Blk)) : List (Nat × Blk) → Prop
  | [] => True
  | (n, k) :: r => (n < nx ∧ (∃ k', lb bl (ρ n) = some k' ∧ BlkC ρ nx k k') ∧ ∀ p ∈ r, p.1 = n ∨ ρ p.1 ≠ ρ n) ∧ ChkB ρ nx bl r
theorem lb_mem {l : List (Nat × Blk)} {n : Nat} {k : Blk} (h : lb l n = some k) : (n, k) ∈ l := by
  induction l with
  | nil => simp [lb] at h
  | cons p r ih =>
    obtain ⟨m, y⟩ := p
    simp only [lb] at h
    split at h
    · rename_i e; cases h; subst e; exact .head _
    · exact .tail _ (ih h)
theorem ChkB.get {bl l : List (Nat × Blk)} (h : ChkB ρ nx bl l) : ∀ p ∈ l, p.1 < nx ∧ ∃ k', lb bl (ρ p.1) = some k' ∧ BlkC ρ nx p.2 k' := by
  induction l with
  | nil => intro p hp; cases hp
  | cons q r ih =>
    obtain ⟨m, y⟩ := q
    intro p hp
    cases hp with
    | head => exact ⟨h.1.1, h.1.2.1⟩
    | tail _ hp => exact ih h.2 p hp
theorem ChkB.inj {bl l : List (Nat × Blk)} (h : ChkB ρ nx bl l) : ∀ p ∈ l, ∀ q ∈ l, ρ p.1 = ρ q.1 → p.1 = q.1 := by
  induction l with
  | nil => intro p hp; cases hp
  | cons r0 r ih =>
    obtain ⟨m, y⟩ := r0
    intro p hp q hq e
    cases hp with
    | head =>
      cases hq with
      | head => rfl
      | tail _ hq =>
        rcases h.1.2.2 q hq with g | g
        · exact g.symm
        · exact absurd e.symm g
    | tail _ hp =>
      cases hq with
      | head =>
        rcases h.1.2.2 p hp with g | g
        · exact g
        · exact absurd e g
      | tail _ hq => exact ih h.2 p hp q hq e

theorem covk {k : Nat} (ρ : Nat → Nat) (hk : ∀ n, n < k → n < s0.nx ∧ (lb s0.bl n ≠ none → ρ n = n)) (ht : ChkT ρ s0.nx s.tm s0.tm) (hb : ChkB ρ s0.nx s.bl s0.bl) {C : Ctx} {a : Act} {w : World} {S : Nat → Prop} {Ow : Owners} {L : Names} (hCk : C.nt.k = k) (h : RelX C s a w S Ow L) :
    ∃ S' Ow' L', RelX C s0 a w S' Ow' L' ∧ (∀ x u, okr s0.nx x = true → Rep w S Ow L [0] (En.ren ρ x) u → Rep w S' Ow' L' [0] x u) ∧ S' = S := by
  classical
  let inv : Nat → Option Nat := fun m => if h : ∃ n k, lb s0.bl n = some k ∧ ρ n = m then some (Classical.choose h) else none
  have hinv : ∀ n k, lb s0.bl n = some k → inv (ρ n) = some n := fun n k hn => by
    have g : ∃ n' k, lb s0.bl n' = some k ∧ ρ n' = ρ n := ⟨n, k, hn, rfl⟩
    simp only [inv, dif_pos g]
    obtain ⟨k2, h1, h2⟩ := Classical.choose_spec g
    exact congrArg some (hb.inj _ (lb_mem h1) _ (lb_mem hn) h2)
  have hinv2 : ∀ m n, inv m = some n → ∃ k, lb s0.bl n = some k ∧ ρ n = m := fun m n hm => by
    simp only [inv] at hm
    split at hm
    · rename_i g
      cases hm
      exact Classical.choose_spec g
    · cases hm
  let tr : Path → Option Path := fun p => match p with
    | (m + 1) :: q => (inv m).map fun n => (n + 1) :: q
    | _ => none
  let Ow' : Owners := fun k => (Ow k).bind tr
  let L' : Names := fun n => match lb s0.bl n with
    | some _ => L (ρ n)
    | none => if n < s0.nx then .gone else .free
  have hL : ∀ n, n < s0.nx → L' n = L (ρ n) ∨ L' n = .gone := fun n hn => by
    simp only [L']
    cases lb s0.bl n with
    | some _ => exact .inl rfl
    | none => exact .inr (by simp [hn])
  have hOt : ∀ k p, Ow' k = some p → ∃ n q kk, p = (n + 1) :: q ∧ lb s0.bl n = some kk ∧ Ow k = some ((ρ n + 1) :: q) := fun k p hk => by
    simp only [Ow', Option.bind_eq_some_iff] at hk
    obtain ⟨p0, h0, h1⟩ := hk
    match p0, h1 with
    | (m + 1) :: q, h1 =>
      simp only [tr, Option.map_eq_some_iff] at h1
      obtain ⟨n, hn, rfl⟩ := h1
      obtain ⟨kk, h2, h3⟩ := hinv2 m n hn
      exact ⟨n, q, kk, rfl, h2, by rw [h3]; exact h0⟩
    | [], h1 => simp [tr] at h1
    | 0 :: q, h1 => simp [tr] at h1
  have hO : ∀ n kk, lb s0.bl n = some kk → ∀ k q, Ow k = some ((ρ n + 1) :: q) → Ow' k = some ((n + 1) :: q) := fun n kk hn k q hk => by
    simp only [Ow', hk, Option.bind_some, tr, hinv n kk hn, Option.map_some]
  refine ⟨S, Ow', L', ?_, fun x u h1 h2 => h2.ren hL (fun k q hk => absurd hk (h.ow0 k q)) h1, rfl⟩
  refine { fix := ?_, keep := h.keep, inS := h.inS, upS := h.upS, ltS := h.ltS, owS := fun k hk => by simp [Ow', h.owS k hk], ow := fun k p hk => ?_, ow0 := fun k q hk => ?_, blk := fun n k hn => ?_, fresh := fun n hn => ?_, named := fun n hn => ?_, freshO := fun k n q hk => ?_, slot := fun t x hx => ?_, size := h.size, defers := h.defers }
  · obtain ⟨n, q, kk, rfl, _, h2⟩ := hOt k p hk
    exact h.ow k _ h2
  · obtain ⟨n, q', kk, e, _⟩ := hOt k _ hk
    cases e
  · obtain ⟨hlt, k', hk', hc⟩ := hb.get _ (lb_mem hn)
    obtain ⟨loc, hl, hB⟩ := h.blk _ _ hk'
    refine ⟨loc, by simp only [L', hn]; exact hl, ?_⟩
    obtain ⟨hxs, hok⟩ := hc.all
    cases loc with
    | none =>
      have hB : k'.xs = [] := hB
      show k.xs = []
      rw [hxs] at hB
      simpa using hB
    | some p =>
      obtain ⟨h1, cs, us, h2, h3, h4, h5, h6, h7⟩ := hB
      rw [hc.2.1] at h3 h5 h6
      have get : ∀ (j : Nat) (row : List AV), k.xs[j]? = some row → k'.xs[j]? = some (row.map (En.ren ρ)) := fun j row hj => by rw [hxs]; simp [hj]
      refine ⟨hO n k hn _ [] h1, cs, us, by rw [← hc.1, show k.xs.length = k'.xs.length by rw [hxs, List.length_map]]; exact h2, h3, by rw [hxs, List.length_map] at h4; exact h4, fun j row hj => ?_, fun j row i x hj hi => h6 j _ i (En.ren ρ x) (get j row hj) (by simp [hi]), fun j row i x hj hi => ?_⟩
      · have := h5 j _ (get j row hj); simpa using this
      · exact (h7 j _ i (En.ren ρ x) (get j row hj) (by simp [hi])).ren hL (fun k2 q hk2 => hO n k hn k2 _ hk2) (hok row (List.mem_of_getElem? hj) x (List.mem_of_getElem? hi))
  · simp only [L']
    cases e : lb s0.bl n with
    | some k => exact absurd (hb.get _ (lb_mem e)).1 (Nat.not_lt.2 hn)
    | none => simp [Nat.not_lt.2 hn]
  · simp only [L']
    cases e : lb s0.bl n with
    | some k =>
      obtain ⟨_, k', hk', _⟩ := hb.get _ (lb_mem e)
      obtain ⟨loc, hl, _⟩ := h.blk _ _ hk'
      simp [hl]
    | none => simp [hn]
  · obtain ⟨m, q', kk, e, h1, _⟩ := hOt k _ hk
    cases e
    exact (hb.get _ (lb_mem h1)).1
  · obtain ⟨h1, h2⟩ := ht.get hx
    obtain ⟨u, hu, hR⟩ := h.slot t _ h2
    exact ⟨u, hu, hR.ren hL (fun k q hk => absurd hk (h.ow0 k q)) h1⟩
  · intro n loc hn
    obtain ⟨h1, h2⟩ := h.fix n loc hn
    refine ⟨h1, ?_⟩
    obtain ⟨h3, h4⟩ := hk n (by omega)
    simp only [L']
    cases e : lb s0.bl n with
    | some kk =>
      rw [e] at h4
      rw [h4 (by simp)]
      exact h2
    | none => exact .inr (by simp [h3])
theorem Cov.ofk {k : Nat} (ρ : Nat → Nat) (hk : ∀ n, n < k → n < s0.nx ∧ (lb s0.bl n ≠ none → ρ n = n)) (ht : ChkT ρ s0.nx s.tm s0.tm) (hb : ChkB ρ s0.nx s.bl s0.bl) : Cov k s0 s :=
  fun C a w S Ow L hCk h => let ⟨S', Ow', L', h', _⟩ := covk ρ hk ht hb hCk h; ⟨S', Ow', L', h'⟩
theorem Cov.of (ρ : Nat → Nat) (ht : ChkT ρ s0.nx s.tm s0.tm) (hb : ChkB ρ s0.nx s.bl s0.bl) : Cov 0 s0 s := Cov.ofk ρ (fun n hn => absurd hn (Nat.not_lt_zero n)) ht hb
end
end Go.Proofs.Ytejpklajfcngbaa.En
end
section
namespace Go.Proofs.Ytejpklajfcngbaa.En
open Go.RowKit
set_option linter.unusedSimpArgs false
set_option linter.unusedVariables false
section
attribute [local semireducible] G Gq Holds
variable {P : Program} {nt : NT} {Q : Exit → AS → Prop} {s s' : AS} {ops : Array Oper} {K : AS → Prop} {i : Nat} {o : Oper} {l : List Oper}
def again (s : AS) (t : Nat) (x : AV) : AS := { s with tm := (t, x) :: s.tm }
theorem RelX.again {C : Ctx} {a : Act} {w : World} {S : Nat → Prop} {Ow : Owners} {L : Names} (h : RelX C s a w S Ow L) {t : Nat} {x : AV} (hx : lk s.tm t = some x) : RelX C (En.again s t x) a w S Ow L :=
  { fix := h.fix, keep := h.keep, inS := h.inS, upS := h.upS, ltS := h.ltS, owS := h.owS, ow := h.ow, ow0 := h.ow0, blk := h.blk, fresh := h.fresh, named := h.named, freshO := h.freshO, size := h.size, defers := h.defers, slot := fun t' y hy => by
      by_cases e : t = t'
      · subst e
        simp only [En.again, lk, if_true, Option.some.injEq] at hy
        subst hy
        exact h.slot t _ hx
      · simp only [En.again, lk, if_neg e] at hy
        exact h.slot t' y hy }
def GS (P : Program) (nt : NT) (ops : Array Oper) (K : AS → Prop) (l : List Oper) (i : Nat) (s : AS) : Prop := ops.toList.drop i = l → G P nt ops K (List.range' i l.length) s
theorem Holds.reg {id : Nat} (h : GS P nt l.toArray (fun s => Q .normal s) l 0 s) : Holds P nt (.region id l.toArray false) Q s := by
  refine Holds.region ?_
  have := h (by simp)
  rwa [List.range_eq_range', List.size_toArray]
theorem GS.nil (h : K s) : GS P nt ops K [] i s := fun _ => G.nil h
theorem drop_cons {α : Type} {xs l : List α} {i : Nat} {o : α} (h : xs.drop i = o :: l) : xs[i]? = some o ∧ xs.drop (i + 1) = l := by
  have h0 : (xs.drop i)[0]? = some o := by rw [h]; rfl
  refine ⟨by simpa using h0, ?_⟩
  rw [← List.drop_drop, h]; rfl
theorem GS.cons (h : ops[i]? = some o → ∀ r, (G P nt ops K r s' → G P nt ops K (i :: r) s)) (hk : GS P nt ops K l (i + 1) s') : GS P nt ops K (o :: l) i s := fun hd => by
  obtain ⟨h1, h2⟩ := drop_cons hd
  exact h (by simpa using h1) _ (hk h2)
theorem GS.step (hg : gd ops s o = some true) (ha : astep P nt s o = some s') (h : GS P nt ops K l (i + 1) s') : GS P nt ops K (o :: l) i s := GS.cons (fun ho _ hr => G.step ho hg ha hr) h
theorem GS.skip (hg : gd ops s o = some false) (hd : okd nt.n o.dst = true) (h : GS P nt ops K l (i + 1) (put s o.dst (.tu []))) : GS P nt ops K (o :: l) i s := GS.cons (fun ho _ hr => G.skip ho hg hd hr) h
theorem GS.guard {c : Bool} {t : Nat} (hl : lk s.tm t = some (.v (.bool c))) (h1 : c = true → GS P nt ops K l i (again s t (.v (.bool true)))) (h2 : c = false → GS P nt ops K l i (again s t (.v (.bool false)))) : GS P nt ops K l i s := by
  intro hd
  cases c with
  | true => exact fun C a w S Ow L Q hn hR hQ => h1 rfl hd C a w S Ow L Q hn (hR.again hl) hQ
  | false => exact fun C a w S Ow L Q hn hR hQ => h2 rfl hd C a w S Ow L Q hn (hR.again hl) hQ
theorem GS.call {c : Operand} {aas : Array Operand} {ts : Array TypeId} {f : FuncId} {xs cap ys : List AV} {r : AV} (hop : o.op = .call ⟨.value c, aas, ts⟩) (hg : gd ops s o = some true) (hd : okd nt.n o.dst = true)
    (hc : ev s c = some (.fn f cap)) (he : aas.toList.mapM (ev s) = some xs) (hf : FzL s.bl (xs ++ cap) ys) (hp : Pure P f ys r) (hr : dry r = true) (h : GS P nt ops K l (i + 1) (put s o.dst r)) : GS P nt ops K (o :: l) i s :=
  GS.cons (fun ho _ hr' => G.call ho hg hop hd hc he hf hp hr hr') h
end
attribute [go_sem] astep qstep okd aval ev lk lb put cvl gd bin binB binS binC aload astore aalloc abox abuild abuildSlice amake aslice bnd aappend loadOne prt anew st rm spl cel ok1 flat sim again
attribute [irreducible] GS
end Go.Proofs.Ytejpklajfcngbaa.En
end
