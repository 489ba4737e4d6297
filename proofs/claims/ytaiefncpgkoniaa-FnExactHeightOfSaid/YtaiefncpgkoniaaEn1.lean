/- Own words, 1: abstract values, states, and what they say of a machine's slots and memory. -/
import Derived.RowKit
import Derived.Below
import Derived.Calls
namespace Go.Proofs.Ytaiefncpgkoniaa.En
open Go.RowKit

/-- Abstract values: an exact value of one cell; a struct or an array, its cells; several results; a slice that nobody writes; a slice of one's own, as a value inside memory; a slice of the named row n; a pointer at a cell of the named row n; a pointer at cells that nobody writes; a closure. -/
inductive AV where
  | v (x : Value)
  | ag (xs : List AV)
  | tu (xs : List AV)
  | im (sz : Nat) (xs : List (List AV))
  | ow (e : TypeId) (sz : Nat) (xs : List (List AV))
  | own (n sz off len : Nat)
  | pb (n sz j i : Nat)
  | pi (xs : List AV)
  | fn (g : FuncId) (cap : List AV)

/-- A row of one's own: elements of sz cells. A variable in memory is a row of one element. -/
structure Blk where
  e : TypeId
  sz : Nat
  xs : List (List AV)

/-- Slots, named rows, the next name. -/
structure AS where
  tm : List (Nat × AV)
  bl : List (Nat × Blk)
  nx : Nat

/-- Where a named row lies: a block, the place of its first element, how many elements have room from there on; none: nowhere (nil). -/
abbrev Loc := Option (Nat × Nat × Nat)
/-- What is known of a name: it is free yet; its row has gone; its row lies there. -/
inductive NL where
  | free
  | gone
  | at (l : Loc)

def lk : List (Nat × AV) → Nat → Option AV
  | [], _ => none
  | (k, x) :: r, t => if k = t then some x else lk r t
def lb : List (Nat × Blk) → Nat → Option Blk
  | [], _ => none
  | (k, x) :: r, t => if k = t then some x else lb r t
/-- Taken out; put in place of. -/
def rm : List (Nat × Blk) → Nat → List (Nat × Blk)
  | [], _ => []
  | (k, x) :: r, t => if k = t then rm r t else (k, x) :: rm r t
def st : List (Nat × Blk) → Nat → Blk → List (Nat × Blk)
  | [], _, _ => []
  | (k, x) :: r, t, y => if k = t then (k, y) :: r else (k, x) :: st r t y

theorem lb_rm (l : List (Nat × Blk)) (n m : Nat) : lb (rm l n) m = if n = m then none else lb l m := by
  induction l with
  | nil => simp [rm, lb]
  | cons h r ih =>
    obtain ⟨k, x⟩ := h
    unfold rm
    split
    · rename_i hk; subst hk; rw [ih]
      by_cases hm : k = m
      · simp [hm]
      · simp [hm, lb]
    · rename_i hk
      by_cases hm : k = m
      · subst hm; rw [if_neg (fun h => hk h.symm)]; simp [lb]
      · simp [lb, hm, ih]
theorem lb_st (l : List (Nat × Blk)) (n m : Nat) (y : Blk) : lb (st l n y) m = if n = m then (lb l n).map (fun _ => y) else lb l m := by
  induction l with
  | nil => simp [st, lb]
  | cons h r ih =>
    obtain ⟨k, x⟩ := h
    unfold st
    by_cases hk : k = n
    · subst hk
      rw [if_pos rfl]
      by_cases hm : k = m
      · subst hm; simp [lb]
      · simp [lb, hm]
    · rw [if_neg hk]
      by_cases hm : k = m
      · subst hm; rw [if_neg (fun h => hk h.symm)]; simp [lb]
      · by_cases hn : n = m
        · subst hn; simp [lb, hk, ih]
        · simp [lb, hm, hn, ih]

abbrev Path := List Nat
abbrev Owners := Nat → Option Path
abbrev Names := Nat → NL
def noOwner : Owners := fun _ => none
/-- No name is known: what is said so bears none. -/
def noName : Names := fun _ => .free

/-- What an abstract value says of a value, in a world: S: the blocks that nobody writes; Ow: whose an owned block is; L: where the named rows lie; p: the place of the value. -/
inductive Rep (w : World) (S : Nat → Prop) : Owners → Names → Path → AV → Value → Prop
  | v {Ow L p} (x : Value) (h : x.oneCell' = true) : Rep w S Ow L p (.v x) x
  | ag {Ow L p} (xs : List AV) (us : List Value) (h : us.length = xs.length) (hr : ∀ (i : Nat) (x : AV) (u : Value), xs[i]? = some x → us[i]? = some u → Rep w S Ow L (p ++ [0, i]) x u) : Rep w S Ow L p (.ag xs) (.agg us.toArray)
  | tu {Ow L p} (xs : List AV) (us : List Value) (h : us.length = xs.length) (hr : ∀ (i : Nat) (x : AV) (u : Value), xs[i]? = some x → us[i]? = some u → Rep w S Ow L (p ++ [1, i]) x u) : Rep w S Ow L p (.tu xs) (.tuple us.toArray)
  | im {Ow L p} (sz : Nat) (xs : List (List AV)) (A : Option Addr) (c : Nat) (ad : Addr) (us : Nat → Nat → Value) (hc : xs.length ≤ c)
      (ha : xs ≠ [] → A = some ad) (hS : xs ≠ [] → S ad.block ∧ ad.block < w.heap.size ∧ ad.spot = none) (hz : ∀ (j : Nat) (row : List AV), xs[j]? = some row → row.length = sz)
      (hcell : ∀ (j : Nat) (row : List AV) (i : Nat) (x : AV), xs[j]? = some row → row[i]? = some x → w.cell? ⟨ad.block, ad.off + (j * sz + i), none⟩ = some (us j i))
      (hr : ∀ (j : Nat) (row : List AV) (i : Nat) (x : AV), xs[j]? = some row → row[i]? = some x → Rep w S noOwner noName [] x (us j i)) : Rep w S Ow L p (.im sz xs) (.slice A xs.length c)
  | ow {Ow L p} (e : TypeId) (sz : Nat) (xs : List (List AV)) (b o cap : Nat) (cs : Array Value) (us : Nat → Nat → Value) (ho : Ow b = some p) (hh : w.heap[b]? = some (.cells cs e (0, 0))) (hs : cs.size = (o + cap) * sz) (hc : xs.length ≤ cap)
      (hz : ∀ (j : Nat) (row : List AV), xs[j]? = some row → row.length = sz) (hcell : ∀ (j : Nat) (row : List AV) (i : Nat) (x : AV), xs[j]? = some row → row[i]? = some x → cs[(o + j) * sz + i]? = some (us j i))
      (hr : ∀ (j : Nat) (row : List AV) (i : Nat) (x : AV), xs[j]? = some row → row[i]? = some x → Rep w S Ow noName (p ++ [j, i]) x (us j i)) : Rep w S Ow L p (.ow e sz xs) (.slice (some ⟨b, o * sz, none⟩) xs.length cap)
  | ow_nil {Ow L p} (e : TypeId) (sz : Nat) : Rep w S Ow L p (.ow e sz []) (.slice none 0 0)
  | own {Ow L p} (n sz off len b o cap : Nat) (h : L n = .at (some (b, o, cap))) (hl : off + len ≤ cap) : Rep w S Ow L p (.own n sz off len) (.slice (some ⟨b, (o + off) * sz, none⟩) len (cap - off))
  | own_end {Ow L p} (n sz off b o cap : Nat) (a : Addr) (h : L n = .at (some (b, o, cap))) (hl : off = cap) : Rep w S Ow L p (.own n sz off 0) (.slice (some a) 0 0)
  | own_nil {Ow L p} (n sz : Nat) (h : L n = .at none) : Rep w S Ow L p (.own n sz 0 0) (.slice none 0 0)
  | own_gone {Ow L p} (n sz off len : Nat) (u : Value) (h : L n = .gone) (h1 : u.oneCell' = true) : Rep w S Ow L p (.own n sz off len) u
  | pb {Ow L p} (n sz j i b o cap : Nat) (h : L n = .at (some (b, o, cap))) : Rep w S Ow L p (.pb n sz j i) (.pointer (some ⟨b, (o + j) * sz + i, none⟩))
  | pb_gone {Ow L p} (n sz j i : Nat) (u : Value) (h : L n = .gone) (h1 : u.oneCell' = true) : Rep w S Ow L p (.pb n sz j i) u
  | pi {Ow L p} (xs : List AV) (ad : Addr) (us : Nat → Value) (hS : S ad.block ∧ ad.block < w.heap.size ∧ ad.spot = none)
      (hcell : ∀ (i : Nat) (x : AV), xs[i]? = some x → w.cell? ⟨ad.block, ad.off + i, none⟩ = some (us i)) (hr : ∀ (i : Nat) (x : AV), xs[i]? = some x → Rep w S noOwner noName [] x (us i)) : Rep w S Ow L p (.pi xs) (.pointer (some ad))
  | fn {Ow L p} (g : FuncId) (cap : List AV) (us : List Value) (h : us.length = cap.length) (hr : ∀ (i : Nat) (x : AV) (u : Value), cap[i]? = some x → us[i]? = some u → Rep w S Ow L (p ++ [2, i]) x u) : Rep w S Ow L p (.fn g cap) (.func (.func g) #[] us.toArray)

theorem cell_of {w w' : World} {p : Addr} (h : w'.heap[p.block]? = w.heap[p.block]?) : w'.cell? p = w.cell? p := by unfold World.cell?; rw [h]

/-- Another world in which the blocks that are spoken of are as they were. -/
theorem Rep.world {w w' : World} {S S' : Nat → Prop} {Ow : Owners} {L : Names} {p : Path} {x : AV} {u : Value} (h : Rep w S Ow L p x u)
    (hs : w.heap.size ≤ w'.heap.size) (hS : ∀ k, S k → S' k) (h1 : ∀ k, S k → w'.heap[k]? = w.heap[k]?) (h2 : ∀ k q, Ow k = some (p ++ q) → w'.heap[k]? = w.heap[k]?) : Rep w' S' Ow L p x u := by
  induction h with
  | v x h => exact .v x h
  | ag xs us h _ ih => exact .ag xs us h fun i x u hx hu => ih i x u hx hu fun k q hk => h2 k ([0, i] ++ q) (by rw [← List.append_assoc]; exact hk)
  | tu xs us h _ ih => exact .tu xs us h fun i x u hx hu => ih i x u hx hu fun k q hk => h2 k ([1, i] ++ q) (by rw [← List.append_assoc]; exact hk)
  | im sz xs A c ad us hc ha hS' hz hcell _ ih =>
    refine .im sz xs A c ad us hc ha (fun hx => ⟨hS _ (hS' hx).1, Nat.lt_of_lt_of_le (hS' hx).2.1 hs, (hS' hx).2.2⟩) hz (fun j row i x hj hi => ?_) (fun j row i x hj hi => ih j row i x hj hi fun k q hk => by cases hk)
    exact (cell_of (p := ⟨ad.block, ad.off + (j * sz + i), none⟩) (h1 _ (hS' (by rintro rfl; simp at hj)).1)).trans (hcell j row i x hj hi)
  | ow e sz xs b o cap cs us ho hh hs' hc hz hcell _ ih =>
    refine .ow e sz xs b o cap cs us ho ?_ hs' hc hz hcell (fun j row i x hj hi => ih j row i x hj hi fun k q hk => h2 k ([j, i] ++ q) (by rw [← List.append_assoc]; exact hk))
    rw [h2 b [] (by simpa using ho)]; exact hh
  | ow_nil e sz => exact .ow_nil e sz
  | own n sz off len b o cap h hl => exact .own n sz off len b o cap h hl
  | own_end n sz off b o cap a h hl => exact .own_end n sz off b o cap a h hl
  | own_nil n sz h => exact .own_nil n sz h
  | own_gone n sz off len u h h1 => exact .own_gone n sz off len u h h1
  | pb n sz j i b o cap h => exact .pb n sz j i b o cap h
  | pb_gone n sz j i u h h1 => exact .pb_gone n sz j i u h h1
  | pi xs ad us hS' hcell _ ih =>
    refine .pi xs ad us ⟨hS _ hS'.1, Nat.lt_of_lt_of_le hS'.2.1 hs, hS'.2.2⟩ (fun i x hi => ?_) (fun i x hi => ih i x hi fun k q hk => by cases hk)
    exact (cell_of (p := ⟨ad.block, ad.off + i, none⟩) (h1 _ hS'.1)).trans (hcell i x hi)
  | fn g cap us h _ ih => exact .fn g cap us h fun i x u hx hu => ih i x u hx hu fun k q hk => h2 k ([2, i] ++ q) (by rw [← List.append_assoc]; exact hk)

/-- Other names, other places: what is named may be forgotten, what is owned may be owned under another place. -/
theorem Rep.names {w : World} {S : Nat → Prop} {Ow Ow' : Owners} {L L' : Names} {p p' : Path} {x : AV} {u : Value} (h : Rep w S Ow L p x u)
    (hL : ∀ n, L n = .free ∨ L' n = L n ∨ L' n = .gone) (hO : ∀ k q, Ow k = some (p ++ q) → Ow' k = some (p' ++ q)) : Rep w S Ow' L' p' x u := by
  induction h generalizing Ow' L' p' with
  | v x h => exact .v x h
  | ag xs us h _ ih =>
    refine .ag xs us h fun i x u hx hu => ih i x u hx hu hL fun k q hk => ?_
    have := hO k ([0, i] ++ q) (by rw [← List.append_assoc]; exact hk)
    rw [List.append_assoc]; exact this
  | tu xs us h _ ih =>
    refine .tu xs us h fun i x u hx hu => ih i x u hx hu hL fun k q hk => ?_
    have := hO k ([1, i] ++ q) (by rw [← List.append_assoc]; exact hk)
    rw [List.append_assoc]; exact this
  | im sz xs A c ad us hc ha hS' hz hcell hr _ => exact .im sz xs A c ad us hc ha hS' hz hcell hr
  | ow e sz xs b o cap cs us ho hh hs' hc hz hcell _ ih =>
    refine .ow e sz xs b o cap cs us (by have := hO b [] (by simpa using ho); simpa using this) hh hs' hc hz hcell (fun j row i x hj hi => ih j row i x hj hi (fun _ => .inr (.inl rfl)) fun k q hk => ?_)
    have := hO k ([j, i] ++ q) (by rw [← List.append_assoc]; exact hk)
    rw [List.append_assoc]; exact this
  | ow_nil e sz => exact .ow_nil e sz
  | own n sz off len b o cap h hl =>
    rcases hL n with e | e | e
    · rw [e] at h; cases h
    · exact .own n sz off len b o cap (e.trans h) hl
    · exact .own_gone n sz off len _ e rfl
  | own_end n sz off b o cap a h hl =>
    rcases hL n with e | e | e
    · rw [e] at h; cases h
    · exact .own_end n sz off b o cap a (e.trans h) hl
    · exact .own_gone n sz off 0 _ e rfl
  | own_nil n sz h =>
    rcases hL n with e | e | e
    · rw [e] at h; cases h
    · exact .own_nil n sz (e.trans h)
    · exact .own_gone n sz 0 0 _ e rfl
  | own_gone n sz off len u h h1 =>
    rcases hL n with e | e | e
    · rw [e] at h; cases h
    · exact .own_gone n sz off len _ (e.trans h) h1
    · exact .own_gone n sz off len _ e h1
  | pb n sz j i b o cap h =>
    rcases hL n with e | e | e
    · rw [e] at h; cases h
    · exact .pb n sz j i b o cap (e.trans h)
    · exact .pb_gone n sz j i _ e rfl
  | pb_gone n sz j i u h h1 =>
    rcases hL n with e | e | e
    · rw [e] at h; cases h
    · exact .pb_gone n sz j i _ (e.trans h) h1
    · exact .pb_gone n sz j i _ e h1
  | pi xs ad us hS' hcell hr _ => exact .pi xs ad us hS' hcell hr
  | fn g cap us h _ ih =>
    refine .fn g cap us h fun i x u hx hu => ih i x u hx hu hL fun k q hk => ?_
    have := hO k ([2, i] ++ q) (by rw [← List.append_assoc]; exact hk)
    rw [List.append_assoc]; exact this

/-- What was there when the call began stands, but for the blocks X. -/
structure Keep (W : World) (X : Nat → Prop) (w : World) : Prop where
  os : w.os = W.os
  tape : w.tape = W.tape
  output : w.output = W.output
  size : W.heap.size ≤ w.heap.size
  block : ∀ k, k < W.heap.size → ¬ X k → w.heap[k]? = W.heap[k]?
theorem Keep.refl (W : World) (X : Nat → Prop) : Keep W X W := ⟨rfl, rfl, rfl, Nat.le_refl _, fun _ _ _ => rfl⟩
theorem Keep.below {W w : World} (h : Keep W (fun _ => False) w) : Below W.heap.size W w := ⟨h.os, h.tape, h.output, h.size, fun k hk => h.block k hk (fun h => h)⟩

/-- A named row in memory. -/
def BlkRep (w : World) (S : Nat → Prop) (Ow : Owners) (L : Names) (n : Nat) (k : Blk) : Loc → Prop
  | none => k.xs = []
  | some (b, o, cap) => Ow b = some [n + 1] ∧ ∃ (cs : Array Value) (us : Nat → Nat → Value), w.heap[b]? = some (.cells cs k.e (0, 0)) ∧ cs.size = (o + cap) * k.sz ∧ k.xs.length ≤ cap ∧ (∀ (j : Nat) (row : List AV), k.xs[j]? = some row → row.length = k.sz) ∧
      (∀ (j : Nat) (row : List AV) (i : Nat) (x : AV), k.xs[j]? = some row → row[i]? = some x → cs[(o + j) * k.sz + i]? = some (us j i)) ∧ ∀ (j : Nat) (row : List AV) (i : Nat) (x : AV), k.xs[j]? = some row → row[i]? = some x → Rep w S Ow L [n + 1, j, i] x (us j i)

/-- How many slots; how many names stand for rows that were lent. -/
structure NT where
  n : Nat
  k : Nat
/-- What stays the same within a function: the world in which it began, what it may write of that, what nobody writes, how many slots. -/
structure Ctx where
  W : World
  X : Nat → Prop
  S : Nat → Prop
  nt : NT
  fix : Nat → Option Loc := fun _ => none

structure RelX (C : Ctx) (s : AS) (a : Act) (w : World) (S : Nat → Prop) (Ow : Owners) (L : Names) : Prop where
  keep : Keep C.W C.X w
  inS : ∀ k, C.S k → S k
  upS : ∀ k, S k → C.S k ∨ C.W.heap.size ≤ k ∨ C.X k
  ltS : ∀ k, S k → k < w.heap.size
  owS : ∀ k, S k → Ow k = none
  ow : ∀ k p, Ow k = some p → (C.W.heap.size ≤ k ∨ C.X k) ∧ k < w.heap.size
  ow0 : ∀ k q, Ow k ≠ some (0 :: q)
  blk : ∀ n k, lb s.bl n = some k → ∃ loc, L n = .at loc ∧ BlkRep w S Ow L n k loc
  fresh : ∀ n, s.nx ≤ n → L n = .free
  named : ∀ n, n < s.nx → L n ≠ .free
  freshO : ∀ k n q, Ow k = some (n :: q) → n ≤ s.nx
  slot : ∀ t x, lk s.tm t = some x → ∃ u, a.tmps[t]? = some u ∧ Rep w S Ow L [0] x u
  size : a.tmps.size = C.nt.n
  defers : a.defers = []
  fix : ∀ n loc, C.fix n = some loc → n < C.nt.k ∧ (L n = .at loc ∨ L n = .gone)
theorem fix_of {C : Ctx} {L L' : Names} (h : ∀ n loc, C.fix n = some loc → n < C.nt.k ∧ (L n = .at loc ∨ L n = .gone)) (hL : ∀ m, L m = .free ∨ L' m = L m ∨ L' m = .gone) : ∀ n loc, C.fix n = some loc → n < C.nt.k ∧ (L' n = .at loc ∨ L' n = .gone) := fun n loc hn => by
  refine ⟨(h n loc hn).1, ?_⟩
  rcases (h n loc hn).2 with e | e
  · rcases hL n with g | g | g
    · rw [e] at g; cases g
    · exact .inl (g.trans e)
    · exact .inr g
  · rcases hL n with g | g | g
    · rw [e] at g; cases g
    · exact .inr (g.trans e)
    · exact .inr g
def Rel (C : Ctx) (s : AS) (a : Act) (w : World) : Prop := ∃ S Ow L, RelX C s a w S Ow L
end Go.Proofs.Ytaiefncpgkoniaa.En
