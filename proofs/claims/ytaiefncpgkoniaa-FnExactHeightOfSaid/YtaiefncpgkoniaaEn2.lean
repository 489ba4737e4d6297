/- Own words, 2: how a state changes: a slot, a new row, a row written, a row gone. -/
import Derived.Test.YtaiefncpgkoniaaEn1
import Derived.Laws.Rows
namespace Go.Proofs.Ytaiefncpgkoniaa.En
open Go.RowKit
set_option linter.unusedSimpArgs false
set_option linter.unusedVariables false

def put (s : AS) (d : Option Nat) (x : AV) : AS := match d with | some t => { s with tm := (t, x) :: s.tm } | none => s
def okd (nt : Nat) : Option Nat → Bool | some t => decide (t < nt) | none => true

section
variable {C : Ctx} {s : AS} {a : Act} {w : World} {S : Nat → Prop} {Ow : Owners} {L : Names}

theorem RelX.put (h : RelX C s a w S Ow L) (d : Option Nat) {x : AV} {u : Value} (hd : okd C.nt.n d = true) (hr : Rep w S Ow L [0] x u) : RelX C (put s d x) (a.put d u) w S Ow L := by
  cases d with
  | none => exact h
  | some t =>
    have ht : t < a.tmps.size := by rw [h.size]; simpa [okd] using hd
    refine { fix := h.fix, keep := h.keep, inS := h.inS, upS := h.upS, ltS := h.ltS, owS := h.owS, ow := h.ow, ow0 := h.ow0, blk := h.blk, fresh := h.fresh, named := h.named, freshO := h.freshO, slot := ?_, size := ?_, defers := h.defers }
    · intro t' y hy
      by_cases e : t = t'
      · subst e
        simp [En.put, lk] at hy
        subst hy
        exact ⟨u, by simp [Act.put, Array.getElem?_setIfInBounds, ht], hr⟩
      · simp [En.put, lk, e] at hy
        obtain ⟨v, hv, hR⟩ := h.slot t' y hy
        exact ⟨v, by simp [Act.put, Array.getElem?_setIfInBounds, e, hv], hR⟩
    · simp [Act.put, h.size]

/-- A slot of which nothing is known any more: whatever is put there. -/
def del (s : AS) (d : Option Nat) : AS := match d with | some t => { s with tm := s.tm.filter fun x => x.1 != t } | none => s
theorem lk_filter (l : List (Nat × AV)) (t t' : Nat) : lk (l.filter fun x => x.1 != t) t' = if t = t' then none else lk l t' := by
  induction l with
  | nil => simp [lk]
  | cons h r ih =>
    obtain ⟨k, x⟩ := h
    by_cases hk : k = t
    · subst hk
      simp only [List.filter_cons, bne_self_eq_false, Bool.false_eq_true, if_false, ih]
      by_cases e : k = t'
      · simp [e]
      · simp [e, lk]
    · simp only [List.filter_cons, bne_iff_ne, ne_eq, hk, not_false_eq_true, if_true]
      by_cases e : k = t'
      · subst e; simp [lk, Ne.symm hk, fun h : t = k => hk h.symm]
      · simp [lk, e, ih]
theorem RelX.del (h : RelX C s a w S Ow L) (d : Option Nat) (u : Value) : RelX C (del s d) (a.put d u) w S Ow L := by
  cases d with
  | none => exact h
  | some t =>
    refine { fix := h.fix, keep := h.keep, inS := h.inS, upS := h.upS, ltS := h.ltS, owS := h.owS, ow := h.ow, ow0 := h.ow0, blk := h.blk, fresh := h.fresh, named := h.named, freshO := h.freshO, slot := ?_, size := ?_, defers := h.defers }
    · intro t' y hy
      simp only [En.del, lk_filter] at hy
      by_cases e : t = t'
      · simp [e] at hy
      · rw [if_neg e] at hy
        obtain ⟨v, hv, hR⟩ := h.slot t' y hy
        exact ⟨v, by simp [Act.put, Array.getElem?_setIfInBounds, e, hv], hR⟩
    · simp [Act.put, h.size]

/-- Draws alone. -/
theorem RelX.drawn (h : RelX C s a w S Ow L) {w' : World} (ho : w'.os = w.os) (ht : w'.tape = w.tape) (hp : w'.output = w.output) (hh : w'.heap = w.heap) : RelX C s a w' S Ow L := by
  have hb : ∀ k : Nat, w'.heap[k]? = w.heap[k]? := fun k => by rw [hh]
  refine { fix := h.fix, keep := ⟨ho.trans h.keep.os, ht.trans h.keep.tape, hp.trans h.keep.output, by rw [hh]; exact h.keep.size, fun k hk hx => (hb k).trans (h.keep.block k hk hx)⟩, inS := h.inS, upS := h.upS, ltS := by rw [hh]; exact h.ltS, owS := h.owS, ow := by rw [hh]; exact h.ow, ow0 := h.ow0, blk := ?_, fresh := h.fresh, named := h.named, freshO := h.freshO, slot := ?_, size := h.size, defers := h.defers }
  · intro n k hn
    obtain ⟨loc, hl, hB⟩ := h.blk n k hn
    refine ⟨loc, hl, ?_⟩
    cases loc with
    | none => exact hB
    | some p =>
      obtain ⟨h1, cs, us, h2, h3, h4, h5, h6, h7⟩ := hB
      exact ⟨h1, cs, us, (hb _).trans h2, h3, h4, h5, h6, fun j row i x hj hi => (h7 j row i x hj hi).world (by rw [hh]; exact Nat.le_refl _) (fun _ hk => hk) (fun k _ => hb k) (fun k _ _ => hb k)⟩
  · intro t x hx
    obtain ⟨v, hv, hR⟩ := h.slot t x hx
    exact ⟨v, hv, hR.world (by rw [hh]; exact Nat.le_refl _) (fun _ hk => hk) (fun k _ => hb k) (fun k _ _ => hb k)⟩

/-- Names and owners turn, the memory does not. -/
theorem BlkRep.names {Ow' : Owners} {L' : Names} {n : Nat} {k : Blk} {loc : Loc} (h : BlkRep w S Ow L n k loc) (hL : ∀ m, L m = .free ∨ L' m = L m ∨ L' m = .gone) (hO : ∀ b q, Ow b = some ((n + 1) :: q) → Ow' b = some ((n + 1) :: q)) : BlkRep w S Ow' L' n k loc := by
  cases loc with
  | none => exact h
  | some p =>
    obtain ⟨h1, cs, us, h2, h3, h4, h5, h6, h7⟩ := h
    exact ⟨hO _ _ h1, cs, us, h2, h3, h4, h5, h6, fun j row i x hj hi => (h7 j row i x hj hi).names hL (fun b q hb => hO b _ hb)⟩
theorem BlkRep.world {w' : World} {n : Nat} {k : Blk} {loc : Loc} (h : BlkRep w S Ow L n k loc) (hs : w.heap.size ≤ w'.heap.size) (h1 : ∀ b, S b → w'.heap[b]? = w.heap[b]?) (h2 : ∀ b q, Ow b = some ((n + 1) :: q) → w'.heap[b]? = w.heap[b]?) : BlkRep w' S Ow L n k loc := by
  cases loc with
  | none => exact h
  | some p =>
    obtain ⟨g1, cs, us, g2, g3, g4, g5, g6, g7⟩ := h
    exact ⟨g1, cs, us, (h2 _ _ g1).trans g2, g3, g4, g5, g6, fun j row i x hj hi => (g7 j row i x hj hi).world hs (fun _ hk => hk) h1 (fun b q hb => h2 b _ hb)⟩

/-- A new row, of what slots hold. -/
theorem RelX.alloc (h : RelX C s a w S Ow L) (k : Blk) (cs : Array Value) (cap : Nat) (us : Nat → Nat → Value) (hs : cs.size = cap * k.sz) (hc : k.xs.length ≤ cap) (hz : ∀ (j : Nat) (row : List AV), k.xs[j]? = some row → row.length = k.sz)
    (hcell : ∀ (j : Nat) (row : List AV) (i : Nat) (x : AV), k.xs[j]? = some row → row[i]? = some x → cs[j * k.sz + i]? = some (us j i)) (hr : ∀ (j : Nat) (row : List AV) (i : Nat) (x : AV), k.xs[j]? = some row → row[i]? = some x → Rep w S Ow L [0] x (us j i)) :
    ∃ Ow' L', RelX C { s with bl := (s.nx, k) :: s.bl, nx := s.nx + 1 } a (w.alloc (.cells cs k.e)) S Ow' L' ∧ L' s.nx = .at (some (w.heap.size, 0, cap)) ∧ ∀ x u, Rep w S Ow L [0] x u → Rep (w.alloc (.cells cs k.e)) S Ow' L' [0] x u := by
  have hb : ∀ b : Nat, b < w.heap.size → (w.alloc (.cells cs k.e)).heap[b]? = w.heap[b]? := fun b hb => heap_alloc_old w _ b hb
  have hsz : (w.alloc (.cells cs k.e)).heap.size = w.heap.size + 1 := by simp
  have hS : ∀ b : Nat, S b → (w.alloc (.cells cs k.e)).heap[b]? = w.heap[b]? := fun b hb' => hb b (h.ltS b hb')
  have hO : ∀ (b : Nat) (p : Path), Ow b = some p → (w.alloc (.cells cs k.e)).heap[b]? = w.heap[b]? := fun b p hp => hb b (h.ow b p hp).2
  have hne : ∀ (b : Nat) (p : Path), Ow b = some p → b ≠ w.heap.size := fun b p hp => by have := (h.ow b p hp).2; omega
  refine ⟨fun b => if b = w.heap.size then some [s.nx + 1] else Ow b, fun n => if n = s.nx then .at (some (w.heap.size, 0, cap)) else L n, ?_, by simp, ?_⟩
  case refine_2 =>
    intro x u hx
    refine (hx.world (by omega) (fun _ hk => hk) hS (fun b q hq => absurd hq (h.ow0 b q))).names (fun n => ?_) (fun b q hq => absurd hq (h.ow0 b q))
    by_cases e : n = s.nx
    · exact .inl (h.fresh n (by omega))
    · simp [e]
  have hLn : ∀ n, L n = .free ∨ (if n = s.nx then NL.at (some (w.heap.size, 0, cap)) else L n) = L n ∨ (if n = s.nx then NL.at (some (w.heap.size, 0, cap)) else L n) = .gone := fun n => by
    by_cases e : n = s.nx
    · exact .inl (h.fresh n (by omega))
    · simp [e]
  have hkeep : Keep C.W C.X (w.alloc (.cells cs k.e)) := ⟨h.keep.os, h.keep.tape, h.keep.output, by have := h.keep.size; omega, fun b hb' hx => (hb b (by have := h.keep.size; omega)).trans (h.keep.block b hb' hx)⟩
  refine { fix := fix_of h.fix hLn, keep := hkeep, inS := h.inS, upS := h.upS, ltS := fun b hb => by have := h.ltS b hb; omega, owS := ?_, ow := ?_, ow0 := ?_, blk := ?_, fresh := ?_, named := ?_, freshO := ?_, slot := ?_, size := h.size, defers := h.defers }
  · intro b hb
    have := h.ltS b hb
    simp only [show b ≠ w.heap.size by omega, if_false, h.owS b hb]
  · intro b p hp
    by_cases e : b = w.heap.size
    · subst e; exact ⟨.inl h.keep.size, by omega⟩
    · simp only [e, if_false] at hp
      exact ⟨(h.ow b p hp).1, by have := (h.ow b p hp).2; omega⟩
  · intro b q hq
    by_cases e : b = w.heap.size
    · simp [e] at hq
    · simp only [e, if_false] at hq; exact h.ow0 b q hq
  · intro n kk hn
    by_cases e : n = s.nx
    · subst e
      simp only [lb, if_true] at hn
      cases hn
      refine ⟨some (w.heap.size, 0, cap), by simp, by simp, cs, us, by simpa using heap_alloc_new w (.cells cs k.e), by simpa using hs, hc, hz, fun j row i x hj hi => by simpa using hcell j row i x hj hi, fun j row i x hj hi => ?_⟩
      exact ((hr j row i x hj hi).world (by omega) (fun _ hk => hk) hS (fun b q hq => absurd hq (h.ow0 b q))).names hLn (fun b q hq => absurd hq (h.ow0 b q))
    · simp only [lb, show ¬ s.nx = n from fun he => e he.symm, if_false] at hn
      obtain ⟨loc, hl, hB⟩ := h.blk n kk hn
      refine ⟨loc, by simp [e, hl], ?_⟩
      refine (hB.world (by omega) hS (fun b q hq => hO b _ hq)).names hLn (fun b q hq => ?_)
      simp only [show b ≠ w.heap.size from hne b _ hq, if_false, hq]
  · intro n hn
    have hn' : s.nx + 1 ≤ n := hn
    simp only [show n ≠ s.nx by omega, if_false]
    exact h.fresh n (by omega)
  · intro n hn
    have hn' : n < s.nx + 1 := hn
    by_cases e : n = s.nx
    · simp [e]
    · simp only [e, if_false]; exact h.named n (by omega)
  · intro b n q hq
    by_cases e : b = w.heap.size
    · simp [e] at hq; show n ≤ s.nx + 1; omega
    · simp only [e, if_false] at hq
      have := h.freshO b n q hq
      show n ≤ s.nx + 1
      omega
  · intro t x hx
    obtain ⟨v, hv, hR⟩ := h.slot t x hx
    exact ⟨v, hv, (hR.world (by omega) (fun _ hk => hk) hS (fun b q hq => absurd hq (h.ow0 b q))).names hLn (fun b q hq => absurd hq (h.ow0 b q))⟩

/-- A row that lies nowhere. -/
theorem RelX.allocNil (h : RelX C s a w S Ow L) (k : Blk) (hk : k.xs = []) :
    ∃ L', RelX C { s with bl := (s.nx, k) :: s.bl, nx := s.nx + 1 } a w S Ow L' ∧ L' s.nx = .at none ∧ ∀ x u, Rep w S Ow L [0] x u → Rep w S Ow L' [0] x u := by
  have hLn : ∀ n, L n = .free ∨ (if n = s.nx then NL.at none else L n) = L n ∨ (if n = s.nx then NL.at none else L n) = .gone := fun n => by
    by_cases e : n = s.nx
    · exact .inl (h.fresh n (by omega))
    · simp [e]
  refine ⟨fun n => if n = s.nx then .at none else L n, ?_, by simp, fun x u hx => hx.names hLn (fun _ _ hq => hq)⟩
  refine { fix := fix_of h.fix hLn, keep := h.keep, inS := h.inS, upS := h.upS, ltS := h.ltS, owS := h.owS, ow := h.ow, ow0 := h.ow0, blk := ?_, fresh := ?_, named := ?_, freshO := fun b n q hq => Nat.le_succ_of_le (h.freshO b n q hq), slot := ?_, size := h.size, defers := h.defers }
  · intro n kk hn
    by_cases e : n = s.nx
    · subst e
      simp only [lb, if_true] at hn
      cases hn
      exact ⟨none, by simp, hk⟩
    · simp only [lb, show ¬ s.nx = n from fun he => e he.symm, if_false] at hn
      obtain ⟨loc, hl, hB⟩ := h.blk n kk hn
      exact ⟨loc, by simp [e, hl], hB.names hLn (fun _ _ hq => hq)⟩
  · intro n hn
    have hn' : s.nx + 1 ≤ n := hn
    simp only [show n ≠ s.nx by omega, if_false]
    exact h.fresh n (by omega)
  · intro n hn
    have hn' : n < s.nx + 1 := hn
    by_cases e : n = s.nx
    · simp [e]
    · simp only [e, if_false]; exact h.named n (by omega)
  · intro t x hx
    obtain ⟨v, hv, hR⟩ := h.slot t x hx
    exact ⟨v, hv, hR.names hLn (fun _ _ hq => hq)⟩

def NL.kill : NL → NL
  | .free => .free
  | _ => .gone
/-- A row's name is forgotten. -/
theorem RelX.kill (h : RelX C s a w S Ow L) (n : Nat) : ∃ L', RelX C { s with bl := rm s.bl n } a w S Ow L' ∧ (∀ m, m ≠ n → L' m = L m) ∧ ∀ p x u, Rep w S Ow L p x u → Rep w S Ow L' p x u := by
  have free_iff : ∀ m, (if m = n then (L m).kill else L m) = .free ↔ L m = .free := fun m => by
    by_cases e : m = n
    · rw [if_pos e]; cases L m <;> simp [NL.kill]
    · rw [if_neg e]
  have hLn : ∀ m, L m = .free ∨ (if m = n then (L m).kill else L m) = L m ∨ (if m = n then (L m).kill else L m) = .gone := fun m => by
    by_cases e : m = n
    · rw [if_pos e]; cases L m <;> simp [NL.kill]
    · rw [if_neg e]; exact .inr (.inl rfl)
  refine ⟨fun m => if m = n then (L m).kill else L m, ?_, fun m hm => by simp [hm], fun p x u hx => hx.names hLn (fun _ _ hq => hq)⟩
  refine { fix := fix_of h.fix hLn, keep := h.keep, inS := h.inS, upS := h.upS, ltS := h.ltS, owS := h.owS, ow := h.ow, ow0 := h.ow0, blk := ?_, fresh := fun m hm => (free_iff m).2 (h.fresh m hm), named := fun m hm he => h.named m hm ((free_iff m).1 he), freshO := h.freshO, slot := ?_, size := h.size, defers := h.defers }
  · intro m kk hm
    simp only [lb_rm] at hm
    by_cases e : n = m
    · simp [e] at hm
    · rw [if_neg e] at hm
      obtain ⟨loc, hl, hB⟩ := h.blk m kk hm
      exact ⟨loc, by simp [hl, show ¬ m = n from fun he => e he.symm], hB.names hLn (fun _ _ hq => hq)⟩
  · intro t x hx
    obtain ⟨v, hv, hR⟩ := h.slot t x hx
    exact ⟨v, hv, hR.names hLn (fun _ _ hq => hq)⟩

/-- A named row is written where it lies. -/
theorem RelX.write (h : RelX C s a w S Ow L) (n : Nat) (k k' : Blk) (b o cap : Nat) (hL : L n = .at (some (b, o, cap))) (hk : lb s.bl n = some k) (w' : World) (ho : w'.os = w.os) (ht : w'.tape = w.tape) (hp : w'.output = w.output) (hs : w'.heap.size = w.heap.size)
    (hh : ∀ c, c ≠ b → w'.heap[c]? = w.heap[c]?) (hB : BlkRep w S Ow L n k (some (b, o, cap)) → (∀ p x u, (∀ q, Ow b ≠ some (p ++ q)) → Rep w S Ow L p x u → Rep w' S Ow L p x u) → BlkRep w' S Ow L n k' (some (b, o, cap))) : RelX C { s with bl := st s.bl n k' } a w' S Ow L := by
  obtain ⟨loc, hl, hB0⟩ := h.blk n k hk
  rw [hL] at hl
  cases hl
  have hob := hB0.1
  have hnS : ∀ c, S c → c ≠ b := fun c hc e => by subst e; rw [h.owS _ hc] at hob; cases hob
  have mv : ∀ p x u, (∀ q, Ow b ≠ some (p ++ q)) → Rep w S Ow L p x u → Rep w' S Ow L p x u := fun p x u hq hx =>
    hx.world (by omega) (fun _ hk => hk) (fun c hc => hh c (hnS c hc)) (fun c q hc => hh c (fun e => by subst e; exact hq q hc))
  refine { fix := h.fix, keep := ?_, inS := h.inS, upS := h.upS, ltS := fun c hc => by rw [hs]; exact h.ltS c hc, owS := h.owS, ow := by rw [hs]; exact h.ow, ow0 := h.ow0, blk := ?_, fresh := h.fresh, named := h.named, freshO := h.freshO, slot := ?_, size := h.size, defers := h.defers }
  · refine ⟨ho.trans h.keep.os, ht.trans h.keep.tape, hp.trans h.keep.output, by rw [hs]; exact h.keep.size, fun c hc hx => ?_⟩
    rw [hh c ?_]
    · exact h.keep.block c hc hx
    · intro e
      subst e
      rcases (h.ow _ _ hob).1 with g | g
      · omega
      · exact hx g
  · intro m kk hm
    simp only [lb_st] at hm
    by_cases e : n = m
    · subst e
      rw [if_pos rfl, hk] at hm
      cases hm
      exact ⟨_, hL, hB hB0 mv⟩
    · rw [if_neg e] at hm
      obtain ⟨loc, hl, hB⟩ := h.blk m kk hm
      refine ⟨loc, hl, hB.world (by omega) (fun c hc => hh c (hnS c hc)) (fun c q hc => hh c (fun e' => ?_))⟩
      subst e'
      rw [hob] at hc
      simp at hc
      exact e hc.1
  · intro t x hx
    obtain ⟨v, hv, hR⟩ := h.slot t x hx
    exact ⟨v, hv, mv [0] x v (fun q hq => h.ow0 b q hq) hR⟩
end
end Go.Proofs.Ytaiefncpgkoniaa.En
