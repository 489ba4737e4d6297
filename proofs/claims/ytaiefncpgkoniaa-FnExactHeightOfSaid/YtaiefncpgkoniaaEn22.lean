/- Own words, 22: states that say less, in words that simp decides. -/
import Derived.Test.YtaiefncpgkoniaaEn21
namespace Go.Proofs.Ytaiefncpgkoniaa.En
open Go.RowKit
set_option linter.unusedSimpArgs false
set_option linter.unusedVariables false
section
variable {P : Program} {nt : NT} {s s0 : AS} {ρ : Nat → Nat} {nx : Nat}
/-- Rows without names; rows whose names are below nx. -/
def nfr (xs : List (List AV)) : Prop := ∀ row ∈ xs, ∀ x ∈ row, nf x = true
def okw (nx : Nat) (xs : List (List AV)) : Prop := ∀ row ∈ xs, ∀ x ∈ row, okr nx x = true
@[simp] theorem nfr_nil : nfr [] := fun row h => by cases h
/-- A row's cells without names. -/
def nfc (r : List AV) : Prop := ∀ x ∈ r, nf x = true
@[simp] theorem nfc_nil : nfc [] := fun x h => by cases h
@[simp] theorem nfc_cons (x : AV) (r : List AV) : nfc (x :: r) ↔ nf x = true ∧ nfc r := by simp [nfc]
@[simp] theorem nfr_cons (r : List AV) (xs : List (List AV)) : nfr (r :: xs) ↔ nfc r ∧ nfr xs := by simp [nfr, nfc]
@[simp] theorem nfr_append (xs ys : List (List AV)) : nfr (xs ++ ys) ↔ nfr xs ∧ nfr ys := by
  simp only [nfr, List.mem_append]
  exact ⟨fun h => ⟨fun r hr => h r (.inl hr), fun r hr => h r (.inr hr)⟩, fun h r hr => hr.elim (h.1 r) (h.2 r)⟩
@[simp] theorem okw_nil : okw nx [] := fun row h => by cases h
@[simp] theorem okw_cons (r : List AV) (xs : List (List AV)) : okw nx (r :: xs) ↔ (∀ x ∈ r, okr nx x = true) ∧ okw nx xs := by simp [okw]
theorem nfr_of_ok {xs : List (List AV)} (h : ∀ row ∈ xs, ∀ x ∈ row, cl1 x = true) : nfr xs := fun row hr x hx => by have := h row hr x hx; cases x <;> simp_all [cl1, nf]
theorem nfr.set {xs : List (List AV)} (h : nfr xs) {i : Nat} {r : List AV} (hr : ∀ x ∈ r, nf x = true) : nfr (xs.set i r) := fun row hrow x hx => by
  rcases List.mem_or_eq_of_mem_set hrow with g | rfl
  · exact h row g x hx
  · exact hr x hx
theorem nfr.take {xs : List (List AV)} (h : nfr xs) (i : Nat) : nfr (xs.take i) := fun row hrow x hx => h row (List.mem_of_mem_take hrow) x hx
theorem nfr.drop {xs : List (List AV)} (h : nfr xs) (i : Nat) : nfr (xs.drop i) := fun row hrow x hx => h row (List.mem_of_mem_drop hrow) x hx
theorem nfr.rep {n : Nat} {r : List AV} (h : ∀ x ∈ r, nf x = true) : nfr (List.replicate n r) := fun row hrow x hx => by
  rw [(List.mem_replicate.1 hrow).2] at hx; exact h x hx
def BlkN (ρ : Nat → Nat) (nx : Nat) (k k' : Blk) : Prop := k'.e = k.e ∧ k'.sz = k.sz ∧ ((k'.xs = k.xs ∧ nfr k.xs) ∨ (k'.xs = k.xs.map (List.map (ren ρ)) ∧ okw nx k.xs))
def ChkN (ρ : Nat → Nat) (nx : Nat) (bl : List (Nat × Blk)) : List (Nat × Blk) → Prop
  | [] => True
  | (n, k) :: r => (n < nx ∧ (∃ k', lb bl (ρ n) = some k' ∧ BlkN ρ nx k k') ∧ ∀ p ∈ r, p.1 = n ∨ ρ p.1 ≠ ρ n) ∧ ChkN ρ nx bl r
theorem ChkN.toB {bl : List (Nat × Blk)} : ∀ {l : List (Nat × Blk)}, ChkN ρ nx bl l → ChkB ρ nx bl l
  | [], _ => trivial
  | (n, k) :: r, ⟨⟨h1, ⟨k', h2, h3⟩, h4⟩, h5⟩ => ⟨⟨h1, ⟨k', h2, h3⟩, h4⟩, h5.toB⟩
theorem Cov.ofn {k : Nat} (ρ : Nat → Nat) (hk : ((List.range k).all fun n => decide (n < s0.nx) && ρ n == n) = true) (ht : ChkT ρ s0.nx s.tm s0.tm) (hb : ChkN ρ s0.nx s.bl s0.bl) : Cov k s0 s :=
  Cov.ofk ρ (fun n hn => by
    rw [List.all_eq_true] at hk
    have := hk n (List.mem_range.2 hn)
    simp only [Bool.and_eq_true, decide_eq_true_eq, beq_iff_eq] at this
    exact ⟨this.1, fun _ => this.2⟩) ht hb.toB
theorem OutF.mkn {rs : List ResultVar} {k m : Nat} {r : AV} {outs : List (Nat × Blk)} {e : Exit} {xs : List AV} (ρ : Nat → Nat) (hx : rs.mapM (rval P s) = some xs) (hr : pack xs = ren ρ r) (hok : okr m r = true) (hb : ChkN ρ m s.bl outs) (hk : ((List.range k).all fun n => decide (n < m) && ρ n == n) = true) (he : e = .normal ∨ e = .ret) : OutF P rs k r m outs e s :=
  OutF.mk ρ hx hr hok hb.toB (fun n hn => by
    rw [List.all_eq_true] at hk
    have := hk n (List.mem_range.2 hn)
    simp only [Bool.and_eq_true, decide_eq_true_eq, beq_iff_eq] at this
    exact this) he
theorem RenB.nfr {m n : Nat} {k : Blk} {r r' : List (Nat × Blk)} (h : En.nfr k.xs) (hr : RenB ρ m r r') : RenB ρ m ((n, k) :: r) ((ρ n, k) :: r') := RenB.nf h hr
theorem RenB.okw {m n : Nat} {e : TypeId} {sz : Nat} {xs : List (List AV)} {r r' : List (Nat × Blk)} (h : En.okw m xs) (hr : RenB ρ m r r') : RenB ρ m ((n, ⟨e, sz, xs⟩) :: r) ((ρ n, ⟨e, sz, xs.map (List.map (En.ren ρ))⟩) :: r') := RenB.rn h hr
/-- nil in a cell of a row, as a row of one's own. -/
def nirw (s : AS) (n j i : Nat) (e : TypeId) (sz : Nat) : AS := match lb s.bl n with
  | some b => match b.xs[j]? with
    | some row => ⟨s.tm, (s.nx, ⟨e, sz, []⟩) :: st s.bl n { b with xs := b.xs.set j (row.set i (.own s.nx sz 0 0)) }, s.nx + 1⟩
    | none => s
  | none => s
theorem Cov.nir {k n j i : Nat} (e : TypeId) (sz : Nat) {b : Blk} {row : List AV} (hb : lb s.bl n = some b) (hrow : b.xs[j]? = some row) (hi : row[i]? = some (.v (.slice none 0 0))) : Cov k (nirw s n j i e sz) s := by
  intro C a w S Ow L _ h
  have hnx : n < s.nx := by
    obtain ⟨loc, hl, _⟩ := h.blk n b hb
    rcases Nat.lt_or_ge n s.nx with g | g
    · exact g
    · rw [h.fresh n g] at hl; cases hl
  obtain ⟨L', hR, hL, hup⟩ := h.allocNil ⟨e, sz, []⟩ rfl
  have hs : nirw s n j i e sz = ⟨s.tm, (s.nx, ⟨e, sz, []⟩) :: st s.bl n { b with xs := b.xs.set j (row.set i (.own s.nx sz 0 0)) }, s.nx + 1⟩ := by simp only [nirw, hb, hrow]
  rw [hs]
  refine ⟨S, Ow, L', { fix := hR.fix, keep := hR.keep, inS := hR.inS, upS := hR.upS, ltS := hR.ltS, owS := hR.owS, ow := hR.ow, ow0 := hR.ow0, blk := fun m kk hm => ?_, fresh := hR.fresh, named := hR.named, freshO := hR.freshO, size := hR.size, defers := hR.defers, slot := hR.slot }⟩
  by_cases e1 : s.nx = m
  · subst e1
    simp only [lb, if_true] at hm
    cases hm
    exact hR.blk s.nx _ (by simp [lb])
  · simp only [lb, if_neg e1, lb_st] at hm
    by_cases e2 : n = m
    · subst e2
      rw [if_pos rfl, hb] at hm
      cases hm
      obtain ⟨loc, hl, hB⟩ := hR.blk n b (by simp only [lb, if_neg e1]; exact hb)
      refine ⟨loc, hl, ?_⟩
      cases loc with
      | none =>
        rw [show b.xs = [] from hB] at hrow; simp at hrow
      | some p =>
        obtain ⟨h1, cs, us, h2, h3, h4, h5, h6, h7⟩ := hB
        have get : ∀ (j' : Nat) (r' : List AV), (b.xs.set j (row.set i (.own s.nx sz 0 0)))[j']? = some r' → (j' = j ∧ r' = row.set i (.own s.nx sz 0 0)) ∨ b.xs[j']? = some r' := fun j' r' hj => by
          rw [List.getElem?_set] at hj
          split at hj
          · rename_i g
            split at hj
            · cases hj; exact .inl ⟨g.symm, rfl⟩
            · cases hj
          · exact .inr hj
        refine ⟨h1, cs, us, h2, h3, by simpa using h4, fun j' r' hj => ?_, fun j' r' i' x hj hi' => ?_, fun j' r' i' x hj hi' => ?_⟩
        · rcases get j' r' hj with ⟨rfl, rfl⟩ | g
          · rw [List.length_set]; exact h5 _ row hrow
          · exact h5 j' r' g
        · rcases get j' r' hj with ⟨rfl, rfl⟩ | g
          · by_cases ei : i = i'
            · subst ei; exact h6 _ row i _ hrow hi
            · rw [List.getElem?_set_ne ei] at hi'; exact h6 _ row i' x hrow hi'
          · exact h6 j' r' i' x g hi'
        · rcases get j' r' hj with ⟨rfl, rfl⟩ | g
          · by_cases ei : i = i'
            · subst ei
              have := h7 _ row i _ hrow hi
              obtain ⟨hu, _⟩ := this.v_inv
              have hlt : i < row.length := (List.getElem?_eq_some_iff.1 hi).1
              rw [List.getElem?_set_self hlt] at hi'
              cases hi'
              rw [hu]
              exact .own_nil _ _ hL
            · rw [List.getElem?_set_ne ei] at hi'; exact h7 _ row i' x hrow hi'
          · exact h7 j' r' i' x g hi'
    · rw [if_neg e2] at hm
      exact hR.blk m kk (by simp only [lb, if_neg e1]; exact hm)
theorem Holds.nir {Q : Exit → AS → Prop} {c : Code} (n j i : Nat) (e : TypeId) (sz : Nat) {b : Blk} {row : List AV} (hb : lb s.bl n = some b) (hrow : b.xs[j]? = some row) (hi : row[i]? = some (.v (.slice none 0 0))) {s' : AS} (hs : nirw s n j i e sz = s') (h : Holds P nt c Q s') : Holds P nt c Q s := by
  subst hs
  exact Holds.cov (Cov.nir e sz hb hrow hi) h
theorem rng0 : List.range 0 = [] := rfl
theorem rng1 : List.range 1 = [0] := rfl
theorem rng2 : List.range 2 = [0, 1] := rfl
theorem rng3 : List.range 3 = [0, 1, 2] := rfl
theorem rng4 : List.range 4 = [0, 1, 2, 3] := rfl
end
attribute [go_sem] nirw fillA chunk srcRows srcSz plc rng0 rng1 rng2 rng3 rng4 flat sim c1
end Go.Proofs.Ytaiefncpgkoniaa.En
