/- Trees as lists of rules: what was read stands behind what was there; every place of a tree names a rule. -/
import Derived.Test.YtaiefncpgkoniaaTd
namespace Go.Proofs.Ytaiefncpgkoniaa.En
open Go.RowKit
set_option linter.unusedSimpArgs false
set_option linter.unusedVariables false
theorem kids_shift {rd : Int → Nat → List Int → Option PT × List Int} (h : ∀ x e w, (rd x e w).2 = w ++ (rd x e []).2 ∧ (rd x e w).1.map PT.fin = (rd x e []).1.map PT.fin) :
    ∀ (xs : List Int) (e : Nat) (ks ks0 : List PT) (w : List Int), (kidsF rd xs e ks w).2 = w ++ (kidsF rd xs e ks0 []).2 ∧ (kidsF rd xs e ks w).1.map (·.2) = (kidsF rd xs e ks0 []).1.map (·.2) := by
  intro xs
  induction xs with
  | nil => intro e ks ks0 w; simp [kidsF]
  | cons x xs ih =>
    intro e ks ks0 w
    unfold kidsF
    by_cases h0 : x < 0
    · rw [if_pos h0, if_pos h0]
      obtain ⟨a1, a2⟩ := ih e ks ks (w ++ [-1 - x])
      obtain ⟨b1, b2⟩ := ih e ks0 ks ([] ++ [-1 - x])
      exact ⟨by rw [a1, b1]; simp, by rw [a2, b2]⟩
    · rw [if_neg h0, if_neg h0]
      obtain ⟨g1, g2⟩ := h x e w
      generalize rd x e w = q at g1 g2
      generalize rd x e [] = q0 at g1 g2
      obtain ⟨q, w1⟩ := q
      obtain ⟨q0, w0⟩ := q0
      dsimp only at g1 g2
      subst g1
      cases q with
      | none =>
        cases q0 with
        | none => exact ⟨rfl, rfl⟩
        | some p0 => simp at g2
      | some p =>
        cases q0 with
        | none => simp at g2
        | some p0 =>
          have hf : p.fin = p0.fin := by simpa using g2
          dsimp only
          obtain ⟨a1, a2⟩ := ih p.fin (ks ++ [p]) (ks ++ [p]) (w ++ w0)
          obtain ⟨b1, b2⟩ := ih p0.fin (ks0 ++ [p0]) (ks ++ [p]) w0
          rw [← hf] at b1 b2
          exact ⟨by rw [a1, ← hf, b1]; simp, by rw [a2, ← hf, b2]⟩
theorem read_shift (g : GrammarT) (tree : List Int) : ∀ (f : Nat) (non : Int) (at' : Nat) (w : List Int), (readF g tree f non at' w).2 = w ++ (readF g tree f non at' []).2 ∧ (readF g tree f non at' w).1.map PT.fin = (readF g tree f non at' []).1.map PT.fin := by
  intro f
  induction f with
  | zero => intro non at' w; simp [readF]
  | succ f ih =>
    intro non at' w
    unfold readF
    split
    · obtain ⟨h1, h2⟩ := kids_shift ih (ruleAt g tree at').2 (at' + 1) [] [] w
      generalize kidsF (readF g tree f) (ruleAt g tree at').2 (at' + 1) [] w = q at h1 h2
      generalize kidsF (readF g tree f) (ruleAt g tree at').2 (at' + 1) [] [] = q0 at h1 h2
      obtain ⟨q, w1⟩ := q
      obtain ⟨q0, w0⟩ := q0
      dsimp only at h1 h2
      subst h1
      cases q with
      | none =>
        cases q0 with
        | none => exact ⟨rfl, rfl⟩
        | some p0 => simp at h2
      | some p =>
        cases q0 with
        | none => simp at h2
        | some p0 =>
          have hf : p.2 = p0.2 := by simpa using h2
          obtain ⟨k, e⟩ := p
          obtain ⟨k0, e0⟩ := p0
          dsimp only at hf
          subst hf
          exact ⟨rfl, rfl⟩
    · simp
/-- A rule's place. -/
def inTree (g : GrammarT) (tree : List Int) (i : Nat) : Prop := ∃ k : Nat, tree[i]? = some (k : Int) ∧ k < g.2.2.length
theorem kids_cover {g : GrammarT} {tree : List Int} {rd : Int → Nat → List Int → Option PT × List Int} (h : ∀ x e w p w', rd x e w = (some p, w') → e < p.fin ∧ ∀ i, e ≤ i → i < p.fin → inTree g tree i) :
    ∀ (xs : List Int) (e : Nat) (ks : List PT) (w : List Int) (ks' : List PT) (e' : Nat) (w' : List Int), kidsF rd xs e ks w = (some (ks', e'), w') → e ≤ e' ∧ ∀ i, e ≤ i → i < e' → inTree g tree i := by
  intro xs
  induction xs with
  | nil =>
    intro e ks w ks' e' w' h
    simp only [kidsF, Prod.mk.injEq, Option.some.injEq] at h
    obtain ⟨⟨rfl, rfl⟩, rfl⟩ := h
    exact ⟨Nat.le_refl _, fun i h1 h2 => absurd h2 (by omega)⟩
  | cons x xs ih =>
    intro e ks w ks' e' w' hk
    unfold kidsF at hk
    by_cases h0 : x < 0
    · rw [if_pos h0] at hk
      exact ih _ _ _ _ _ _ hk
    · rw [if_neg h0] at hk
      split at hk
      · rename_i p w1 hp
        obtain ⟨g1, g2⟩ := h x e w p w1 hp
        obtain ⟨k1, k2⟩ := ih _ _ _ _ _ _ hk
        refine ⟨by omega, fun i h1 h2 => ?_⟩
        by_cases hi : i < p.fin
        · exact g2 i h1 hi
        · exact k2 i (by omega) h2
      · cases hk
theorem read_cover (g : GrammarT) (tree : List Int) : ∀ (f : Nat) (non : Int) (at' : Nat) (w : List Int) (p : PT) (w' : List Int), readF g tree f non at' w = (some p, w') → at' < p.fin ∧ ∀ i, at' ≤ i → i < p.fin → inTree g tree i := by
  intro f
  induction f with
  | zero => intro non at' w p w' h; cases h
  | succ f ih =>
    intro non at' w p w' h
    unfold readF at h
    split at h
    · rename_i hh
      obtain ⟨k, r, hlt, hz, hk, _⟩ := head_good hh
      split at h
      · rename_i ks e w1 hkk
        cases h
        obtain ⟨a, b⟩ := kids_cover ih _ _ _ _ _ _ _ hkk
        refine ⟨by simp only [PT.fin]; omega, fun i h1 h2 => ?_⟩
        simp only [PT.fin] at h2
        by_cases hi : i = at'
        · subst hi; exact ⟨k, hz, hk⟩
        · exact b i (by omega) h2
      · cases h
    · cases h
/-- Is the list a tree of the nonterminal? -/
def isTreeV (g : GrammarT) (non : Int) (tree : List Int) : Bool := decide (endF g tree 61 non 0 = tree.length)
end Go.Proofs.Ytaiefncpgkoniaa.En
