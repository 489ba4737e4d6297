/- Trees as lists of rules: the plain law. -/
import Derived.Test.YtaiefncpgkoniaaBb
namespace Go.Proofs.Ytaiefncpgkoniaa.En
open Go.RowKit
set_option linter.unusedSimpArgs false
set_option linter.unusedVariables false
/-- A tree: its nonterminal, rule, place, the place behind it, the tokens from and to, its trees. -/
inductive PT where
  | node (non rule : Int) (at' fin frm to : Nat) (kids : List PT)
def PT.fin : PT → Nat
  | .node _ _ _ d _ _ _ => d
mutual
def partC : PT → List AV
  | .node a b c d e f ks => [.v (.int .i64 a), .v (.int .i64 b), .v (.int .i64 c), .v (.int .i64 d), .v (.int .i64 e), .v (.int .i64 f), .im 1 (kidsC ks)]
def kidsC : List PT → List (List AV)
  | [] => []
  | k :: ks => [.pi (partC k)] :: kidsC ks
end
theorem kidsC_snoc (p : PT) : ∀ ks, kidsC (ks ++ [p]) = kidsC ks ++ [[.pi (partC p)]]
  | [] => by simp [kidsC]
  | k :: ks => by simp [kidsC, kidsC_snoc p ks]
@[simp] theorem kidsC_len : ∀ ks, (kidsC ks).length = ks.length
  | [] => rfl
  | k :: ks => by simp [kidsC, kidsC_len ks]
theorem kidsC_cl : ∀ (ks : List PT), ∀ row ∈ kidsC ks, ∀ x ∈ row, cl1 x = true
  | [], row, h, _, _ => by simp [kidsC] at h
  | k :: ks, row, h, x, hx => by
    simp only [kidsC, List.mem_cons] at h
    rcases h with rfl | h
    · simp at hx; subst hx; rfl
    · exact kidsC_cl ks row h x hx
@[simp] theorem nfr_kidsC (ks : List PT) : nfr (kidsC ks) := nfr_of_ok (kidsC_cl ks)
/-- The rule at a place of the list, seen as a rule of the grammar. -/
def ruleAt (g : GrammarT) (tree : List Int) (at' : Nat) : RuleT := g.2.2.getD (tree.getD at' 0).toNat (0, [])
def headOk (g : GrammarT) (tree : List Int) (non : Int) (at' : Nat) : Bool := decide (at' < tree.length) && inR (tree.getD at' 0) 0 ((g.2.2.length : Int) - 1) && decide ((ruleAt g tree at').1 = non)
def kidsF (rd : Int → Nat → List Int → Option PT × List Int) : List Int → Nat → List PT → List Int → Option (List PT × Nat) × List Int
  | [], e, ks, w => (some (ks, e), w)
  | x :: xs, e, ks, w => if x < 0 then kidsF rd xs e ks (w ++ [-1 - x]) else
    match rd x e w with
    | (some p, w') => kidsF rd xs p.fin (ks ++ [p]) w'
    | (none, w') => (none, w')
def readF (g : GrammarT) (tree : List Int) : Nat → Int → Nat → List Int → Option PT × List Int
  | 0, _, _, w => (none, w)
  | f + 1, non, at', w => if headOk g tree non at' then
      match kidsF (readF g tree f) (ruleAt g tree at').2 (at' + 1) [] w with
      | (some (ks, e), w') => (some (.node non (tree.getD at' 0) at' e w.length w'.length ks), w')
      | (none, w') => (none, w')
    else (none, w)
def endK (rd : Int → Nat → Int) : List Int → Nat → Int
  | [], e => e
  | x :: xs, e => if x < 0 then endK rd xs e else if rd x e < 0 then -1 else endK rd xs (rd x e).toNat
def endF (g : GrammarT) (tree : List Int) : Nat → Int → Nat → Int
  | 0, _, _ => -1
  | f + 1, non, at' => if headOk g tree non at' then endK (endF g tree f) (ruleAt g tree at').2 (at' + 1) else -1
theorem headOk_lt {g : GrammarT} {tree : List Int} {non : Int} {at' : Nat} (h : headOk g tree non at' = true) : at' < tree.length := by
  unfold headOk at h
  simp only [Bool.and_eq_true, decide_eq_true_eq] at h
  exact h.1.1
theorem kidsF_props {rd : Int → Nat → List Int → Option PT × List Int} {n : Nat} (hrd : ∀ x e w p w', rd x e w = (some p, w') → e < p.fin ∧ p.fin ≤ n ∧ w'.length ≤ w.length + 4 * (p.fin - e)) :
    ∀ (xs : List Int) (e : Nat) (ks : List PT) (w : List Int) (ks' : List PT) (e' : Nat) (w' : List Int), e ≤ n → kidsF rd xs e ks w = (some (ks', e'), w') → e ≤ e' ∧ e' ≤ n ∧ w'.length ≤ w.length + xs.length + 4 * (e' - e) := by
  intro xs
  induction xs with
  | nil =>
    intro e ks w ks' e' w' he h
    simp only [kidsF, Prod.mk.injEq, Option.some.injEq] at h
    obtain ⟨⟨rfl, rfl⟩, rfl⟩ := h
    simp [he]
  | cons x xs ih =>
    intro e ks w ks' e' w' he h
    unfold kidsF at h
    split at h
    · have := ih e ks _ ks' e' w' he h
      simp at this ⊢
      omega
    · split at h
      · rename_i p w1 hp
        obtain ⟨h1, h2, h3⟩ := hrd x e w p w1 hp
        have := ih p.fin _ w1 ks' e' w' h2 h
        simp at this ⊢
        omega
      · cases h
theorem readF_props {g : GrammarT} (hg : OkG g) (tree : List Int) : ∀ (f : Nat) (non : Int) (at' : Nat) (w : List Int) (p : PT) (w' : List Int), readF g tree f non at' w = (some p, w') → at' < p.fin ∧ p.fin ≤ tree.length ∧ w'.length ≤ w.length + 4 * (p.fin - at') := by
  intro f
  induction f with
  | zero => intro non at' w p w' h; cases h
  | succ f ih =>
    intro non at' w p w' h
    unfold readF at h
    split at h
    · rename_i hh
      have hlt := headOk_lt hh
      split at h
      · rename_i ks e w1 hk
        cases h
        have := kidsF_props (n := tree.length) ih _ _ _ _ _ _ _ (by omega) hk
        have h4 : (ruleAt g tree at').2.length ≤ 4 := by
          unfold ruleAt
          by_cases hr : (tree.getD at' 0).toNat < g.2.2.length
          · rw [List.getD_eq_getElem?_getD, List.getElem?_eq_getElem hr]
            exact hg.r4 _ (List.getElem_mem hr)
          · rw [List.getD_eq_getElem?_getD, List.getElem?_eq_none (by omega)]; simp
        simp only [PT.fin]
        omega
      · cases h
    · cases h
theorem endK_read {rd : Int → Nat → List Int → Option PT × List Int} {rd' : Int → Nat → Int} (h : ∀ x e w, rd' x e = match (rd x e w).1 with | some p => (p.fin : Int) | none => -1) :
    ∀ (xs : List Int) (e : Nat) (ks : List PT) (w : List Int), endK rd' xs e = match (kidsF rd xs e ks w).1 with | some q => (q.2 : Int) | none => -1 := by
  intro xs
  induction xs with
  | nil => intro e ks w; rfl
  | cons x xs ih =>
    intro e ks w
    unfold endK kidsF
    by_cases h0 : x < 0
    · rw [if_pos h0, if_pos h0]
      exact ih e ks _
    · rw [if_neg h0, if_neg h0]
      have hx := h x e w
      generalize rd x e w = q at hx
      obtain ⟨q, w1⟩ := q
      cases q with
      | none =>
        dsimp only at hx
        rw [hx]; rfl
      | some p =>
        dsimp only at hx
        rw [hx, if_neg (Int.not_lt.2 (Int.natCast_nonneg _)), Int.toNat_natCast]
        exact ih _ _ _
theorem end_read (g : GrammarT) (tree : List Int) : ∀ (f : Nat) (non : Int) (at' : Nat) (w : List Int), endF g tree f non at' = match (readF g tree f non at' w).1 with | some p => (p.fin : Int) | none => -1 := by
  intro f
  induction f with
  | zero => intro non at' w; rfl
  | succ f ih =>
    intro non at' w
    unfold endF readF
    split
    · have := endK_read ih (ruleAt g tree at').2 (at' + 1) [] w
      rw [this]
      generalize kidsF (readF g tree f) (ruleAt g tree at').2 (at' + 1) [] w = q
      obtain ⟨q, w1⟩ := q
      cases q <;> rfl
    · rfl
theorem endF_props {g : GrammarT} (hg : OkG g) (tree : List Int) (f : Nat) (non : Int) (at' : Nat) (h : ¬ endF g tree f non at' < 0) : (at' : Int) < endF g tree f non at' ∧ endF g tree f non at' ≤ tree.length := by
  have e := end_read g tree f non at' []
  have hp := readF_props hg tree f non at' []
  generalize readF g tree f non at' [] = q at e hp
  obtain ⟨q, w1⟩ := q
  cases q with
  | none => dsimp only at e; omega
  | some p =>
    dsimp only at e
    have := hp p w1 rfl
    omega
end Go.Proofs.Ytaiefncpgkoniaa.En
