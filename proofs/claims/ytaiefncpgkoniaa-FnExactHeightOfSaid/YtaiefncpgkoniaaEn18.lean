/- Own words, 18: the call of a function that writes rows it is lent. -/
import Derived.Test.YtaiefncpgkoniaaEn17
namespace Go.Proofs.Ytaiefncpgkoniaa.En
open Go.RowKit
set_option linter.unusedSimpArgs false
set_option linter.unusedVariables false
section
attribute [local semireducible] G Gq Holds GS Pure Out Fn OutF
variable {P : Program} {nt : NT} {Q : Exit → AS → Prop} {s s' s0 : AS} {ops : Array Oper} {K : AS → Prop} {i : Nat} {o : Oper} {l : List Oper} {C : Ctx} {a : Act} {w : World} {S : Nat → Prop} {Ow : Owners} {L : Names}

theorem BlkRep.ren {ρ : Nat → Nat} {nx n : Nat} {k k' : Blk} {loc : Loc} {Ow2 : Owners} {L2 : Names} (hB : BlkRep w S Ow L (ρ n) k' loc) (hc : BlkC ρ nx k k') (hL : ∀ n, n < nx → L2 n = L (ρ n) ∨ L2 n = .gone) (hO : ∀ b q, Ow b = some ((ρ n + 1) :: q) → Ow2 b = some ((n + 1) :: q)) : BlkRep w S Ow2 L2 n k loc := by
  obtain ⟨hxs, hok⟩ := hc.all
  cases loc with
  | none =>
    have hB : k'.xs = [] := hB
    show k.xs = []
    rw [hxs] at hB
    simpa using hB
  | some p =>
    obtain ⟨h1, cs, us, h2, h3, h4, h5, h6, h7⟩ := hB
    rw [hc.2.1] at h3 h5 h6
    have get : ∀ (j : Nat) (row : List AV), k.xs[j]? = some row → k'.xs[j]? = some (row.map (En.ren ρ)) := fun j row hj => by rw [hxs]; simp [hj]
    refine ⟨hO _ [] h1, cs, us, by rw [← hc.1]; exact h2, h3, by rw [hxs, List.length_map] at h4; exact h4, fun j row hj => ?_, fun j row i x hj hi => h6 j _ i (En.ren ρ x) (get j row hj) (by simp [hi]), fun j row i x hj hi => ?_⟩
    · have := h5 j _ (get j row hj); simpa using this
    · exact (h7 j _ i (En.ren ρ x) (get j row hj) (by simp [hi])).ren hL (fun k2 q hk2 => hO k2 _ hk2) (hok row (List.mem_of_getElem? hj) x (List.mem_of_getElem? hi))
theorem BlkRep.fwd {ρ : Nat → Nat} {m n : Nat} {k k' : Blk} {loc : Loc} {Ow2 : Owners} {L2 : Names} (hB : BlkRep w S Ow L n k loc) (hc : BlkC ρ m k k') (hL : ∀ n, n < m → L2 (ρ n) = L n) (hO : ∀ b q, Ow b = some ((n + 1) :: q) → Ow2 b = some ((ρ n + 1) :: q)) : BlkRep w S Ow2 L2 (ρ n) k' loc := by
  obtain ⟨hxs, hok⟩ := hc.all
  cases loc with
  | none =>
    have hB : k.xs = [] := hB
    show k'.xs = []
    rw [hxs, hB]; rfl
  | some p =>
    obtain ⟨h1, cs, us, h2, h3, h4, h5, h6, h7⟩ := hB
    have get : ∀ (j : Nat) (row' : List AV), k'.xs[j]? = some row' → ∃ row, k.xs[j]? = some row ∧ row' = row.map (En.ren ρ) := fun j row' hj => by
      rw [hxs] at hj
      simp only [List.getElem?_map, Option.map_eq_some_iff] at hj
      obtain ⟨row, hr, rfl⟩ := hj
      exact ⟨row, hr, rfl⟩
    refine ⟨hO _ [] h1, cs, us, by rw [hc.1]; exact h2, by rw [hc.2.1]; exact h3, by rw [hxs, List.length_map]; exact h4, fun j row' hj => ?_, fun j row' i x' hj hi => ?_, fun j row' i x' hj hi => ?_⟩
    · obtain ⟨row, hr, rfl⟩ := get j row' hj
      rw [hc.2.1, List.length_map]; exact h5 j row hr
    · obtain ⟨row, hr, rfl⟩ := get j row' hj
      simp only [List.getElem?_map, Option.map_eq_some_iff] at hi
      obtain ⟨x, hx, rfl⟩ := hi
      rw [hc.2.1]; exact h6 j row i x hr hx
    · obtain ⟨row, hr, rfl⟩ := get j row' hj
      simp only [List.getElem?_map, Option.map_eq_some_iff] at hi
      obtain ⟨x, hx, rfl⟩ := hi
      exact (h7 j row i x hr hx).fwd hL (fun k2 q hk2 => hO k2 _ hk2) (hok row (List.mem_of_getElem? hr) x (List.mem_of_getElem? hx))
/-- Rows under the caller's names. -/
inductive RenB (ρ : Nat → Nat) (m : Nat) : List (Nat × Blk) → List (Nat × Blk) → Prop
  | nil : RenB ρ m [] []
  | cons {n : Nat} {k k' : Blk} {r r' : List (Nat × Blk)} (h : BlkC ρ m k k') (hr : RenB ρ m r r') : RenB ρ m ((n, k) :: r) ((ρ n, k') :: r')
theorem RenB.nf {ρ : Nat → Nat} {m n : Nat} {k : Blk} {r r' : List (Nat × Blk)} (h : ∀ row ∈ k.xs, ∀ x ∈ row, En.nf x = true) (hr : RenB ρ m r r') : RenB ρ m ((n, k) :: r) ((ρ n, k) :: r') := .cons ⟨rfl, rfl, .inl ⟨rfl, h⟩⟩ hr
theorem RenB.rn {ρ : Nat → Nat} {m n : Nat} {e : TypeId} {sz : Nat} {xs : List (List AV)} {r r' : List (Nat × Blk)} (h : ∀ row ∈ xs, ∀ x ∈ row, okr m x = true) (hr : RenB ρ m r r') : RenB ρ m ((n, ⟨e, sz, xs⟩) :: r) ((ρ n, ⟨e, sz, xs.map (List.map (En.ren ρ))⟩) :: r') := .cons ⟨rfl, rfl, .inr ⟨rfl, h⟩⟩ hr
theorem RenB.get {ρ : Nat → Nat} {m : Nat} {bl bl' : List (Nat × Blk)} (h : RenB ρ m bl bl') (hm : bl.all (fun p => decide (p.1 < m)) = true) (hi : ∀ i j, i < m → j < m → ρ i = ρ j → i = j) {n : Nat} {k' : Blk} (hn : lb bl' n = some k') : ∃ i k, i < m ∧ ρ i = n ∧ lb bl i = some k ∧ BlkC ρ m k k' := by
  induction h with
  | nil => simp [lb] at hn
  | cons hc hr ih =>
    rename_i n0 k0 k0' r r'
    simp only [List.all_cons, Bool.and_eq_true, decide_eq_true_eq] at hm
    simp only [lb] at hn
    split at hn
    · rename_i e
      cases hn
      exact ⟨n0, k0, hm.1, e, by simp [lb], hc⟩
    · rename_i e
      obtain ⟨i, k, h1, h2, h3, h4⟩ := ih hm.2 hn
      refine ⟨i, k, h1, h2, ?_, h4⟩
      have : n0 ≠ i := fun g => e (by rw [g, h2])
      simp [lb, this, h3]
theorem lb_append (x y : List (Nat × Blk)) (n : Nat) : lb (x ++ y) n = match lb x n with | some k => some k | none => lb y n := by
  induction x with
  | nil => simp [lb]
  | cons h r ih =>
    obtain ⟨k, b⟩ := h
    simp only [List.cons_append, lb]
    split
    · rfl
    · exact ih
/-- Behind the call: the rows lent are taken out, those that come back put in. -/
def aft (s : AS) (k : Nat) (ρ : Nat → Nat) (m : Nat) (bl' : List (Nat × Blk)) : AS := ⟨s.tm, bl' ++ s.bl.filter (fun p => !((List.range k).any fun i => ρ i == p.1)), s.nx + (m - k)⟩
/-- The name under which a caller knows what the called function names. -/
def nme (k nx : Nat) (ρ : Nat → Nat) : Nat → Nat := fun n => if n < k then ρ n else nx + (n - k)

theorem fn_wp {Q : Exit → Act → World → Prop} {K : Act → World → Prop} {c : Operand} {as : Array Operand} {ts : Array TypeId} {f : FuncId} {xs cap args : List AV} {k m : Nat} {ins outs bl' : List (Nat × Blk)} {r : AV} (ρ : Nat → Nat) (ho : ops[i]? = some o) (hg : gd ops s o = some true) (hop : o.op = .call ⟨.value c, as, ts⟩) (hd : okd nt.n o.dst = true)
    (hc : ev s c = some (.fn f cap)) (he : as.toList.mapM (ev s) = some xs) (hargs : xs ++ cap = args.map (En.ren ρ)) (hok : args.all (okr k) = true) (hins : (List.range k).all (fun n => (lb ins n).isSome) = true) (hb : ChkB ρ k s.bl ins) (hkm : k ≤ m) (hom : outs.all (fun p => decide (p.1 < m)) = true)
    (hp : Fn P f k args ins r m outs) (hr : okr m r = true) (hren : RenB (nme k s.nx ρ) m outs bl') (hn : C.nt = nt) (hR : RelX C s a w S Ow L) (hK : ∀ a' w' S' Ow' L', RelX C (put (aft s k ρ m bl') o.dst (En.ren (nme k s.nx ρ) r)) a' w' S' Ow' L' → K a' w') : wpOp P ops Q i K a w := by
  subst hn
  unfold wpOp
  simp only [ho]
  rw [gd_sound hR hg]
  simp only [if_true]
  left
  have hcr := ev_rep hR hc
  obtain ⟨us0, e, hl0, hr0⟩ := hcr.fn_inv
  unfold Oper.wp
  rw [exec_call hop e hp.1]
  -- what is lent
  have hin : ∀ n, n < k → ∃ kk, lb ins n = some kk := fun n hn => by
    rw [List.all_eq_true] at hins
    have := hins n (List.mem_range.2 hn)
    exact Option.isSome_iff_exists.1 this
  have row : ∀ n kk, lb ins n = some kk → n < k ∧ ∃ k', lb s.bl (ρ n) = some k' ∧ BlkC ρ k kk k' := fun n kk hn => hb.get _ (lb_mem hn)
  have inj : ∀ n n', n < k → n' < k → ρ n = ρ n' → n = n' := fun n n' h1 h2 e => by
    obtain ⟨k1, g1⟩ := hin n h1
    obtain ⟨k2, g2⟩ := hin n' h2
    exact hb.inj _ (lb_mem g1) _ (lb_mem g2) e
  have at' : ∀ n, n < k → ∃ loc, L (ρ n) = .at loc := fun n hn => by
    obtain ⟨kk, g⟩ := hin n hn
    obtain ⟨_, k', hk', _⟩ := row n kk g
    obtain ⟨loc, hl, _⟩ := hR.blk _ _ hk'
    exact ⟨loc, hl⟩
  have lt' : ∀ n, n < k → ρ n < s.nx := fun n hn => by
    obtain ⟨loc, hl⟩ := at' n hn
    rcases Nat.lt_or_ge (ρ n) s.nx with g | g
    · exact g
    · rw [hR.fresh _ g] at hl; cases hl
  classical
  let idx : Nat → Option Nat := fun n => if h : ∃ i, i < k ∧ ρ i = n then some (Classical.choose h) else none
  have idx1 : ∀ n, n < k → idx (ρ n) = some n := fun n hn => by
    have g : ∃ i, i < k ∧ ρ i = ρ n := ⟨n, hn, rfl⟩
    simp only [idx, dif_pos g]
    obtain ⟨h1, h2⟩ := Classical.choose_spec g
    exact congrArg some (inj _ _ h1 hn h2)
  have idx2 : ∀ n j, idx n = some j → j < k ∧ ρ j = n := fun n j hj => by
    simp only [idx] at hj
    split at hj
    · rename_i g; cases hj; exact Classical.choose_spec g
    · cases hj
  let Owc : Owners := fun b => (Ow b).bind fun p => match p with
    | (n + 1) :: q => (idx n).map fun j => (j + 1) :: q
    | _ => none
  have F1 : ∀ b n q, n < k → Ow b = some ((ρ n + 1) :: q) → Owc b = some ((n + 1) :: q) := fun b n q hn hb => by simp [Owc, hb, idx1 n hn]
  have F2 : ∀ b p, Owc b = some p → ∃ n q, n < k ∧ p = (n + 1) :: q ∧ Ow b = some ((ρ n + 1) :: q) := fun b p hb => by
    simp only [Owc, Option.bind_eq_some_iff] at hb
    obtain ⟨p0, h0, h1⟩ := hb
    split at h1
    · simp only [Option.map_eq_some_iff] at h1
      obtain ⟨j, hj, rfl⟩ := h1
      obtain ⟨g1, g2⟩ := idx2 _ _ hj
      exact ⟨j, _, g1, rfl, by rw [g2]; exact h0⟩
    · cases h1
  let Lc : Names := fun n => if n < k then L (ρ n) else .free
  have hLc : ∀ n, n < k → Lc n = L (ρ n) ∨ Lc n = .gone := fun n hn => .inl (by simp only [Lc, if_pos hn])
  let X : Nat → Prop := fun b => Owc b ≠ none
  have hE : RelX ⟨w, X, S, ⟨0, k⟩, fixOf k Lc⟩ ⟨[], ins, k⟩ a0 w S Owc Lc := by
    refine { fix := fun n loc hn => ?_, keep := Keep.refl _ _, inS := fun _ h => h, upS := fun _ h => .inl h, ltS := hR.ltS, owS := fun b hb => ?_, ow := fun b p hb => ?_, ow0 := fun b q hb => ?_, blk := fun n kk hn => ?_, fresh := fun n hn => ?_, named := fun n hn => ?_, freshO := fun b n q hb => ?_, slot := fun t x hx => (by cases hx), size := rfl, defers := rfl }
    · cases e : Owc b with
      | none => rfl
      | some p => obtain ⟨n, q, _, _, h3⟩ := F2 b p e; rw [hR.owS b hb] at h3; cases h3
    · obtain ⟨n, q, _, _, h3⟩ := F2 b p hb
      exact ⟨.inr (by simp only [X]; rw [hb]; simp), (hR.ow b _ h3).2⟩
    · obtain ⟨n, q', _, h2, _⟩ := F2 b _ hb; cases h2
    · obtain ⟨hnk, k', hk', hcc⟩ := row n kk hn
      obtain ⟨loc, hl, hB⟩ := hR.blk _ _ hk'
      exact ⟨loc, by simp only [Lc, if_pos hnk]; exact hl, hB.ren hcc hLc (fun b q hb => F1 b n q hnk hb)⟩
    · have : ¬ n < k := Nat.not_lt.2 hn
      simp only [Lc, if_neg this]
    · have hn : n < k := hn
      obtain ⟨loc, hl⟩ := at' n hn
      simp only [Lc, if_pos hn, hl]; simp
    · obtain ⟨n', q', h1, h2, _⟩ := F2 b _ hb
      cases h2; exact h1
    · have := fixOf_eq.1 hn
      exact ⟨this.1, .inl this.2⟩
  have hxl : xs.length = as.toList.length := mapM_some_length he
  have hrep : ∀ (j : Nat) (y : AV) (u : Value), args[j]? = some y → (as.toList.map a.eval ++ us0)[j]? = some u → Rep w S Owc Lc [0] y u := fun j y u hy hu => by
    have hoky : okr k y = true := by rw [List.all_eq_true] at hok; exact hok y (List.mem_of_getElem? hy)
    have hx : (xs ++ cap)[j]? = some (En.ren ρ y) := by rw [hargs]; simp [hy]
    have key : Rep w S Ow L [0] (En.ren ρ y) u := by
      by_cases hi : j < xs.length
      · rw [List.getElem?_append_left hi] at hx
        rw [List.getElem?_append_left (by simp only [List.length_map]; omega)] at hu
        simp only [List.getElem?_map, Option.map_eq_some_iff] at hu
        obtain ⟨op, hop, rfl⟩ := hu
        have := mapM_some_get he j op hop
        rw [hx] at this
        exact ev_rep hR this
      · rw [List.getElem?_append_right (by omega)] at hx
        rw [List.getElem?_append_right (by simp only [List.length_map]; omega)] at hu
        have e2 : (as.toList.map a.eval).length = xs.length := by simp only [List.length_map]; omega
        rw [e2] at hu
        exact (hr0 _ _ u hx hu).names (fun _ => .inr (.inl rfl)) (fun b q hq => absurd hq (hR.ow0 b _))
    exact key.ren hLc (fun b q hq => absurd hq (hR.ow0 b q)) hoky
  have hlen : (as.toList.map a.eval ++ us0).length = args.length := by
    have : (xs ++ cap).length = args.length := by rw [hargs]; simp
    simp only [List.length_append, List.length_map] at this ⊢
    omega
  refine Calls.mono (hp.2 w X S Owc Lc _ hE hlen hrep) fun e' w' => ?_
  rintro ⟨v, rfl, S', Ow', L', hX, hv⟩
  -- behind the call
  have hXb : ∀ b, X b → ∃ p, Ow b = some p := fun b hb => by
    cases e : Owc b with
    | none => exact absurd e hb
    | some p => obtain ⟨n, q, _, _, h3⟩ := F2 b p e; exact ⟨_, h3⟩
  have hXC : ∀ b, X b → C.W.heap.size ≤ b ∨ C.X b := fun b hb => by obtain ⟨p, hp⟩ := hXb b hb; exact (hR.ow b p hp).1
  let ρ' := nme k s.nx ρ
  have r1 : ∀ n, n < k → ρ' n = ρ n := fun n hn => by simp only [ρ', nme, if_pos hn]
  have r2 : ∀ n, k ≤ n → ρ' n = s.nx + (n - k) := fun n hn => by simp only [ρ', nme, if_neg (Nat.not_lt.2 hn)]
  have inj' : ∀ i j, i < m → j < m → ρ' i = ρ' j → i = j := fun i j _ _ e => by
    rcases Nat.lt_or_ge i k with g | g <;> rcases Nat.lt_or_ge j k with g' | g'
    · rw [r1 i g, r1 j g'] at e; exact inj _ _ g g' e
    · rw [r1 i g, r2 j g'] at e; have := lt' i g; omega
    · rw [r2 i g, r1 j g'] at e; have := lt' j g'; omega
    · rw [r2 i g, r2 j g'] at e; omega
  let L2 : Names := fun n => match idx n with
    | some j => L' j
    | none => if s.nx ≤ n ∧ n < s.nx + (m - k) then L' (n - s.nx + k) else L n
  have idxhi : ∀ n, s.nx ≤ n → idx n = none := fun n hn => by
    cases e : idx n with
    | none => rfl
    | some j => obtain ⟨h1, h2⟩ := idx2 n j e; have := lt' j h1; omega
  have L2r : ∀ n, n < m → L2 (ρ' n) = L' n := fun n hn => by
    rcases Nat.lt_or_ge n k with g | g
    · rw [r1 n g]; simp only [L2, idx1 n g]
    · rw [r2 n g]
      simp only [L2, idxhi _ (Nat.le_add_right _ _)]
      rw [if_pos ⟨by omega, by omega⟩]
      congr 1; omega
  have L2o : ∀ n, idx n = none → n < s.nx → L2 n = L n := fun n hi hn => by
    simp only [L2, hi]
    rw [if_neg (by omega)]
  have L2n : ∀ n, L n = .free ∨ L2 n = L n ∨ L2 n = .gone := fun n => by
    rcases Nat.lt_or_ge n s.nx with g | g
    · cases e : idx n with
      | none => exact .inr (.inl (L2o n e g))
      | some j =>
        obtain ⟨h1, h2⟩ := idx2 n j e
        obtain ⟨loc, hl⟩ := at' j h1
        have hf : fixOf k Lc j = some loc := fixOf_eq.2 ⟨h1, by simp only [Lc, if_pos h1]; exact hl⟩
        rcases (hX.fix j loc hf).2 with g | g
        · right; left
          simp only [L2, e]
          rw [g, ← h2, hl]
        · right; right
          simp only [L2, e]
          exact g
    · exact .inl (hR.fresh n g)
  let Ow2 : Owners := fun b => match Ow' b with
    | some ((n + 1) :: q) => some ((ρ' n + 1) :: q)
    | _ => if S' b ∨ X b then none else Ow b
  have O1 : ∀ b n q, Ow' b = some ((n + 1) :: q) → Ow2 b = some ((ρ' n + 1) :: q) := fun b n q hb => by simp only [Ow2, hb]
  have O2 : ∀ b p, Ow2 b = some p → (∃ n q, Ow' b = some ((n + 1) :: q) ∧ p = (ρ' n + 1) :: q) ∨ (¬ S' b ∧ ¬ X b ∧ Ow b = some p) := fun b p hb => by
    simp only [Ow2] at hb
    split at hb
    · rename_i n q e; cases hb; exact .inl ⟨n, q, e, rfl⟩
    · split at hb
      · cases hb
      · rename_i g; exact .inr ⟨fun h => g (.inl h), fun h => g (.inr h), hb⟩
  have notS' : ∀ b p, Ow b = some p → ¬ X b → ¬ S' b := fun b p hb hx hs => by
    rcases hX.upS b hs with g | g | g
    · have g : S b := g
      rw [hR.owS b g] at hb; cases hb
    · have g : w.heap.size ≤ b := g
      have := (hR.ow b p hb).2; omega
    · exact hx g
  have O3 : ∀ b p, Ow b = some p → ¬ X b → Ow2 b = some p := fun b p hb hx => by
    have hn : Ow' b = none := by
      cases e : Ow' b with
      | none => rfl
      | some p' =>
        rcases (hX.ow b p' e).1 with g | g
        · have g : w.heap.size ≤ b := g
          have := (hR.ow b p hb).2; omega
        · exact absurd g hx
    simp only [Ow2, hn]
    rw [if_neg (fun h => h.elim (notS' b p hb hx) hx)]
    exact hb
  have nX : ∀ b n q, Ow b = some ((n + 1) :: q) → idx n = none → ¬ X b := fun b n q hb hi hx => by
    simp only [X, Owc, hb, Option.bind_some, hi, Option.map_none] at hx
    exact hx rfl
  have old : ∀ b, b < w.heap.size → ¬ X b → w'.heap[b]? = w.heap[b]? := fun b hb hx => hX.keep.block b hb hx
  have oldS : ∀ b, S b → w'.heap[b]? = w.heap[b]? := fun b hb => old b (hR.ltS b hb) fun hx => by obtain ⟨p, hp⟩ := hXb b hx; rw [hR.owS b hb] at hp; cases hp
  have inS' : ∀ b, S b → S' b := fun b hb => hX.inS b hb
  have hsize : w.heap.size ≤ w'.heap.size := hX.keep.size
  have hlow : C.W.heap.size ≤ w.heap.size := hR.keep.size
  have hbl : ∀ n kk, lb (aft s k ρ m bl').bl n = some kk → (∃ j k0, j < m ∧ ρ' j = n ∧ lb outs j = some k0 ∧ BlkC ρ' m k0 kk) ∨ (idx n = none ∧ lb s.bl n = some kk) := fun n kk hn => by
    simp only [aft, lb_append] at hn
    split at hn
    · rename_i k1 e
      cases hn
      obtain ⟨j, k0, h1, h2, h3, h4⟩ := hren.get hom inj' e
      exact .inl ⟨j, k0, h1, h2, h3, h4⟩
    · rw [lb_filter s.bl (fun n => !((List.range k).any fun i => ρ i == n))] at hn
      split at hn
      · rename_i g
        refine .inr ⟨?_, hn⟩
        cases e : idx n with
        | none => rfl
        | some j =>
          obtain ⟨h1, h2⟩ := idx2 n j e
          have : ((List.range k).any fun i => ρ i == n) = true := List.any_eq_true.2 ⟨j, List.mem_range.2 h1, by simp [h2]⟩
          rw [this] at g; simp at g
      · cases hn
  have hR2 : RelX C (aft s k ρ m bl') a w' S' Ow2 L2 := by
    refine { fix := fix_of hR.fix L2n, keep := ⟨hX.keep.os.trans hR.keep.os, hX.keep.tape.trans hR.keep.tape, hX.keep.output.trans hR.keep.output, Nat.le_trans hlow hsize, fun b hb hx => ?_⟩, inS := fun b hb => inS' b (hR.inS b hb), upS := fun b hb => ?_, ltS := hX.ltS, owS := fun b hb => ?_, ow := fun b p hb => ?_, ow0 := fun b q hb => ?_, blk := fun n kk hn => ?_, fresh := fun n hn => ?_, named := fun n hn => ?_, freshO := fun b n q hb => ?_, slot := fun t x hx => ?_, size := hR.size, defers := hR.defers }
    · have h1 : ¬ X b := fun hxb => by
        rcases hXC b hxb with g | g
        · omega
        · exact hx g
      exact (old b (by omega) h1).trans (hR.keep.block b hb hx)
    · rcases hX.upS b hb with g | g | g
      · exact hR.upS b g
      · have g : w.heap.size ≤ b := g
        exact .inr (.inl (by omega))
      · exact .inr (hXC b g)
    · have hn : Ow' b = none := hX.owS b hb
      simp only [Ow2, hn]
      rw [if_pos (.inl hb)]
    · rcases O2 b p hb with ⟨n, q, h1, rfl⟩ | ⟨_, _, h3⟩
      · obtain ⟨g1, g2⟩ := hX.ow b _ h1
        refine ⟨?_, g2⟩
        rcases g1 with g | g
        · have g : w.heap.size ≤ b := g
          exact .inl (by omega)
        · exact hXC b g
      · exact ⟨(hR.ow b p h3).1, by have := (hR.ow b p h3).2; omega⟩
    · rcases O2 b _ hb with ⟨n, q', h1, e⟩ | ⟨_, _, h3⟩
      · cases e
      · exact hR.ow0 b q h3
    · rcases hbl n kk hn with ⟨j, k0, h1, rfl, h3, h4⟩ | ⟨hi, h3⟩
      · obtain ⟨loc, hl, hB⟩ := hX.blk j k0 h3
        exact ⟨loc, by rw [L2r j h1]; exact hl, hB.fwd h4 L2r (fun b q hb => O1 b j q hb)⟩
      · obtain ⟨loc, hl, hB⟩ := hR.blk n kk h3
        have hnx : n < s.nx := by
          rcases Nat.lt_or_ge n s.nx with g | g
          · exact g
          · rw [hR.fresh n g] at hl; cases hl
        refine ⟨loc, by rw [L2o n hi hnx]; exact hl, ?_⟩
        have hB1 := hB.world hsize oldS (fun b q hb => old b (hR.ow b _ hb).2 (nX b n q hb hi))
        have hB2 : BlkRep w' S' Ow L n kk loc := by
          cases loc with
          | none => exact hB1
          | some p =>
            obtain ⟨h1, cs, us, h2, h3, h4, h5, h6, h7⟩ := hB1
            exact ⟨h1, cs, us, h2, h3, h4, h5, h6, fun j row i x hj hi => (h7 j row i x hj hi).world (Nat.le_refl _) inS' (fun _ _ => rfl) (fun _ _ _ => rfl)⟩
        exact hB2.names L2n (fun b q hb => O3 b _ hb (nX b n q hb hi))
    · have hn' : s.nx + (m - k) ≤ n := hn
      simp only [L2, idxhi n (by omega)]
      rw [if_neg (by omega)]
      exact hR.fresh n (by omega)
    · have hn' : n < s.nx + (m - k) := hn
      cases e : idx n with
      | some j =>
        obtain ⟨h1, _⟩ := idx2 n j e
        simp only [L2, e]
        exact hX.named j (show j < m by omega)
      | none =>
        rcases Nat.lt_or_ge n s.nx with g | g
        · rw [L2o n e g]; exact hR.named n g
        · simp only [L2, e]
          rw [if_pos ⟨g, hn'⟩]
          exact hX.named _ (show n - s.nx + k < m by omega)
    · show n ≤ s.nx + (m - k)
      rcases O2 b _ hb with ⟨n', q', h1, e⟩ | ⟨_, _, h3⟩
      · cases e
        have : n' + 1 ≤ m := hX.freshO b _ _ h1
        rcases Nat.lt_or_ge n' k with g | g
        · rw [r1 n' g]; have := lt' n' g; omega
        · rw [r2 n' g]; omega
      · have := hR.freshO b _ _ h3; omega
    · obtain ⟨u, hu, hRp⟩ := hR.slot t x hx
      exact ⟨u, hu, ((hRp.world hsize inS' oldS (fun b q hb => absurd hb (hR.ow0 b q))).names L2n (fun b q hb => absurd hb (hR.ow0 b q)))⟩
  have hv2 : Rep w' S' Ow2 L2 [0] (En.ren ρ' r) v := hv.fwd L2r (fun b q hb => absurd hb (hX.ow0 b q)) hr
  exact hK _ _ _ _ _ (hR2.put o.dst hd hv2)
theorem GS.fn {c : Operand} {as : Array Operand} {ts : Array TypeId} {f : FuncId} {xs cap args : List AV} {k m : Nat} {ins outs bl' : List (Nat × Blk)} {r : AV} (ρ : Nat → Nat) (hp : Fn P f k args ins r m outs) (hop : o.op = .call ⟨.value c, as, ts⟩) (hg : gd ops s o = some true) (hd : okd nt.n o.dst = true)
    (hc : ev s c = some (.fn f cap)) (he : as.toList.mapM (ev s) = some xs) (hargs : xs ++ cap = args.map (En.ren ρ)) (hok : args.all (okr k) = true) (hins : (List.range k).all (fun n => (lb ins n).isSome) = true) (hb : ChkB ρ k s.bl ins) (hkm : k ≤ m) (hom : outs.all (fun p => decide (p.1 < m)) = true)
    (hr : okr m r = true) (hren : RenB (nme k s.nx ρ) m outs bl') (h : GS P nt ops K l (i + 1) (put (aft s k ρ m bl') o.dst (En.ren (nme k s.nx ρ) r))) : GS P nt ops K (o :: l) i s :=
  GS.cons (fun ho r' hr' => fun C a w S Ow L Q hn hR hQ => by
    rw [wpOps_cons]
    exact fn_wp ρ ho hg hop hd hc he hargs hok hins hb hkm hom hp hr hren hn hR fun a' w' S' Ow' L' hR' => hr' C _ _ _ _ _ Q hn hR' hQ) h
end
attribute [go_sem] aft nme
end Go.Proofs.Ytaiefncpgkoniaa.En
