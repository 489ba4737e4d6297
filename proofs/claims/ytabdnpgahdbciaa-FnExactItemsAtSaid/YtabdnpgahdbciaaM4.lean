/- Own words and walks of this claim, part 4: what the program's functions compute, for all the arguments that are named; no further conditions. -/
import Derived.Test.YtabdnpgahdbciaaM3
import Derived.WideMake
import Derived.Test.YtabdnpgahdbciaaM2
section
namespace Go.Proofs.Ytabdnpgahdbciaa.En
open Go.RowKit
set_option linter.unusedSimpArgs false
set_option linter.unusedVariables false
section
attribute [local semireducible] G Gq Holds GS Pure Out Fn OutF
variable {P : Program} {nt : NT} {s s' : AS} {ops : Array Oper} {K : AS → Prop} {i : Nat} {o : Oper} {l : List Oper}
/-- A name for a value of one cell of which nothing is known. -/
theorem RelX.opq {C : Ctx} {a : Act} {w : World} {S : Nat → Prop} {Ow : Owners} {L : Names} (h : RelX C s a w S Ow L) :
    ∃ L', RelX C ⟨s.tm, s.bl, s.nx + 1⟩ a w S Ow L' ∧ L' s.nx = .gone := by
  have hLn : ∀ n, L n = .free ∨ (if n = s.nx then NL.gone else L n) = L n ∨ (if n = s.nx then NL.gone else L n) = .gone := fun n => by
    by_cases e : n = s.nx
    · exact .inl (h.fresh n (by omega))
    · simp [e]
  refine ⟨fun n => if n = s.nx then .gone else L n, ?_, by simp⟩
  refine { fix := fix_of h.fix hLn, keep := h.keep, inS := h.inS, upS := h.upS, ltS := h.ltS, owS := h.owS, ow := h.ow, ow0 := h.ow0, blk := ?_, fresh := ?_, named := ?_, freshO := fun b n q hq => Nat.le_succ_of_le (h.freshO b n q hq), slot := ?_, size := h.size, defers := h.defers }
  · intro n kk hn
    obtain ⟨loc, hl, hB⟩ := h.blk n kk hn
    have e : n ≠ s.nx := fun e => by rw [e, h.fresh _ (Nat.le_refl _)] at hl; cases hl
    exact ⟨loc, by simp [e, hl], hB.names hLn (fun _ _ hq => hq)⟩
  · intro n hn
    have hn' : s.nx + 1 ≤ n := hn
    simp only [show n ≠ s.nx by omega, if_false]
    exact h.fresh n (by omega)
  · intro n hn
    have hn' : n < s.nx + 1 := hn
    by_cases e : n = s.nx
    · simp [e]
    · simp only [e, if_false]; exact h.named n (by omega)
  · intro t x hx
    obtain ⟨v, hv, hR⟩ := h.slot t x hx
    exact ⟨v, hv, hR.names hLn (fun _ _ hq => hq)⟩
theorem GS.mkMap {t : TypeId} {s1 : AS} (hop : o.op = .makeMap t none) (hg : gd ops s o = some true) (hd : okd nt.n o.dst = true) (hs1 : put ⟨s.tm, s.bl, s.nx + 1⟩ o.dst (.own s.nx 1 0 0) = s1) (h : GS P nt ops K l (i + 1) s1) : GS P nt ops K (o :: l) i s :=
  GS.cons (fun ho r' hr' => fun C ac w S Ow L Q hn hR hQ => by
    subst hn hs1
    rw [wpOps_cons]
    unfold wpOp
    simp only [ho]
    rw [gd_sound hR hg]
    simp only [if_true]
    left
    have hrun : (execOp ac.eval o).run P w = .ok (.value (.map (some w.heap.size))) (w.alloc (.map #[] 0)) := by
      unfold execOp
      simp [hop, run_makeMap_plain]
    unfold Oper.wp
    rw [hrun]
    have hb : BelowD w.heap.size w (w.alloc (.map #[] 0)) := ⟨⟨rfl, rfl, rfl, by simp, fun k hk => heap_alloc_old w _ k hk⟩, Nat.le_refl _⟩
    obtain ⟨L', h1, h2⟩ := (hR.grown hb).opq
    exact hr' C _ _ _ _ _ Q rfl (h1.put o.dst hd (.own_gone _ _ _ _ _ h2 rfl)) hQ) h
theorem Cov.open {q n j i : Nat} {b : Blk} {row : List AV} {e : TypeId} {z : Nat} {ys : List (List AV)} (hb : lb s.bl n = some b) (hrow : b.xs[j]? = some row) (hi : row[i]? = some (.ow e z ys)) :
    Cov q ⟨s.tm, (s.nx, ⟨e, z, ys⟩) :: st s.bl n { b with xs := b.xs.set j (row.set i (.own s.nx z 0 ys.length)) }, s.nx + 1⟩ s :=
  fun _ _ _ S _ _ _ h => by
    obtain ⟨Ow', L', u, h1, _⟩ := h.openOw hb hrow hi
    exact ⟨S, Ow', L', h1⟩
theorem Holds.open {c : Code} {Q : Exit → AS → Prop} (n j i : Nat) {b : Blk} {row : List AV} {e : TypeId} {z : Nat} {ys : List (List AV)} (hb : lb s.bl n = some b) (hrow : b.xs[j]? = some row) (hi : row[i]? = some (.ow e z ys))
    (hs : (⟨s.tm, (s.nx, ⟨e, z, ys⟩) :: st s.bl n { b with xs := b.xs.set j (row.set i (.own s.nx z 0 ys.length)) }, s.nx + 1⟩ : AS) = s') (h : Holds P nt c Q s') : Holds P nt c Q s := Holds.cov (Cov.open hb hrow hi) (by rw [hs]; exact h)
theorem GS.open (n j i : Nat) {b : Blk} {row : List AV} {e : TypeId} {z : Nat} {ys : List (List AV)} (hb : lb s.bl n = some b) (hrow : b.xs[j]? = some row) (hi : row[i]? = some (.ow e z ys))
    (hs : (⟨s.tm, (s.nx, ⟨e, z, ys⟩) :: st s.bl n { b with xs := b.xs.set j (row.set i (.own s.nx z 0 ys.length)) }, s.nx + 1⟩ : AS) = s') {p : Nat} (h : GS P nt ops K l p s') : GS P nt ops K l p s := GS.cov (Cov.open hb hrow hi) (by rw [hs]; exact h)
theorem GS.grd {g t : Nat} {b c : Bool} (d1 : gd ops s o = some true ∨ True) (d2 : gd ops s o = some false ∨ True) (ho : o.guard = some (g, b)) (ht : (ops[g]?).bind (·.dst) = some t) (hl : lk s.tm t = some (.v (.bool c))) (h1 : c = true → GS P nt ops K (o :: l) i (again s t (.v (.bool true)))) (h2 : c = false → GS P nt ops K (o :: l) i (again s t (.v (.bool false)))) : GS P nt ops K (o :: l) i s := GS.guard hl h1 h2
theorem Gd.grd {g t : Nat} {b c : Bool} (d1 : gd ops s o = some true ∨ True) (d2 : gd ops s o = some false ∨ True) (ho : o.guard = some (g, b)) (ht : (ops[g]?).bind (·.dst) = some t) (hl : lk s.tm t = some (.v (.bool c))) (h1 : c = true → Gd P nt ops K (o :: l) (again s t (.v (.bool true)))) (h2 : c = false → Gd P nt ops K (o :: l) (again s t (.v (.bool false)))) : Gd P nt ops K (o :: l) s := Gd.guard hl h1 h2
theorem Holds.condT {c : Operand} {x y : Code} {Q : Exit → AS → Prop} (hc : ev s c = some (.v (.bool true))) (h : Holds P nt x Q s) : Holds P nt (.cond c x y) Q s := Holds.cond hc (fun _ => h) (fun g => by cases g)
theorem Holds.condF {c : Operand} {x y : Code} {Q : Exit → AS → Prop} (hc : ev s c = some (.v (.bool false))) (h : Holds P nt y Q s) : Holds P nt (.cond c x y) Q s := Holds.cond hc (fun g => by cases g) (fun _ => h)
end
theorem Fz.ve {bl : List (Nat × Blk)} {x y : Value} (h : x = y) : Fz bl (.v x) (.v y) := by subst h; exact .v _
/-- The first cells of a variable in memory, lent to be looked at. -/
theorem Fz.pbP {bl : List (Nat × Blk)} {n sz : Nat} {k : Blk} {row zs : List AV} (hk : lb bl n = some k) (hx : k.xs = [row ++ zs]) (hz : k.sz = sz) (h : ∀ x ∈ row, En.cl1 x = true) : Fz bl (.pb n sz 0 0) (.pi row) := by
  subst hz
  refine .pb n 0 0 k (row ++ zs) row hk (by rw [hx]; rfl) (by simp) (fun q x y h1 h2 => ?_)
  rw [List.drop_zero, List.getElem?_append_left (List.getElem?_eq_some_iff.1 h2).1, h2] at h1
  have e := Option.some.inj h1
  subst e
  exact .cl1 (h _ (List.mem_of_getElem? h2))
end Go.Proofs.Ytabdnpgahdbciaa.En
end
section
namespace Go.Proofs.Ytabdnpgahdbciaa.En
open Go.RowKit
set_option linter.unusedVariables false
variable {P : Program} {nt : NT} {s s' : AS} {ops : Array Oper} {K : AS → Prop} {o : Oper} {l : List Oper} {i : Nat}
/-- As GS.step, for an operation that does not end in the slot D. -/
theorem GS.stepD (D : Nat) (hD : (o.dst == some D) = false) (hg : gd ops s o = some true) (ha : astep P nt s o = some s') (h : GS P nt ops K l (i + 1) s') : GS P nt ops K (o :: l) i s := GS.step hg ha h
end Go.Proofs.Ytabdnpgahdbciaa.En
end
section
namespace Go.Proofs.Ytabdnpgahdbciaa.En
open Go.RowKit
set_option linter.unusedSimpArgs false
set_option linter.unusedVariables false
section
attribute [local semireducible] G Gq Holds GS Pure Out Fn OutF
variable {P : Program} {nt : NT} {Q : Exit → AS → Prop} {s s' s1 s2 t : AS} {ops : Array Oper} {K K1 KF : AS → Prop} {i : Nat} {o : Oper} {l : List Oper} {C : Ctx} {a : Act} {w : World} {S : Nat → Prop} {Ow : Owners} {L : Names} {md : Region.Mode} {M : Nat → Bool} {ws hs : List Nat}
def setN : Nat → Nat → Array Bool → Array Bool
  | 0, _, x => x
  | n + 1, k, x => setN n (k + 1) (x.setIfInBounds k true)
theorem Gx.closed {k : Nat} : ∀ s s', Eqv s s' → Gx P nt ops ws hs M K k l s → Gx P nt ops ws hs M K k l s' := fun s s' e h => .eqv e.symm h
theorem Gx.nil_inv {k : Nat} (hK : ∀ s s', Eqv s s' → K s → K s') (h : Gx P nt ops ws hs M K k [] s) : K s := by
  generalize hl : ([] : List Oper) = l at h
  induction h with
  | nil h => exact h
  | step _ _ _ => cases hl
  | eqv he _ ih => exact hK _ _ he.symm (ih hl)
theorem Gx.one {k : Nat} (hK : ∀ s s', Eqv s s' → K s → K s') (h : Gx P nt ops ws hs M K k [o] s) : ∃ s', xS P nt ops M (kind ws hs k) o s s' ∧ K s' := by
  generalize hl : [o] = l at h
  induction h with
  | nil h => cases hl
  | step hx h _ => cases hl; exact ⟨_, hx, h.nil_inv hK⟩
  | eqv he _ ih =>
    obtain ⟨s', hx, hk⟩ := ih hl
    obtain ⟨t', e', hx'⟩ := hx.eqv he.symm
    exact ⟨t', hx', hK _ _ e' hk⟩
/-- The walk over some operations, ahead of what is known of the rest. -/
theorem anyX_lexB (hKF : ∀ s s', Eqv s s' → KF s → KF s') {n2 : Nat} {k : Nat} {l : List Oper} {s : AS} (h : Gx P nt ops ws hs M K1 k l s) : ∀ (listed : Array Bool), DC md ops listed → (∀ j, j < l.length → l[j]? = ops[k + j]?) →
    Region.lexFrom md ops (l.length + n2) k listed = true → (∀ i, k ≤ i → i < k + l.length → kapI md ops ws hs i = true) →
    (∀ s, K1 s → DC md ops (setN l.length k listed) → Region.lexFrom md ops n2 (k + l.length) (setN l.length k listed) = true → AnyX P nt md ops ws hs M KF n2 (setN l.length k listed) s) → AnyX P nt md ops ws hs M KF (l.length + n2) listed s := by
  induction h with
  | nil h => intro listed hdc _ hB _ hb; simpa [setN] using hb _ h hdc (by simpa [setN] using hB)
  | eqv he _ ih => intro listed hdc hl hB hk hb; exact AnyX.eqv hKF _ _ _ _ he.symm (ih listed hdc hl hB hk hb)
  | step hx _ ih =>
    rename_i k o l s s' _
    intro listed hdc hl hB hk hb
    have h0 : ops[k]? = some o := by simpa using (hl 0 (by simp)).symm
    rw [show (o :: l).length + n2 = (l.length + n2) + 1 by simp only [List.length_cons]; omega] at hB ⊢
    simp only [Region.lexFrom, Bool.and_eq_true] at hB
    obtain ⟨⟨hr, hf⟩, hB'⟩ := hB
    have hr' : k ∈ Region.ready md ops listed := by simpa using hr
    refine anyX_firstI hKF (hk k (Nat.le_refl _) (by simp)) h0 (l.length + n2) listed s s' hdc (Region.free_spec h0 hf) hr' hx (ih _ (hdc.set hr') (fun j hj => ?_) hB' (fun i h1 h2 => hk i (by omega) (by simp only [List.length_cons]; omega)) ?_)
    · have := hl (j + 1) (by simp only [List.length_cons]; omega); simpa [Nat.add_assoc, Nat.add_comm 1 j] using this
    · intro s hs' hd hB2
      refine hb s hs' hd ?_
      simp only [List.length_cons, setN]
      rw [show k + (l.length + 1) = k + 1 + l.length by omega]; exact hB2
/-- Two operations, each ahead of the other. -/
def Dia (P : Program) (nt : NT) (ops : Array Oper) (ws hs : List Nat) (M : Nat → Bool) (K : AS → Prop) (c : Nat) (oc oj : Oper) (l2 : List Oper) (s : AS) : Prop :=
  Gx P nt ops ws hs M (fun s1 => Gx P nt ops ws hs M (fun s2 => Gx P nt ops ws hs M K (c + 2) l2 s2) (c + 1) [oj] s1) c [oc] s ∧
  Gx P nt ops ws hs M (fun s1 => Gx P nt ops ws hs M (fun s2 => Gx P nt ops ws hs M K (c + 2) l2 s2) c [oc] s1) (c + 1) [oj] s
def diaB (md : Region.Mode) (ops : Array Oper) (c : Nat) : Bool :=
  let x := setN c 0 (Array.replicate ops.size false)
  (Region.ready md ops x).all (fun i => i == c || i == c + 1) && (Region.ready md ops (x.setIfInBounds c true)).all (fun i => i == c + 1) && (Region.ready md ops (x.setIfInBounds (c + 1) true)).all (fun i => i == c) &&
    (Region.ready md ops x).contains c && (Region.ready md ops (x.setIfInBounds c true)).contains (c + 1) && (Region.ready md ops (x.setIfInBounds (c + 1) true)).contains c && decide (c + 1 < ops.size)
def kapD (md : Region.Mode) (ops : Array Oper) (ws hs : List Nat) (c : Nat) : Bool := (List.range ops.size).all fun i => i == c || i == c + 1 || kapI md ops ws hs i
theorem Holds.dia {id c : Nat} {l1 l2 : List Oper} {oc oj : Oper} {y : Code} {Q' : Exit → AS → Prop} (s0 : AS) (ws hs : List Nat) (M : Nat → Bool) (hm : P.follows .mixedOrders = true) (h1 : l.take c = l1) (h2 : l.drop c = oc :: oj :: l2)
    (hB : Region.lexB .any l.toArray = true) (hD : (diaB .any l.toArray c && kapD .any l.toArray ws hs c) = true)
    (hx : Gx P nt l.toArray ws hs M (fun s => Dia P nt l.toArray ws hs M (fun s' => Cov nt.k s0 s') c oc oj l2 s) 0 l1 s) (hk : Holds P nt y Q' s0) : Holds P nt (.region id l.toArray true) (thenA (Holds P nt y Q') Q) s := by
  intro C a w S Ow L hn hR
  simp only [Bool.and_eq_true] at hD
  obtain ⟨hD, hkap⟩ := hD
  simp only [diaB, Bool.and_eq_true, List.all_eq_true, decide_eq_true_eq, Bool.or_eq_true, beq_iff_eq, List.contains_iff_mem, List.size_toArray] at hD
  obtain ⟨⟨⟨⟨⟨⟨d1, d2⟩, d3⟩, d4⟩, d5⟩, d6⟩, d7⟩ := hD
  simp only [kapD, List.all_eq_true, Bool.or_eq_true, beq_iff_eq, List.mem_range, List.size_toArray] at hkap
  simp only [Region.lexB, Bool.and_eq_true] at hB
  refine wp_region_any hm ?_
  have hlen : l.length = l1.length + (l2.length + 1 + 1) := by
    have h3 := congrArg List.length h1
    have h4 := congrArg List.length h2
    simp only [List.length_take, List.length_drop, List.length_cons] at h3 h4
    omega
  have hc : l1.length = c := by
    have h3 := congrArg List.length h1
    simp only [List.length_take] at h3
    omega
  have hl1 : ∀ j, j < l1.length → l1[j]? = l.toArray[0 + j]? := fun j hj => by
    rw [← h1, List.getElem?_take, if_pos (by omega), Nat.zero_add, List.getElem?_toArray]
  have hl2 : ∀ j, (oc :: oj :: l2)[j]? = l.toArray[c + j]? := fun j => by
    rw [← h2, List.getElem?_drop, List.getElem?_toArray]
  -- K: closed under Eqv
  let KF : AS → Prop := fun s => ∃ s1, Eqv s1 s ∧ Cov nt.k s0 s1
  have hKF : ∀ s s' : AS, Eqv s s' → KF s → KF s' := fun s s' e ⟨s1, e1, q⟩ => ⟨s1, e1.trans e, q⟩
  have mono : ∀ {K K' : AS → Prop} (hk : ∀ s, K s → K' s) {k : Nat} {l' : List Oper} {s : AS}, Gx P nt l.toArray ws hs M K k l' s → Gx P nt l.toArray ws hs M K' k l' s := by
    intro K K' hk k l' s h
    induction h with
    | nil h => exact .nil (hk _ h)
    | step hx _ ih => exact .step hx ih
    | eqv he _ ih => exact .eqv he ih
  have base : ∀ s, Dia P nt l.toArray ws hs M (fun s' => Cov nt.k s0 s') c oc oj l2 s → DC .any l.toArray (setN c 0 (Array.replicate l.length false)) →
      Region.lexFrom .any l.toArray (l2.length + 1 + 1) c (setN c 0 (Array.replicate l.length false)) = true → AnyX P nt .any l.toArray ws hs M KF (l2.length + 1 + 1) (setN c 0 (Array.replicate l.length false)) s := by
    intro s ⟨w1, w2⟩ hdc hB2
    generalize setN c 0 (Array.replicate l.length false) = x at hdc hB2 d1 d2 d3 d4 d5 d6
    have o1 : l.toArray[c]? = some oc := by simpa using (hl2 0).symm
    have o2 : l.toArray[c + 1]? = some oj := by simpa using (hl2 1).symm
    simp only [Region.lexFrom, Bool.and_eq_true] at hB2
    have hB3 := hB2.2.2
    have hdc2 := (hdc.set d4).set d5
    have rest : ∀ s, Gx P nt l.toArray ws hs M (fun s' => Cov nt.k s0 s') (c + 2) l2 s → AnyX P nt .any l.toArray ws hs M KF l2.length ((x.setIfInBounds c true).setIfInBounds (c + 1) true) s := by
      intro s hg
      have hg2 := mono (K' := KF) (fun s h => ⟨s, Eqv.refl s, h⟩) hg
      have := anyX_lexB (md := .any) (n2 := 0) hKF hg2 ((x.setIfInBounds c true).setIfInBounds (c + 1) true) hdc2 (fun j hj => by
        have := hl2 (j + 2); simpa [Nat.add_assoc, Nat.add_comm 2 j] using this) (by simpa using hB3) (fun i h1 h2 => by
          rcases hkap i (by omega) with (h | h) | h
          · omega
          · omega
          · exact h) (fun s hs' _ hB4 => ⟨by simpa [Region.lexFrom] using hB4, hs'⟩)
      simpa using this
    obtain ⟨sa, xa, ga⟩ := w1.one (fun s s' e h => Gx.closed s s' e h)
    obtain ⟨sb, xb, gb⟩ := Gx.one (fun s s' e h => Gx.closed s s' e h) ga
    obtain ⟨sc, xc, gc⟩ := w2.one (fun s s' e h => Gx.closed s s' e h)
    obtain ⟨sd, xd, gd⟩ := Gx.one (fun s s' e h => Gx.closed s s' e h) gc
    refine ⟨fun h => (by rw [h] at d4; cases d4), fun i hi => ?_⟩
    rcases d1 i hi with rfl | rfl
    · refine ⟨oc, sa, o1, xa, fun h => (by rw [h] at d5; cases d5), fun i hi => ?_⟩
      obtain rfl := d2 i hi
      exact ⟨oj, sb, o2, xb, rest sb gb⟩
    · refine ⟨oj, sc, o2, xc, fun h => (by rw [h] at d6; cases d6), fun i hi => ?_⟩
      obtain rfl := d3 i hi
      refine ⟨oc, sd, o1, xd, ?_⟩
      rw [Array.setIfInBounds_comm _ _ (by omega)]
      exact rest sd gd
  have := anyX_lexB (md := .any) (n2 := l2.length + 1 + 1) hKF hx (Array.replicate l.length false) (fun j o _ hj => by
    have : (Array.replicate l.length false).getD j false = false := by
      simp only [Array.getD_eq_getD_getElem?, Array.getElem?_replicate]; split <;> rfl
    rw [this] at hj; cases hj) hl1 (by rw [← hlen]; simpa using hB.2) (fun i h1 h2 => by
      rcases hkap i (by omega) with (h | h) | h
      · omega
      · omega
      · exact h) (by rw [hc, Nat.zero_add]; exact base)
  rw [← hlen] at this
  refine wpAny_of_anyX (K := KF) (fun s' a w S Ow L hk' hR => ?_) hn _ _ _ _ _ _ _ _ (hR.drawn (w' := { w with drawn := w.drawn + 1 }) rfl rfl rfl rfl) (by simpa using this)
  obtain ⟨s1, e, q⟩ := hk'
  exact ⟨s1, S, Ow, L, thenA_normal (Holds.cov q hk), hR.eqv e.symm⟩
/-- A slice that is built of closed values and that nobody writes: it looks at slots alone. -/
theorem Cs.bs {t : TypeId} {len d sz : Nat} {parts : Array (Nat × Operand)} {es : List (Nat × AV)} {e : TypeId} {rows : List (List AV)} {r : AV} (hop : o.op = .buildSlice t len parts) (hg : gd ops s o = some true) (hdst : o.dst = some d) (hd : okd nt.n o.dst = true)
    (hes : ∀ p ∈ es, lk s.tm p.1 = some p.2 ∧ cl p.2 = true ∧ Operand.tmp p.1 ∈ o.op.operands) (hx : abuildSlice P ⟨es, [], 0⟩ t len parts = some (.own 0 sz 0 rows.length, ⟨es, [(0, ⟨e, sz, rows⟩)], 1⟩)) (hr : r = .im sz rows) (hc : ∀ row ∈ rows, ∀ x ∈ row, cl1 x = true) : Cs P nt ops s o r := by
  refine ⟨fun tm' bl nx h' C a w S Ow L i Q K hn ho hR hK => ?_⟩
  subst hn
  unfold wpOp
  simp only [ho]
  rw [gd_sound hR (by rw [gd_tm (s := s) h']; exact hg)]
  simp only [if_true]
  left
  unfold Oper.wp
  have h0 : RelX ⟨w, fun _ => False, S, ⟨C.nt.n, 0⟩, fixOf 0 noName⟩ ⟨es, [], 0⟩ a w S noOwner noName :=
    { fix := fun n loc hn => absurd (fixOf_eq (k := 0) (L := noName) (n := n) (loc := loc) |>.1 hn).1 (Nat.not_lt_zero n)
      keep := Keep.refl _ _, inS := fun _ h => h, upS := fun _ h => .inl h, ltS := hR.ltS, owS := fun _ _ => rfl, ow := fun b p hb => by cases hb
      ow0 := fun b q hb => by cases hb
      blk := fun n kk hn => by cases hn
      fresh := fun n _ => rfl, named := fun n hn => by cases hn
      freshO := fun b n q hb => by cases hb
      slot := fun q x hx' => by
        have hm : ∃ p ∈ es, p = (q, x) := by
          clear hx hes
          induction es with
          | nil => cases hx'
          | cons p es ih =>
            obtain ⟨k, y⟩ := p
            simp only [lk] at hx'
            split at hx'
            · rename_i hk; subst hk; cases hx'; exact ⟨_, .head _, rfl⟩
            · obtain ⟨p', hp', e'⟩ := ih hx'; exact ⟨p', .tail _ hp', e'⟩
        obtain ⟨p, hp, rfl⟩ := hm
        obtain ⟨h1, h2, h3⟩ := hes _ hp
        have hlook : q ∈ o.looksAt ops := by
          refine List.mem_append_left _ (List.mem_filterMap.2 ⟨Operand.tmp q, ?_, rfl⟩)
          simpa using h3
        have hq : lk tm' q = some x := (h' q hlook).trans h1
        obtain ⟨u, hu, hrep⟩ := hR.slot q x hq
        exact ⟨u, hu, hrep.cl h2⟩
      size := hR.size, defers := hR.defers }
  obtain ⟨u, w', Ow', L', hrun, hR', hu⟩ := abuildSlice_sound h0 hop hx
  rw [hrun]
  have hput := hR'.put (some d) (by rw [← hdst]; exact hd) hu
  obtain ⟨S2, Ow2, L2, hR2⟩ := hput.freeze (N := [0]) (ts := [(d, .im sz rows)]) (.cons (x := .own 0 sz 0 rows.length) (by simp [put, lk]) (Fz.all (k := ⟨e, sz, rows⟩) (by simp [put, lb]) rfl rfl rfl hc) .nil)
  obtain ⟨v, hv, hvr⟩ := hR2.slot d (.im sz rows) (by simp [frz, lk])
  have hvu : v = u := by
    have hsz : d < a.tmps.size := by
      rw [hR.size]
      rw [hdst] at hd
      simpa [okd] using hd
    simp only [Act.put] at hv
    rw [Array.getElem?_setIfInBounds_self_of_lt hsz] at hv
    exact (Option.some.inj hv).symm
  subst hvu
  subst hr
  refine hK _ _ S2 Ow L ((hR.more hR2.keep.below hR2.inS (fun k hk => ⟨hR2.ltS k hk, ?_⟩)).put o.dst hd ?_)
  · rcases hR2.upS k hk with g | g | g
    · exact .inl g
    · exact .inr g
    · exact g.elim
  · cases hvr with
    | im _ _ A c ad us hc ha hS' hz hcell hr => exact .im _ _ A c ad us hc ha hS' hz hcell hr
theorem Gx.bs {k : Nat} {t : TypeId} {len d sz : Nat} {parts : Array (Nat × Operand)} (es : List (Nat × AV)) {e : TypeId} {rows : List (List AV)} (hk : kind ws hs k = .c) (hop : o.op = .buildSlice t len parts) (hg : gd ops s o = some true) (hdst : o.dst = some d) (hd : okd nt.n o.dst = true)
    (hes : ∀ p ∈ es, lk s.tm p.1 = some p.2 ∧ cl p.2 = true ∧ Operand.tmp p.1 ∈ o.op.operands) (hx : abuildSlice P ⟨es, [], 0⟩ t len parts = some (.own 0 sz 0 rows.length, ⟨es, [(0, ⟨e, sz, rows⟩)], 1⟩)) (hc : ∀ row ∈ rows, ∀ x ∈ row, cl1 x = true) (h : Gx P nt ops ws hs M K (k + 1) l (put s o.dst (.im sz rows))) : Gx P nt ops ws hs M K k (o :: l) s := by
  refine .step (s' := put s o.dst (.im sz rows)) ?_ h
  rw [hk]
  exact ⟨_, Cs.bs hop hg hdst hd hes hx rfl hc, rfl⟩
/-- Calls in such a region that look at own rows and make new ones. -/
theorem FzL.sub {bl bl' : List (Nat × Blk)} {xs ys : List AV} (h : FzL bl xs ys) (e : bl = bl') : FzL bl' xs ys := e ▸ h
theorem Wr.fnd {c : Operand} {aas : Array Operand} {ts : Array TypeId} {f : FuncId} {xs cap args : List AV} {m : Nat} {outs bl' : List (Nat × Blk)} {r : AV} (hp : Fn P f 0 args [] r m outs) (hop : o.op = .call ⟨.value c, aas, ts⟩) (hg : gd ops s o = some true) (hd : okd nt.n o.dst = true)
    (hc : ev s c = some (.fn f cap)) (he : aas.toList.mapM (ev s) = some xs) (hf : FzL s.bl (xs ++ cap) args) (hom : outs.all (fun p => decide (p.1 < m)) = true)
    (hor : Ony r) (hoo : ∀ p ∈ outs, onyR p.2.xs) (hr : okr m r = true) (hren : RenB (fun n => s.nx + n) m outs bl') (hM : (bl' ++ s.bl).filter (fun p => !M p.1) = s.bl.filter fun p => !M p.1) : Wr P nt ops M s o (En.ren (fun n => s.nx + n) r) (bl' ++ s.bl) (s.nx + m) := by
  refine ⟨hM, fun tm' h' C a w S Ow L i Q K hn ho hR hK => ?_⟩
  have hev : ∀ y ∈ o.op.operands, ev ⟨tm', s.bl, s.nx⟩ y = ev s y := ev_tm (s1 := ⟨tm', s.bl, s.nx⟩) h'
  have hev' := hev
  rw [hop] at hev'
  simp only [Op.operands, Call.operands] at hev'
  exact fnd_wp (s := ⟨tm', s.bl, s.nx⟩) ho (by rw [gd_tm (s := s) h']; exact hg) hop hd (by rw [hev' _ (by simp)]; exact hc)
    (by rw [mapM_congr (g := ev s) fun y hy => hev' y (by simp at hy; simp [hy])]; exact he) hf hom hp hor hoo hr hren hn hR hK
theorem Gx.fnnd {k : Nat} {c : Operand} {aas : Array Operand} {ts : Array TypeId} {f : FuncId} {xs cap args : List AV} {m : Nat} {outs bl' : List (Nat × Blk)} {r : AV} (hp : Fn P f 0 args [] r m outs) (hk : kind ws hs k = .w) (hop : o.op = .call ⟨.value c, aas, ts⟩) (hg : gd ops s o = some true) (hd : okd nt.n o.dst = true)
    (hc : ev s c = some (.fn f cap)) (he : aas.toList.mapM (ev s) = some xs) (hf : FzL s.bl (xs ++ cap) args) (hom : outs.all (fun p => decide (p.1 < m)) = true)
    (hor : Ony r) (hoo : ∀ p ∈ outs, onyR p.2.xs) (hr : okr m r = true) (hren : RenB (fun n => s.nx + n) m outs bl') (hM : (bl' ++ s.bl).filter (fun p => !M p.1) = s.bl.filter fun p => !M p.1) (hs1 : put (aft0 s m bl') o.dst (En.ren (fun n => s.nx + n) r) = s1) (h : Gx P nt ops ws hs M K (k + 1) l s1) : Gx P nt ops ws hs M K k (o :: l) s := by
  subst hs1
  refine .step (s' := put (aft0 s m bl') o.dst (En.ren (fun n => s.nx + n) r)) ?_ h
  rw [hk]
  exact ⟨_, _, _, Wr.fnd hp hop hg hd hc he hf hom hor hoo hr hren hM, rfl⟩
theorem Gx.fnndo {k : Nat} {c : Operand} {aas : Array Operand} {ts : Array TypeId} {f : FuncId} {xs cap args : List AV} {m : Nat} {outs bl' : List (Nat × Blk)} {r : AV} (hp : Fn P f 0 args [] r m outs) (hk : kind ws hs k = .o) (hop : o.op = .call ⟨.value c, aas, ts⟩) (hg : gd ops s o = some true) (hd : okd nt.n o.dst = true)
    (hc : ev s c = some (.fn f cap)) (he : aas.toList.mapM (ev s) = some xs) (hf : FzL s.bl (xs ++ cap) args) (hom : outs.all (fun p => decide (p.1 < m)) = true)
    (hor : Ony r) (hoo : ∀ p ∈ outs, onyR p.2.xs) (hr : okr m r = true) (hren : RenB (fun n => s.nx + n) m outs bl') (hs1 : put (aft0 s m bl') o.dst (En.ren (fun n => s.nx + n) r) = s1) (h : Gx P nt ops ws hs M K (k + 1) l s1) : Gx P nt ops ws hs M K k (o :: l) s := by
  subst hs1
  refine .step (s' := put (aft0 s m bl') o.dst (En.ren (fun n => s.nx + n) r)) ?_ h
  rw [hk]
  exact ⟨_, _, _, Wr.fnd (M := fun _ => true) hp hop hg hd hc he hf hom hor hoo hr hren (hid_all _ _), rfl⟩
end
end Go.Proofs.Ytabdnpgahdbciaa.En
end
section
namespace Go.Proofs.Ytabdnpgahdbciaa.En
open Go.RowKit
set_option linter.unusedSimpArgs false
set_option linter.unusedVariables false
section
attribute [local semireducible] G Gq Holds GS Pure Out Fn OutF
variable {P : Program} {nt : NT} {Q : Exit → AS → Prop} {s s' : AS} {K : AS → Prop} {c : Code}
theorem Cov.reblk {q n : Nat} {b b' : Blk} (hb : lb s.bl n = some b) (he : b'.e = b.e) (hz : b'.sz = b.sz) (hl : b'.xs.length = b.xs.length)
    (hr : ∀ (j : Nat) (row' : List AV), b'.xs[j]? = some row' → ∃ row, b.xs[j]? = some row ∧ row'.length = row.length ∧ ∀ (i : Nat) (x' : AV), row'[i]? = some x' → ∃ x, row[i]? = some x ∧ ∀ (w : World) (S : Nat → Prop) (Ow : Owners) (L : Names) (p : Path) (u : Value), Rep w S Ow L p x u → Rep w S Ow L p x' u) : Cov q ⟨s.tm, st s.bl n b', s.nx⟩ s := by
  intro C a w S Ow L _ h
  refine ⟨S, Ow, L, { fix := h.fix, keep := h.keep, inS := h.inS, upS := h.upS, ltS := h.ltS, owS := h.owS, ow := h.ow, ow0 := h.ow0, fresh := h.fresh, named := h.named, freshO := h.freshO, slot := h.slot, size := h.size, defers := h.defers, blk := fun m k hm => ?_ }⟩
  simp only [lb_st] at hm
  by_cases e : n = m
  · subst e
    rw [if_pos rfl, hb] at hm
    cases hm
    obtain ⟨loc, hL, hB⟩ := h.blk n b hb
    refine ⟨loc, hL, ?_⟩
    match loc, hB with
    | none, hB =>
      have h0 : b.xs.length = 0 := by rw [show b.xs = [] from hB]; rfl
      show b'.xs = []
      exact List.eq_nil_of_length_eq_zero (by omega)
    | some (bb, o, cap), ⟨h1, cs, us, h2, h3, h4, h5, h6, h7⟩ =>
      refine ⟨h1, cs, us, (by show w.heap[bb]? = some (.cells cs b'.e (0, 0)); rw [he]; exact h2), (by show cs.size = (o + cap) * b'.sz; rw [hz]; exact h3), (by show b'.xs.length ≤ cap; omega), fun j row hj => ?_, fun j row i x hj hi => ?_, fun j row i x hj hi => ?_⟩
      · obtain ⟨r, hr1, hr2, _⟩ := hr j row hj
        show row.length = b'.sz
        rw [hr2, hz]; exact h5 j r hr1
      · obtain ⟨r, hr1, _, hr3⟩ := hr j row hj
        obtain ⟨y, hy, _⟩ := hr3 i x hi
        show cs[(o + j) * b'.sz + i]? = some (us j i)
        rw [hz]; exact h6 j r i y hr1 hy
      · obtain ⟨r, hr1, _, hr3⟩ := hr j row hj
        obtain ⟨y, hy, hR⟩ := hr3 i x hi
        exact hR _ _ _ _ _ _ (h7 j r i y hr1 hy)
  · rw [if_neg e] at hm
    exact h.blk m k hm
theorem Cov.nilO {q n m : Nat} {e e1 : TypeId} {z : Nat} (hb : lb s.bl n = some ⟨e, 1, List.replicate m [.v (.slice none 0 0)]⟩) : Cov q ⟨s.tm, st s.bl n ⟨e, 1, List.replicate m [.ow e1 z []]⟩, s.nx⟩ s :=
  Cov.reblk hb rfl rfl (by simp) fun j row' hj => by
    rw [List.getElem?_replicate] at hj
    split at hj
    · rename_i hlt
      injection hj with hj
      subst hj
      refine ⟨[.v (.slice none 0 0)], by rw [List.getElem?_replicate, if_pos hlt], rfl, fun i x' hi => ?_⟩
      cases i with
      | zero =>
        simp only [List.getElem?_cons_zero, Option.some.injEq] at hi
        subst hi
        refine ⟨_, rfl, fun w S Ow L p u hu => ?_⟩
        obtain ⟨rfl, _⟩ := hu.v_inv
        exact .ow_nil _ _ _
      | succ i => simp at hi
    · cases hj
theorem Holds.nilO (n m : Nat) {e : TypeId} (e1 : TypeId) (z : Nat) (hb : lb s.bl n = some ⟨e, 1, List.replicate m [.v (.slice none 0 0)]⟩) (hs : (⟨s.tm, st s.bl n ⟨e, 1, List.replicate m [.ow e1 z []]⟩, s.nx⟩ : AS) = s') (h : Holds P nt c Q s') : Holds P nt c Q s := Holds.cov (Cov.nilO hb) (by rw [hs]; exact h)
theorem Cov.nilI {q n m : Nat} {e : TypeId} {z : Nat} (hb : lb s.bl n = some ⟨e, 1, List.replicate m [.v (.slice none 0 0)]⟩) : Cov q ⟨s.tm, st s.bl n ⟨e, 1, List.replicate m [.im z []]⟩, s.nx⟩ s :=
  Cov.reblk hb rfl rfl (by simp) fun j row' hj => by
    rw [List.getElem?_replicate] at hj
    split at hj
    · rename_i hlt
      injection hj with hj
      subst hj
      refine ⟨[.v (.slice none 0 0)], by rw [List.getElem?_replicate, if_pos hlt], rfl, fun i x' hi => ?_⟩
      cases i with
      | zero =>
        simp only [List.getElem?_cons_zero, Option.some.injEq] at hi
        subst hi
        refine ⟨_, rfl, fun w S Ow L p u hu => ?_⟩
        exact hu.nil_im
      | succ i => simp at hi
    · cases hj
theorem Holds.nilI (n m : Nat) {e : TypeId} (z : Nat) (hb : lb s.bl n = some ⟨e, 1, List.replicate m [.v (.slice none 0 0)]⟩) (hs : (⟨s.tm, st s.bl n ⟨e, 1, List.replicate m [.im z []]⟩, s.nx⟩ : AS) = s') (h : Holds P nt c Q s') : Holds P nt c Q s := Holds.cov (Cov.nilI hb) (by rw [hs]; exact h)
end
end Go.Proofs.Ytabdnpgahdbciaa.En
end
section
namespace Go.Proofs.Ytabdnpgahdbciaa.En
open Go.RowKit
set_option linter.unusedSimpArgs false
set_option linter.unusedVariables false
set_option maxHeartbeats 4000000
/-- Two rows, the first i elements of the one, behind them the other's. -/
def mid {α : Type} (ys xs : List α) (i : Nat) : List α := ys.take i ++ xs.drop i
@[simp] theorem mid_zero {α : Type} (ys xs : List α) : mid ys xs 0 = xs := by simp [mid]
theorem mid_all {α : Type} {ys xs : List α} {n : Nat} (h1 : ys.length = n) (h2 : xs.length = n) : mid ys xs n = ys := by
  unfold mid; rw [List.take_of_length_le (by omega), List.drop_eq_nil_of_le (by omega), List.append_nil]
theorem mid_len {α : Type} {ys xs : List α} {i : Nat} (h : ys.length = xs.length) : (mid ys xs i).length = xs.length := by
  simp only [mid, List.length_append, List.length_take, List.length_drop]; omega
theorem mid_get {α : Type} {ys xs : List α} {i : Nat} (h : ys.length = xs.length) (hi : i < xs.length) : (mid ys xs i)[i]? = xs[i]? := by
  unfold mid
  rw [List.getElem?_append_right (by simp; omega), List.getElem?_drop]
  congr 1; simp; omega
theorem mid_set {α : Type} {ys xs : List α} {i : Nat} (h : ys.length = xs.length) (hi : i < xs.length) {y : α} (hy : ys[i]? = some y) : (mid ys xs i).set i y = mid ys xs (i + 1) := by
  unfold mid
  rw [List.set_append_right _ _ (by simp; omega), List.take_add_one, hy, List.drop_eq_getElem_cons hi]
  have e2 : i - (ys.take i).length = 0 := by simp; omega
  rw [e2, List.set_cons_zero]
  simp
/-- How many marks a row takes; the row marked from k on. -/
def wtL {α : Type} (w : α → Nat) : List α → Nat
  | [] => 0
  | x :: xs => w x + wtL w xs
def mkL {α : Type} (w : α → Nat) (f : Int → α → α) : Int → List α → List α
  | _, [] => []
  | k, x :: xs => f k x :: mkL w f (k + w x) xs
@[simp] theorem mkL_len {α : Type} (w : α → Nat) (f : Int → α → α) : ∀ (xs : List α) (k : Int), (mkL w f k xs).length = xs.length
  | [], _ => rfl
  | x :: xs, k => by simp [mkL, mkL_len w f xs]
theorem mkL_get {α : Type} (w : α → Nat) (f : Int → α → α) : ∀ (xs : List α) (k : Int) (i : Nat), (mkL w f k xs)[i]? = (xs[i]?).map (f (k + wtL w (xs.take i)))
  | [], _, i => by simp [mkL]
  | x :: xs, k, 0 => by simp [mkL, wtL]
  | x :: xs, k, i + 1 => by
    simp only [mkL, List.getElem?_cons_succ, mkL_get w f xs, List.take_succ_cons, wtL]
    congr 2; omega
theorem wtL_next {α : Type} (w : α → Nat) : ∀ {xs : List α} {i : Nat} {x : α}, xs[i]? = some x → wtL w (xs.take (i + 1)) = wtL w (xs.take i) + w x
  | [], i, x, h => by simp at h
  | y :: ys, 0, x, h => by simp at h; subst h; simp [wtL]
  | y :: ys, i + 1, x, h => by
    simp only [List.getElem?_cons_succ] at h
    simp only [List.take_succ_cons, wtL, wtL_next w h]; omega
theorem wtL_le {α : Type} (w : α → Nat) : ∀ (xs : List α) (i : Nat), wtL w (xs.take i) ≤ wtL w xs
  | [], i => by simp
  | y :: ys, 0 => by simp [wtL]
  | y :: ys, i + 1 => by have := wtL_le w ys i; simp only [List.take_succ_cons, wtL]; omega
theorem wtL_mk {α : Type} (w : α → Nat) (f : Int → α → α) (h : ∀ k x, w (f k x) = w x) : ∀ (xs : List α) (k : Int), wtL w (mkL w f k xs) = wtL w xs
  | [], _ => rfl
  | x :: xs, k => by simp [mkL, wtL, h, wtL_mk w f h xs]
def w1 (_ : Int) : Nat := 1
def m1 (k : Int) (_ : Int) : Int := k
@[simp] theorem wtL_w1 : ∀ xs : List Int, wtL w1 xs = xs.length
  | [] => rfl
  | x :: xs => by simp [wtL, w1, wtL_w1 xs]; omega
/-- The marks from k on, as many as there are elements. -/
def cnt (k : Int) (xs : List Int) : List Int := mkL w1 m1 k xs
@[simp] theorem cnt_len (k : Int) (xs : List Int) : (cnt k xs).length = xs.length := mkL_len _ _ _ _
theorem cnt_get (k : Int) (xs : List Int) {i : Nat} (h : i < xs.length) : (cnt k xs)[i]? = some (k + i) := by
  unfold cnt
  rw [mkL_get, List.getElem?_eq_getElem h, wtL_w1, List.length_take]
  simp [m1]; omega
@[simp] theorem cnt_gE (k : Int) (xs : List Int) (i : Nat) (h : i < (cnt k xs).length) : (cnt k xs)[i] = k + i := by
  have := cnt_get k xs (i := i) (by simpa using h)
  rw [List.getElem?_eq_getElem h] at this
  exact Option.some.inj this
@[simp] theorem onyR_ints (xs : List Int) : onyR (ints xs) := fun row hr x hx => by
  simp only [ints, List.mem_map] at hr
  obtain ⟨n, _, rfl⟩ := hr
  simp at hx; subst hx; exact .v _
theorem get_E {α : Type} {l : List α} {i : Nat} {a : α} (h : l[i]? = some a) : ∀ g : i < l.length, l[i] = a := fun g => by
  rw [List.getElem?_eq_getElem g] at h; exact Option.some.inj h
theorem set_get {α : Type} {l : List α} {i : Nat} {a b : α} (h : l[i]? = some b) : (l.set i a)[i]? = some a := by
  have := (List.getElem?_eq_some_iff.1 h).1
  simp [this]
theorem nfr_mid {ys xs : List (List AV)} {i : Nat} (h1 : nfr ys) (h2 : nfr xs) : nfr (mid ys xs i) := by
  unfold mid; rw [nfr_append]; exact ⟨h1.take i, h2.drop i⟩
/-- Rows of one's own as they are seen: flat ones inside memory; rows of rows. -/
theorem Fz.owI {bl : List (Nat × Blk)} {e : TypeId} {sz : Nat} {xs : List (List AV)} (h : ∀ row ∈ xs, ∀ x ∈ row, En.cl1 x = true) : Fz bl (.ow e sz xs) (.im sz xs) :=
  .ow e sz xs xs rfl (fun j r r' h1 h2 => by rw [h1] at h2; cases h2; rfl) fun j r r' i x y h1 h2 h3 h4 => by
    rw [h1] at h2; cases h2
    rw [h3] at h4; cases h4
    exact .cl1 (h r (List.mem_of_getElem? h1) x (List.mem_of_getElem? h3))
theorem map_both {α β γ : Type} {xs : List α} {f : α → β} {g : α → γ} {j : Nat} {b : β} {c : γ} (h1 : (xs.map f)[j]? = some b) (h2 : (xs.map g)[j]? = some c) : ∃ x ∈ xs, b = f x ∧ c = g x := by
  simp only [List.getElem?_map, Option.map_eq_some_iff] at h1 h2
  obtain ⟨x, hx, rfl⟩ := h1
  obtain ⟨y, hy, rfl⟩ := h2
  rw [hx] at hy; cases hy
  exact ⟨x, List.mem_of_getElem? hx, rfl, rfl⟩
theorem Fz.rowsW {bl : List (Nat × Blk)} {α : Type} {e : TypeId} {sz : Nat} (l : List α) (fO fI : α → List AV) (hz : ∀ x ∈ l, FzL bl (fO x) (fI x)) : Fz bl (.ow e sz (l.map fO)) (.im sz (l.map fI)) :=
  .ow e sz _ _ (by simp) (fun j r r' h1 h2 => by obtain ⟨x, hx, rfl, rfl⟩ := map_both h1 h2; exact (hz x hx).len) fun j r r' i x y h1 h2 h3 h4 => by
    obtain ⟨x, hx, rfl, rfl⟩ := map_both h1 h2
    exact (hz x hx).get i _ _ h3 h4
theorem Fz.rowsO {bl : List (Nat × Blk)} {α : Type} {n sz len : Nat} {k : Blk} (l : List α) (fO fI : α → List AV) (hk : lb bl n = some k) (hx : k.xs = l.map fO) (hs : k.sz = sz) (hz : ∀ x ∈ l, FzL bl (fO x) (fI x)) (hl : len = l.length) : Fz bl (.own n sz 0 len) (.im sz (l.map fI)) := by
  subst hs hl
  refine .own n 0 l.length k (l.map fI) _ hk (by simp [hx]) (fun j r r' h1 h2 => ?_) (fun j r r' i x y h1 h2 h3 h4 => ?_) (by simp) (by simp [List.take_of_length_le])
  · rw [hx] at h1
    obtain ⟨x, hx, rfl, rfl⟩ := map_both h1 h2
    exact (hz x hx).len
  · rw [hx] at h1
    obtain ⟨x, hx, rfl, rfl⟩ := map_both h1 h2
    exact (hz x hx).get i _ _ h3 h4
theorem ints_mid (ys xs : List Int) (i : Nat) : mid (ints ys) (ints xs) i = ints (mid ys xs i) := by simp [mid, ints]

theorem toIntSO (xs : List Int) (hx : xs.length < 35184372088832) : Fn Try.prog 11 0 [.im 1 (ints xs)] [] (.own 0 1 0 xs.length) 1 [(0, ⟨3, 1, ints xs⟩)] := by
  refine Fn.mk (rs := [.tmp 2]) (nt := 22) Try.func11 (by kernel_rfl) rfl rfl rfl (by simp) ?_
  simp only [sl]
  repeat' first
    | refine Holds.seq ?_
    | refine Holds.skip ?_
    | refine Holds.exit ?_
    | refine Holds.ret ?_
    | refine thenA_normal ?_
    | refine thenA_exit ?_
    | refine thenA_ret ?_
    | refine inB_normal ?_
    | refine inB_ret ?_
    | refine inB_here ?_
    | (refine inB_past ?_ ?_; (· exact rfl))
    | refine Holds.reg ?_
    | refine Holds.block ?_
    | refine GS.nil ?_
    | (refine GS.step (s' := ?_) ?_ ?_ ?_; rotate_left; (· exact rfl); (· (simp [go_sem, List.take_of_length_le, (show (0:Int) ≤ (xs.length : Int) by omega), (show (8:Int) * xs.length ≤ 281474976710656 by omega), (show (xs.length : Int) ≤ 281474976710656 by omega)] <;> with_reducible rfl)))
    | (refine GS.skip ?_ ?_ ?_; (· exact rfl); (· exact rfl))
    | fail
  refine Holds.loop (ι := Nat) (fun i => ⟨[(0, .im 1 (ints xs)), (3, .own 0 1 0 xs.length), (4, .v (.int .i64 i))], [(0, ⟨3, 1, ints (half xs 0 i)⟩)], 1⟩) (fun i => i ≤ xs.length) (fun i => xs.length - i) 0 (Nat.zero_le _) ?_ ?_
  · exact Cov.ofn (id) rfl (by simp [go_sem, List.take_of_length_le, ren, ren1, ren2, okr, okr1, okr2, ChkT, ChkN, BlkN, nf, half]) (by simp [go_sem, List.take_of_length_le, ren, ren1, ren2, okr, okr1, okr2, ChkT, ChkN, BlkN, nf, half])
  intro i hi
  repeat' first
    | refine Holds.seq ?_
    | refine Holds.skip ?_
    | refine Holds.exit ?_
    | refine Holds.ret ?_
    | refine thenA_normal ?_
    | refine thenA_exit ?_
    | refine thenA_ret ?_
    | refine inB_normal ?_
    | refine inB_ret ?_
    | refine inB_here ?_
    | (refine inB_past ?_ ?_; (· exact rfl))
    | refine Holds.reg ?_
    | refine Holds.block ?_
    | refine GS.nil ?_
    | (refine GS.step (s' := ?_) ?_ ?_ ?_; rotate_left; (· exact rfl); (· (simp [go_sem, List.take_of_length_le] <;> with_reducible rfl)))
    | (refine GS.skip ?_ ?_ ?_; (· exact rfl); (· exact rfl))
    | fail
  refine Holds.cond rfl (fun hl => ?_) (fun hl => ?_)
  · have hlt : i < xs.length := by simpa using hl
    have hxi : xs[i]? = some xs[i] := List.getElem?_eq_getElem hlt
    have hhi := half_get xs 0 i hlt
    have hhs := half_set xs 0 i hlt _ hxi
    repeat' first
      | refine Holds.seq ?_
      | refine Holds.skip ?_
      | refine Holds.exit ?_
      | refine Holds.ret ?_
      | refine thenA_normal ?_
      | refine thenA_exit ?_
      | refine thenA_ret ?_
      | refine inB_normal ?_
      | refine inB_ret ?_
      | refine inB_here ?_
      | (refine inB_past ?_ ?_; (· exact rfl))
      | refine Holds.reg ?_
      | refine Holds.block ?_
      | refine GS.nil ?_
      | (refine GS.step (s' := ?_) ?_ ?_ ?_; rotate_left; (· exact rfl); (· (simp [go_sem, List.take_of_length_le, hxi, hlt, hhi, hhs] <;> with_reducible rfl)))
      | (refine GS.skip ?_ ?_ ?_; (· exact rfl); (· exact rfl))
      | fail
    refine ⟨i + 1, by omega, by omega, ?_⟩
    rw [wr64_id (by omega) (by omega)]
    exact Cov.ofn (id) rfl (by simp [go_sem, List.take_of_length_le, ren, ren1, ren2, okr, okr1, okr2, ChkT, ChkN, BlkN, nf]) (by simp [go_sem, List.take_of_length_le, ren, ren1, ren2, okr, okr1, okr2, ChkT, ChkN, BlkN, nf])
  · have hle : i = xs.length := by
      have : ¬ i < xs.length := by simpa using hl
      omega
    subst hle
    rw [half_all]
    repeat' first
      | refine Holds.seq ?_
      | refine Holds.skip ?_
      | refine Holds.exit ?_
      | refine Holds.ret ?_
      | refine thenA_normal ?_
      | refine thenA_exit ?_
      | refine thenA_ret ?_
      | refine inB_normal ?_
      | refine inB_ret ?_
      | refine inB_here ?_
      | (refine inB_past ?_ ?_; (· exact rfl))
      | refine Holds.reg ?_
      | refine Holds.block ?_
      | refine GS.nil ?_
      | (refine GS.step (s' := ?_) ?_ ?_ ?_; rotate_left; (· exact rfl); (· (simp [go_sem, List.take_of_length_le] <;> with_reducible rfl)))
      | (refine GS.skip ?_ ?_ ?_; (· exact rfl); (· exact rfl))
      | fail
    refine OutF.mkn (xs := ?_) (nm [0]) ?_ ?_ ?_ ?_ ?_ (by first | exact .inr rfl | exact .inl rfl)
    rotate_left
    · simp [go_sem, List.take_of_length_le] <;> with_reducible rfl
    · simp [go_sem, List.take_of_length_le, ren, ren1, ren2, okr, okr1, okr2, ChkN, BlkN, List.range_succ, nf]
    · simp [go_sem, List.take_of_length_le, ren, ren1, ren2, okr, okr1, okr2, ChkN, BlkN, List.range_succ, nf]
    · simp [go_sem, List.take_of_length_le, ren, ren1, ren2, okr, okr1, okr2, ChkN, BlkN, List.range_succ, nf]
    · rfl
theorem markIntS (xs : List Int) (k : Int) (h0 : 0 ≤ k) (h1 : k + wtL w1 xs ≤ 4611686018427387904) : Fn Try.prog 23 1 [.own 0 1 0 xs.length, .v (.int .i64 k)] [(0, ⟨3, 1, ints xs⟩)] (.v (.int .i64 (k + wtL w1 xs))) 1 [(0, ⟨3, 1, ints (cnt k xs)⟩)] := by
  rw [wtL_w1] at h1 ⊢
  have hl0 : (cnt k xs).length = xs.length := cnt_len k xs
  refine Fn.mk (rs := [.tmp 4]) (nt := 19) Try.func23 (by kernel_rfl) rfl rfl rfl (by simp) ?_
  simp only [sl]
  repeat' first
    | refine Holds.seq ?_
    | refine Holds.skip ?_
    | refine Holds.exit ?_
    | refine Holds.ret ?_
    | refine thenA_normal ?_
    | refine thenA_exit ?_
    | refine thenA_ret ?_
    | refine inB_normal ?_
    | refine inB_ret ?_
    | refine inB_here ?_
    | (refine inB_past ?_ ?_; (· exact rfl))
    | refine Holds.reg ?_
    | refine Holds.block ?_
    | refine GS.nil ?_
    | (refine GS.step (s' := ?_) ?_ ?_ ?_; rotate_left; (· exact rfl); (· (simp [go_sem, List.take_of_length_le] <;> with_reducible rfl)))
    | (refine GS.skip ?_ ?_ ?_; (· exact rfl); (· exact rfl))
    | fail
  refine Holds.loop (ι := Nat) (fun i => ⟨[(0, .own 0 1 0 xs.length), (1, .v (.int .i64 (k + i))), (5, .v (.int .i64 i))], [(0, ⟨3, 1, ints (mid (cnt k xs) xs i)⟩)], 1⟩) (fun i => i ≤ xs.length) (fun i => xs.length - i) 0 (Nat.zero_le _) ?_ ?_
  · exact Cov.ofn (id) rfl (by simp [go_sem, List.take_of_length_le, ren, ren1, ren2, okr, okr1, okr2, ChkT, ChkN, BlkN, nf]) (by simp [go_sem, List.take_of_length_le, ren, ren1, ren2, okr, okr1, okr2, ChkT, ChkN, BlkN, nf])
  intro i hi
  have hml := mid_len (i := i) hl0
  repeat' first
    | refine Holds.seq ?_
    | refine Holds.skip ?_
    | refine Holds.exit ?_
    | refine Holds.ret ?_
    | refine thenA_normal ?_
    | refine thenA_exit ?_
    | refine thenA_ret ?_
    | refine inB_normal ?_
    | refine inB_ret ?_
    | refine inB_here ?_
    | (refine inB_past ?_ ?_; (· exact rfl))
    | refine Holds.reg ?_
    | refine Holds.block ?_
    | refine GS.nil ?_
    | (refine GS.step (s' := ?_) ?_ ?_ ?_; rotate_left; (· exact rfl); (· (simp [go_sem, List.take_of_length_le, hml] <;> with_reducible rfl)))
    | (refine GS.skip ?_ ?_ ?_; (· exact rfl); (· exact rfl))
    | fail
  refine Holds.cond rfl (fun hl => ?_) (fun hl => ?_)
  · have hlt : i < xs.length := by simpa using hl
    have hxi : xs[i]? = some xs[i] := List.getElem?_eq_getElem hlt
    have hhi := (mid_get hl0 hlt).trans hxi
    have hhs := mid_set hl0 hlt (cnt_get k xs hlt)
    repeat' first
      | refine Holds.seq ?_
      | refine Holds.skip ?_
      | refine Holds.exit ?_
      | refine Holds.ret ?_
      | refine thenA_normal ?_
      | refine thenA_exit ?_
      | refine thenA_ret ?_
      | refine inB_normal ?_
      | refine inB_ret ?_
      | refine inB_here ?_
      | (refine inB_past ?_ ?_; (· exact rfl))
      | refine Holds.reg ?_
      | refine Holds.block ?_
      | refine GS.nil ?_
      | (refine GS.step (s' := ?_) ?_ ?_ ?_; rotate_left; (· exact rfl); (· (simp [go_sem, List.take_of_length_le, hml, hxi, hlt, hhi, hhs] <;> with_reducible rfl)))
      | (refine GS.skip ?_ ?_ ?_; (· exact rfl); (· exact rfl))
      | fail
    refine ⟨i + 1, by omega, by omega, ?_⟩
    rw [wr64_id (by omega) (by omega), wr64_id (by omega) (by omega), show k + (i : Int) + 1 = k + ((i + 1 : Nat) : Int) by omega]
    exact Cov.ofn (id) rfl (by simp [go_sem, List.take_of_length_le, ren, ren1, ren2, okr, okr1, okr2, ChkT, ChkN, BlkN, nf]) (by simp [go_sem, List.take_of_length_le, ren, ren1, ren2, okr, okr1, okr2, ChkT, ChkN, BlkN, nf])
  · have hle : i = xs.length := by
      have : ¬ i < xs.length := by simpa using hl
      omega
    subst hle
    rw [mid_all hl0 rfl]
    repeat' first
      | refine Holds.seq ?_
      | refine Holds.skip ?_
      | refine Holds.exit ?_
      | refine Holds.ret ?_
      | refine thenA_normal ?_
      | refine thenA_exit ?_
      | refine thenA_ret ?_
      | refine inB_normal ?_
      | refine inB_ret ?_
      | refine inB_here ?_
      | (refine inB_past ?_ ?_; (· exact rfl))
      | refine Holds.reg ?_
      | refine Holds.block ?_
      | refine GS.nil ?_
      | (refine GS.step (s' := ?_) ?_ ?_ ?_; rotate_left; (· exact rfl); (· (simp [go_sem, List.take_of_length_le] <;> with_reducible rfl)))
      | (refine GS.skip ?_ ?_ ?_; (· exact rfl); (· exact rfl))
      | fail
    refine OutF.mkn (xs := ?_) (nm [0]) ?_ ?_ ?_ ?_ ?_ (by first | exact .inr rfl | exact .inl rfl)
    rotate_left
    · simp [go_sem, List.take_of_length_le] <;> with_reducible rfl
    · simp [go_sem, List.take_of_length_le, ren, ren1, ren2, okr, okr1, okr2, ChkN, BlkN, List.range_succ, nf]
    · simp [go_sem, List.take_of_length_le, ren, ren1, ren2, okr, okr1, okr2, ChkN, BlkN, List.range_succ, nf]
    · simp [go_sem, List.take_of_length_le, ren, ren1, ren2, okr, okr1, okr2, ChkN, BlkN, List.range_succ, nf]
    · rfl
theorem heldIntS (xs : List Int) (k : Int) (h0 : 0 ≤ k) (h1 : k + wtL w1 xs ≤ 4611686018427387904) : Pure Try.prog 28 [.im 1 (ints (cnt k xs)), .v (.int .i64 k)] (.v (.int .i64 (k + wtL w1 xs))) := by
  rw [wtL_w1] at h1 ⊢
  refine Pure.mk (rs := [.tmp 4]) (nt := 21) Try.func28 (by kernel_rfl) rfl rfl rfl (by simp) ?_
  simp only [sl]
  repeat' first
    | refine Holds.seq ?_
    | refine Holds.skip ?_
    | refine Holds.exit ?_
    | refine Holds.ret ?_
    | refine thenA_normal ?_
    | refine thenA_exit ?_
    | refine thenA_ret ?_
    | refine inB_normal ?_
    | refine inB_ret ?_
    | refine inB_here ?_
    | (refine inB_past ?_ ?_; (· exact rfl))
    | refine Holds.reg ?_
    | refine Holds.block ?_
    | refine GS.nil ?_
    | (refine GS.step (s' := ?_) ?_ ?_ ?_; rotate_left; (· exact rfl); (· (simp [go_sem, List.take_of_length_le] <;> with_reducible rfl)))
    | (refine GS.skip ?_ ?_ ?_; (· exact rfl); (· exact rfl))
    | fail
  refine Holds.loop (ι := Nat) (fun i => ⟨[(0, .im 1 (ints (cnt k xs))), (1, .v (.int .i64 (k + i))), (5, .v (.int .i64 i))], [], 0⟩) (fun i => i ≤ xs.length) (fun i => xs.length - i) 0 (Nat.zero_le _) ?_ ?_
  · exact Cov.ofn (id) rfl (by simp [go_sem, List.take_of_length_le, ren, ren1, ren2, okr, okr1, okr2, ChkT, ChkN, BlkN, nf]) (by simp [go_sem, List.take_of_length_le, ren, ren1, ren2, okr, okr1, okr2, ChkT, ChkN, BlkN, nf])
  intro i hi
  repeat' first
    | refine Holds.seq ?_
    | refine Holds.skip ?_
    | refine Holds.exit ?_
    | refine Holds.ret ?_
    | refine thenA_normal ?_
    | refine thenA_exit ?_
    | refine thenA_ret ?_
    | refine inB_normal ?_
    | refine inB_ret ?_
    | refine inB_here ?_
    | (refine inB_past ?_ ?_; (· exact rfl))
    | refine Holds.reg ?_
    | refine Holds.block ?_
    | refine GS.nil ?_
    | (refine GS.step (s' := ?_) ?_ ?_ ?_; rotate_left; (· exact rfl); (· (simp [go_sem, List.take_of_length_le] <;> with_reducible rfl)))
    | (refine GS.skip ?_ ?_ ?_; (· exact rfl); (· exact rfl))
    | fail
  refine Holds.cond rfl (fun hl => ?_) (fun hl => ?_)
  · have hlt : i < xs.length := by simpa using hl
    have hxi := cnt_get k xs hlt
    repeat' first
      | refine Holds.seq ?_
      | refine Holds.skip ?_
      | refine Holds.exit ?_
      | refine Holds.ret ?_
      | refine thenA_normal ?_
      | refine thenA_exit ?_
      | refine thenA_ret ?_
      | refine inB_normal ?_
      | refine inB_ret ?_
      | refine inB_here ?_
      | (refine inB_past ?_ ?_; (· exact rfl))
      | refine Holds.reg ?_
      | refine Holds.block ?_
      | refine GS.nil ?_
      | (refine GS.step (s' := ?_) ?_ ?_ ?_; rotate_left; (· exact rfl); (· (simp [go_sem, List.take_of_length_le, hxi, hlt] <;> with_reducible rfl)))
      | (refine GS.skip ?_ ?_ ?_; (· exact rfl); (· exact rfl))
      | fail
    refine Holds.cond rfl (fun hl => absurd hl (by simp)) (fun hl => ?_)
    repeat' first
      | refine Holds.seq ?_
      | refine Holds.skip ?_
      | refine Holds.exit ?_
      | refine Holds.ret ?_
      | refine thenA_normal ?_
      | refine thenA_exit ?_
      | refine thenA_ret ?_
      | refine inB_normal ?_
      | refine inB_ret ?_
      | refine inB_here ?_
      | (refine inB_past ?_ ?_; (· exact rfl))
      | refine Holds.reg ?_
      | refine Holds.block ?_
      | refine GS.nil ?_
      | (refine GS.step (s' := ?_) ?_ ?_ ?_; rotate_left; (· exact rfl); (· (simp [go_sem, List.take_of_length_le] <;> with_reducible rfl)))
      | (refine GS.skip ?_ ?_ ?_; (· exact rfl); (· exact rfl))
      | fail
    refine ⟨i + 1, by omega, by omega, ?_⟩
    rw [wr64_id (by omega) (by omega), wr64_id (by omega) (by omega), show k + (i : Int) + 1 = k + ((i + 1 : Nat) : Int) by omega]
    exact Cov.ofn (id) rfl (by simp [go_sem, List.take_of_length_le, ren, ren1, ren2, okr, okr1, okr2, ChkT, ChkN, BlkN, nf]) (by simp [go_sem, List.take_of_length_le, ren, ren1, ren2, okr, okr1, okr2, ChkT, ChkN, BlkN, nf])
  · have hle : i = xs.length := by
      have : ¬ i < xs.length := by simpa using hl
      omega
    subst hle
    repeat' first
      | refine Holds.seq ?_
      | refine Holds.skip ?_
      | refine Holds.exit ?_
      | refine Holds.ret ?_
      | refine thenA_normal ?_
      | refine thenA_exit ?_
      | refine thenA_ret ?_
      | refine inB_normal ?_
      | refine inB_ret ?_
      | refine inB_here ?_
      | (refine inB_past ?_ ?_; (· exact rfl))
      | refine Holds.reg ?_
      | refine Holds.block ?_
      | refine GS.nil ?_
      | (refine GS.step (s' := ?_) ?_ ?_ ?_; rotate_left; (· exact rfl); (· (simp [go_sem, List.take_of_length_le] <;> with_reducible rfl)))
      | (refine GS.skip ?_ ?_ ?_; (· exact rfl); (· exact rfl))
      | fail
    refine Out.mk (xs := ?_) ?_ ?_ (by first | exact .inr rfl | exact .inl rfl)
    rotate_left
    · simp [go_sem, List.take_of_length_le] <;> with_reducible rfl
    exact .v _
end Go.Proofs.Ytabdnpgahdbciaa.En
end
section
namespace Go.Proofs.Ytabdnpgahdbciaa.En
open Go.RowKit
set_option linter.unusedSimpArgs false
set_option linter.unusedVariables false
set_option maxHeartbeats 4000000
def wRule (x : RuleT) : Nat := 1 + wtL w1 x.2
def mRule (k : Int) (x : RuleT) : RuleT := ((k), cnt (k + 1) x.2)
theorem wRule_m (k : Int) (x : RuleT) : wRule (mRule k x) = wRule x := by simp [wRule, mRule]
def ruleO (x : RuleT) : List AV := [.v (.int .i64 x.1), .ow 3 1 (ints x.2)]
def rulesO (l : List RuleT) : List (List AV) := l.map ruleO
@[simp] theorem rulesO_len (l : List (RuleT)) : (rulesO l).length = l.length := by simp [rulesO]
@[simp] theorem rulesO_get (l : List (RuleT)) (i : Nat) : (rulesO l)[i]? = (l[i]?).map ruleO := by simp [rulesO]
@[simp] theorem rulesO_gE (l : List (RuleT)) (i : Nat) (h : i < (rulesO l).length) : (rulesO l)[i] = ruleO (l[i]'(by simpa using h)) := by simp [rulesO]
theorem rulesO_all (p : AV → Prop) (l : List (RuleT)) (h : ∀ x ∈ l, ∀ y ∈ ruleO x, p y) : ∀ row ∈ rulesO l, ∀ y ∈ row, p y := by
  intro row hr y hy
  simp only [rulesO, List.mem_map] at hr
  obtain ⟨n, hn, rfl⟩ := hr
  exact h n hn y hy
@[simp] theorem nfr_rulesO (l : List (RuleT)) : nfr (rulesO l) := rulesO_all _ l fun x _ y hy => by simp only [ruleO, List.mem_cons, List.not_mem_nil, or_false] at hy; rcases hy with rfl | rfl <;> rfl
@[simp] theorem onyR_rulesO (l : List (RuleT)) : onyR (rulesO l) := rulesO_all _ l fun x _ y hy => by simp only [ruleO, List.mem_cons, List.not_mem_nil, or_false] at hy; rcases hy with rfl | rfl <;> simp
theorem fz_rulesO {bl : List (Nat × Blk)} {n len : Nat} {e : TypeId} (l : List (RuleT)) (hk : lb bl n = some ⟨e, 2, rulesO l⟩) (hl : len = l.length) : Fz bl (.own n 2 0 len) (.im 2 (rules l)) := Fz.rowsO l ruleO ruleC hk rfl rfl (fun x _ => show FzL bl (ruleO x) (ruleC x) from by simp only [ruleO, ruleC]; exact .cons (.v _) (.cons (Fz.owI (ints_cl _)) (.nil))) hl
theorem fzw_rulesO {bl : List (Nat × Blk)} {e : TypeId} (l : List (RuleT)) : Fz bl (.ow e 2 (rulesO l)) (.im 2 (rules l)) := Fz.rowsW l ruleO ruleC (fun x _ => show FzL bl (ruleO x) (ruleC x) from by simp only [ruleO, ruleC]; exact .cons (.v _) (.cons (Fz.owI (ints_cl _)) (.nil)))
theorem toRuleO (x : RuleT) (h0 : (x.2).length < 35184372088832) : Fn Try.prog 57 0 [.ag (ruleC x)] [] (.ag [.v (.int .i64 x.1), .own 0 1 0 (x.2).length]) 1 [(0, ⟨3, 1, ints x.2⟩)] := by
  refine Fn.mk (rs := [.cell 2 60]) (nt := 12) Try.func57 (by kernel_rfl) rfl rfl rfl (by simp) ?_
  simp only [sl, ruleC]
  repeat' first
    | refine Holds.seq ?_
    | refine Holds.skip ?_
    | refine Holds.exit ?_
    | refine Holds.ret ?_
    | refine thenA_normal ?_
    | refine thenA_exit ?_
    | refine thenA_ret ?_
    | refine inB_normal ?_
    | refine inB_ret ?_
    | refine inB_here ?_
    | (refine inB_past ?_ ?_; (· exact rfl))
    | refine Holds.reg ?_
    | refine Holds.block ?_
    | refine GS.nil ?_
    | (refine GS.step (s' := ?_) ?_ ?_ ?_; rotate_left; (· exact rfl); (· (simp [go_sem, List.take_of_length_le] <;> with_reducible rfl)))
    | (refine GS.skip ?_ ?_ ?_; (· exact rfl); (· exact rfl))
    | fail
  refine GS.fnn [] (toIntSO x.2 h0) rfl rfl rfl rfl (by simp [go_sem, List.take_of_length_le, ren, ren1, ren2, okr, okr1, okr2, ChkN, BlkN, List.range_succ, nf, ruleC] <;> with_reducible rfl) (by simp [go_sem, List.take_of_length_le, ren, ren1, ren2, okr, okr1, okr2, ChkN, BlkN, List.range_succ, nf, ruleC]) (by simp [go_sem, List.take_of_length_le, ren, ren1, ren2, okr, okr1, okr2, ChkN, BlkN, List.range_succ, nf, ruleC]) (by simp [List.range_succ, lb]) (ChkN.toB (by simp [go_sem, List.take_of_length_le, ren, ren1, ren2, okr, okr1, okr2, ChkN, BlkN, List.range_succ, nf, ruleC])) (by decide) (by simp) rfl (.nfr (by simp) .nil) (by simp [go_sem, List.take_of_length_le, ren, ren1, ren2, okr, okr1, okr2, ChkN, BlkN, List.range_succ, nf, ruleC] <;> with_reducible rfl) ?_
  repeat' first
    | refine Holds.seq ?_
    | refine Holds.skip ?_
    | refine Holds.exit ?_
    | refine Holds.ret ?_
    | refine thenA_normal ?_
    | refine thenA_exit ?_
    | refine thenA_ret ?_
    | refine inB_normal ?_
    | refine inB_ret ?_
    | refine inB_here ?_
    | (refine inB_past ?_ ?_; (· exact rfl))
    | refine Holds.reg ?_
    | refine Holds.block ?_
    | refine GS.nil ?_
    | (refine GS.step (s' := ?_) ?_ ?_ ?_; rotate_left; (· exact rfl); (· (simp [go_sem, List.take_of_length_le] <;> with_reducible rfl)))
    | (refine GS.skip ?_ ?_ ?_; (· exact rfl); (· exact rfl))
    | fail
  refine OutF.mkn (xs := ?_) (nm [3]) ?_ ?_ ?_ ?_ ?_ (by first | exact .inr rfl | exact .inl rfl)
  rotate_left
  · simp [go_sem, List.take_of_length_le, ruleC] <;> with_reducible rfl
  · simp [go_sem, List.take_of_length_le, ren, ren1, ren2, okr, okr1, okr2, ChkN, BlkN, List.range_succ, nf, ruleC]
  · simp [go_sem, List.take_of_length_le, ren, ren1, ren2, okr, okr1, okr2, ChkN, BlkN, List.range_succ, nf, ruleC]
  · simp [go_sem, List.take_of_length_le, ren, ren1, ren2, okr, okr1, okr2, ChkN, BlkN, List.range_succ, nf, ruleC]
  · rfl
theorem toRuleSO (l : List (RuleT)) (h0 : l.length < 8796093022208) (h1 : ∀ q ∈ l, (q.2).length < 35184372088832) : Fn Try.prog 32 0 [.im 2 (rules l)] [] (.own 0 2 0 l.length) 1 [(0, ⟨60, 2, rulesO l⟩)] := by
  refine Fn.mk (rs := [.tmp 2]) (nt := 23) Try.func32 (by kernel_rfl) rfl rfl rfl (by simp) ?_
  simp only [sl]
  repeat' first
    | refine Holds.seq ?_
    | refine Holds.skip ?_
    | refine Holds.exit ?_
    | refine Holds.ret ?_
    | refine thenA_normal ?_
    | refine thenA_exit ?_
    | refine thenA_ret ?_
    | refine inB_normal ?_
    | refine inB_ret ?_
    | refine inB_here ?_
    | (refine inB_past ?_ ?_; (· exact rfl))
    | refine Holds.reg ?_
    | refine Holds.block ?_
    | refine GS.nil ?_
    | (refine GS.step (s' := ?_) ?_ ?_ ?_; rotate_left; (· exact rfl); (· (simp [go_sem, List.take_of_length_le, (show (0:Int) ≤ (l.length : Int) by omega), (show (32:Int) * l.length ≤ 281474976710656 by omega), (show (l.length : Int) ≤ 281474976710656 by omega)] <;> with_reducible rfl)))
    | (refine GS.skip ?_ ?_ ?_; (· exact rfl); (· exact rfl))
    | fail
  refine Holds.loop (ι := Nat) (fun i => ⟨[(0, .im 2 (rules l)), (3, .own 0 2 0 l.length), (4, .v (.int .i64 i))], [(0, ⟨60, 2, half (rulesO l) [.v (.int .i64 0), .v (.slice none 0 0)] i⟩)], 1⟩) (fun i => i ≤ l.length) (fun i => l.length - i) 0 (Nat.zero_le _) ?_ ?_
  · have hnf0 : nfr (List.replicate l.length ([.v (.int .i64 0), .v (.slice none 0 0)] : List AV)) := .rep (by simp [nf])
    exact Cov.ofn (id) rfl (by simp [go_sem, List.take_of_length_le, ren, ren1, ren2, okr, okr1, okr2, ChkT, ChkN, BlkN, nf, half, hnf0]) (by simp [go_sem, List.take_of_length_le, ren, ren1, ren2, okr, okr1, okr2, ChkT, ChkN, BlkN, nf, half, hnf0])
  intro i hi
  repeat' first
    | refine Holds.seq ?_
    | refine Holds.skip ?_
    | refine Holds.exit ?_
    | refine Holds.ret ?_
    | refine thenA_normal ?_
    | refine thenA_exit ?_
    | refine thenA_ret ?_
    | refine inB_normal ?_
    | refine inB_ret ?_
    | refine inB_here ?_
    | (refine inB_past ?_ ?_; (· exact rfl))
    | refine Holds.reg ?_
    | refine Holds.block ?_
    | refine GS.nil ?_
    | (refine GS.step (s' := ?_) ?_ ?_ ?_; rotate_left; (· exact rfl); (· (simp [go_sem, List.take_of_length_le] <;> with_reducible rfl)))
    | (refine GS.skip ?_ ?_ ?_; (· exact rfl); (· exact rfl))
    | fail
  refine Holds.cond rfl (fun hl => ?_) (fun hl => ?_)
  · have hlt : i < l.length := by simpa using hl
    have hxi : l[i]? = some l[i] := List.getElem?_eq_getElem hlt
    have hhi := half_get (rulesO l) [.v (.int .i64 0), .v (.slice none 0 0)] i (by simpa using hlt)
    have hhs := half_set (rulesO l) [.v (.int .i64 0), .v (.slice none 0 0)] i (by simpa using hlt) (ruleO l[i]) (by simp [hxi])
    have hnf : nfr (half (rulesO l) [.v (.int .i64 0), .v (.slice none 0 0)] i) := nfr_half (by simp) (by simp [nf])
    have hnf1 : nfr (half (rulesO l) [.v (.int .i64 0), .v (.slice none 0 0)] (i + 1)) := nfr_half (by simp) (by simp [nf])
    simp only [ruleO] at hhs
    repeat' first
      | refine Holds.seq ?_
      | refine Holds.skip ?_
      | refine Holds.exit ?_
      | refine Holds.ret ?_
      | refine thenA_normal ?_
      | refine thenA_exit ?_
      | refine thenA_ret ?_
      | refine inB_normal ?_
      | refine inB_ret ?_
      | refine inB_here ?_
      | (refine inB_past ?_ ?_; (· exact rfl))
      | refine Holds.reg ?_
      | refine Holds.block ?_
      | refine GS.nil ?_
      | (refine GS.step (s' := ?_) ?_ ?_ ?_; rotate_left; (· exact rfl); (· (simp [go_sem, List.take_of_length_le, hxi, hlt, ruleC] <;> with_reducible rfl)))
      | (refine GS.skip ?_ ?_ ?_; (· exact rfl); (· exact rfl))
      | fail
    refine GS.fnn [] (toRuleO l[i] (h1 _ (List.getElem_mem hlt))) rfl rfl rfl rfl (by simp [go_sem, List.take_of_length_le, ren, ren1, ren2, okr, okr1, okr2, ChkN, BlkN, List.range_succ, nf, ruleC] <;> with_reducible rfl) (by simp [go_sem, List.take_of_length_le, ren, ren1, ren2, okr, okr1, okr2, ChkN, BlkN, List.range_succ, nf, ruleC]) (by simp [go_sem, List.take_of_length_le, ren, ren1, ren2, okr, okr1, okr2, ChkN, BlkN, List.range_succ, nf, ruleC]) (by simp [List.range_succ, lb]) (ChkN.toB (by simp [go_sem, List.take_of_length_le, ren, ren1, ren2, okr, okr1, okr2, ChkN, BlkN, List.range_succ, nf, ruleC])) (by decide) (by simp) rfl (.nfr (by simp) .nil) (by simp [go_sem, List.take_of_length_le, ren, ren1, ren2, okr, okr1, okr2, ChkN, BlkN, List.range_succ, nf, ruleC] <;> with_reducible rfl) ?_
    repeat' first
      | refine Holds.seq ?_
      | refine Holds.skip ?_
      | refine Holds.exit ?_
      | refine Holds.ret ?_
      | refine thenA_normal ?_
      | refine thenA_exit ?_
      | refine thenA_ret ?_
      | refine inB_normal ?_
      | refine inB_ret ?_
      | refine inB_here ?_
      | (refine inB_past ?_ ?_; (· exact rfl))
      | refine Holds.reg ?_
      | refine Holds.block ?_
      | refine GS.nil ?_
      | (refine GS.step (s' := ?_) ?_ ?_ ?_; rotate_left; (· exact rfl); (· (simp [go_sem, List.take_of_length_le, hxi, hlt, hhi, hhs, ruleC] <;> with_reducible rfl)))
      | (refine GS.skip ?_ ?_ ?_; (· exact rfl); (· exact rfl))
      | fail
    refine ⟨i + 1, by omega, by omega, ?_⟩
    rw [wr64_id (by omega) (by omega)]
    refine Cov.trans ?_ (Cov.close 0 i 1 rfl (set_get hhi) rfl rfl rfl rfl (by first | rfl | simp) (by simp))
    simp only [rm, st, List.set_set, List.set_cons_zero, List.set_cons_succ, hhs]
    exact Cov.ofn (id) rfl (by simp [go_sem, List.take_of_length_le, ren, ren1, ren2, okr, okr1, okr2, ChkT, ChkN, BlkN, nf, hnf, hnf1]) (by simp [go_sem, List.take_of_length_le, ren, ren1, ren2, okr, okr1, okr2, ChkT, ChkN, BlkN, nf, hnf, hnf1])
  · have hle : i = l.length := by
      have : ¬ i < l.length := by simpa using hl
      omega
    subst hle
    rw [show half (rulesO l) [.v (.int .i64 0), .v (.slice none 0 0)] l.length = rulesO l by have := half_all (rulesO l) ([.v (.int .i64 0), .v (.slice none 0 0)] : List AV); rwa [show (rulesO l).length = l.length by simp] at this]
    repeat' first
      | refine Holds.seq ?_
      | refine Holds.skip ?_
      | refine Holds.exit ?_
      | refine Holds.ret ?_
      | refine thenA_normal ?_
      | refine thenA_exit ?_
      | refine thenA_ret ?_
      | refine inB_normal ?_
      | refine inB_ret ?_
      | refine inB_here ?_
      | (refine inB_past ?_ ?_; (· exact rfl))
      | refine Holds.reg ?_
      | refine Holds.block ?_
      | refine GS.nil ?_
      | (refine GS.step (s' := ?_) ?_ ?_ ?_; rotate_left; (· exact rfl); (· (simp [go_sem, List.take_of_length_le] <;> with_reducible rfl)))
      | (refine GS.skip ?_ ?_ ?_; (· exact rfl); (· exact rfl))
      | fail
    refine OutF.mkn (xs := ?_) (nm [0]) ?_ ?_ ?_ ?_ ?_ (by first | exact .inr rfl | exact .inl rfl)
    rotate_left
    · simp [go_sem, List.take_of_length_le] <;> with_reducible rfl
    · simp [go_sem, List.take_of_length_le, ren, ren1, ren2, okr, okr1, okr2, ChkN, BlkN, List.range_succ, nf]
    · simp [go_sem, List.take_of_length_le, ren, ren1, ren2, okr, okr1, okr2, ChkN, BlkN, List.range_succ, nf]
    · simp [go_sem, List.take_of_length_le, ren, ren1, ren2, okr, okr1, okr2, ChkN, BlkN, List.range_succ, nf]
    · rfl
theorem markRuleS (l : List (RuleT)) (k : Int) (h0 : 0 ≤ k) (h1 : k + wtL wRule l ≤ 4611686018427387904) (h2 : l.length ≤ 4611686018427387904) : Fn Try.prog 47 1 [.own 0 2 0 l.length, .v (.int .i64 k)] [(0, ⟨60, 2, rulesO l⟩)] (.v (.int .i64 (k + wtL wRule l))) 1 [(0, ⟨60, 2, rulesO (mkL wRule mRule k l)⟩)] := by
  have hl0 : (rulesO (mkL wRule mRule k l)).length = (rulesO l).length := by simp
  have hl1 : (rulesO l).length = l.length := by simp
  refine Fn.mk (rs := [.tmp 4]) (nt := 27) Try.func47 (by kernel_rfl) rfl rfl rfl (by simp) ?_
  simp only [sl]
  repeat' first
    | refine Holds.seq ?_
    | refine Holds.skip ?_
    | refine Holds.exit ?_
    | refine Holds.ret ?_
    | refine thenA_normal ?_
    | refine thenA_exit ?_
    | refine thenA_ret ?_
    | refine inB_normal ?_
    | refine inB_ret ?_
    | refine inB_here ?_
    | (refine inB_past ?_ ?_; (· exact rfl))
    | refine Holds.reg ?_
    | refine Holds.block ?_
    | refine GS.nil ?_
    | (refine GS.step (s' := ?_) ?_ ?_ ?_; rotate_left; (· exact rfl); (· (simp [go_sem, List.take_of_length_le] <;> with_reducible rfl)))
    | (refine GS.skip ?_ ?_ ?_; (· exact rfl); (· exact rfl))
    | fail
  refine Holds.loop (ι := Nat) (fun i => ⟨[(0, .own 0 2 0 l.length), (1, .v (.int .i64 (k + wtL wRule (l.take i)))), (5, .v (.int .i64 i))], [(0, ⟨60, 2, mid (rulesO (mkL wRule mRule k l)) (rulesO l) i⟩)], 1⟩) (fun i => i ≤ l.length) (fun i => l.length - i) 0 (Nat.zero_le _) ?_ ?_
  · exact Cov.ofn (id) rfl (by simp [go_sem, List.take_of_length_le, ren, ren1, ren2, okr, okr1, okr2, ChkT, ChkN, BlkN, nf, wtL]) (by simp [go_sem, List.take_of_length_le, ren, ren1, ren2, okr, okr1, okr2, ChkT, ChkN, BlkN, nf, wtL])
  intro i hi
  have hml := (mid_len (i := i) hl0).trans hl1
  repeat' first
    | refine Holds.seq ?_
    | refine Holds.skip ?_
    | refine Holds.exit ?_
    | refine Holds.ret ?_
    | refine thenA_normal ?_
    | refine thenA_exit ?_
    | refine thenA_ret ?_
    | refine inB_normal ?_
    | refine inB_ret ?_
    | refine inB_here ?_
    | (refine inB_past ?_ ?_; (· exact rfl))
    | refine Holds.reg ?_
    | refine Holds.block ?_
    | refine GS.nil ?_
    | (refine GS.step (s' := ?_) ?_ ?_ ?_; rotate_left; (· exact rfl); (· (simp [go_sem, List.take_of_length_le, hml] <;> with_reducible rfl)))
    | (refine GS.skip ?_ ?_ ?_; (· exact rfl); (· exact rfl))
    | fail
  refine Holds.cond rfl (fun hl => ?_) (fun hl => ?_)
  · have hlt : i < l.length := by simpa using hl
    have hxi : l[i]? = some l[i] := List.getElem?_eq_getElem hlt
    have hwn := wtL_next wRule hxi
    have hwl := wtL_le wRule l (i + 1)
    have hmk : (mkL wRule mRule k l)[i]? = some (mRule (k + wtL wRule (l.take i)) l[i]) := by rw [mkL_get, hxi]; rfl
    have hhi := (mid_get hl0 (i := i) (by simpa using hlt)).trans (show (rulesO l)[i]? = some (ruleO l[i]) by simp [hxi])
    have hhs := mid_set hl0 (i := i) (by simpa using hlt) (show (rulesO (mkL wRule mRule k l))[i]? = some (ruleO (mRule (k + wtL wRule (l.take i)) l[i])) by simp [hmk])
    have hnf : nfr (mid (rulesO (mkL wRule mRule k l)) (rulesO l) i) := nfr_mid (by simp) (by simp)
    have hnf1 : nfr (mid (rulesO (mkL wRule mRule k l)) (rulesO l) (i + 1)) := nfr_mid (by simp) (by simp)
    have hW0 : (0 : Int) ≤ (wtL wRule (l.take i) : Int) := Int.natCast_nonneg _
    generalize wtL wRule (l.take i) = W at hwn hmk hhs hW0 ⊢
    generalize hX : l[i] = x at hxi hwn hmk hhi hhs
    simp only [wRule] at hwn
    simp only [ruleO, mRule] at hhs
    simp only [ruleO] at hhi
    have hhe := get_E hhi
    have hw0 : wr64 ((k + W : Int) + 1) = (k + W : Int) + 1 := wr64_id (by omega) (by omega)
    repeat' first
      | refine Holds.seq ?_
      | refine Holds.skip ?_
      | refine Holds.exit ?_
      | refine Holds.ret ?_
      | refine thenA_normal ?_
      | refine thenA_exit ?_
      | refine thenA_ret ?_
      | refine inB_normal ?_
      | refine inB_ret ?_
      | refine inB_here ?_
      | (refine inB_past ?_ ?_; (· exact rfl))
      | refine Holds.reg ?_
      | refine Holds.block ?_
      | refine GS.nil ?_
      | (refine GS.step (s' := ?_) ?_ ?_ ?_; rotate_left; (· exact rfl); (· (simp [go_sem, List.take_of_length_le, hml, hhi, hhe, hlt, hl0, hw0] <;> with_reducible rfl)))
      | (refine GS.skip ?_ ?_ ?_; (· exact rfl); (· exact rfl))
      | fail
    refine GS.fnn [1] (markIntS x.2 ((k + W : Int) + 1) (by omega) (by omega)) rfl rfl rfl rfl (by simp [go_sem, List.take_of_length_le, ren, ren1, ren2, okr, okr1, okr2, ChkN, BlkN, List.range_succ, nf, hml, hhi, hhe, hlt, hl0, hw0] <;> with_reducible rfl) (by simp [go_sem, List.take_of_length_le, ren, ren1, ren2, okr, okr1, okr2, ChkN, BlkN, List.range_succ, nf, hml, hhi, hhe, hlt, hl0, hw0]) (by simp [go_sem, List.take_of_length_le, ren, ren1, ren2, okr, okr1, okr2, ChkN, BlkN, List.range_succ, nf, hml, hhi, hhe, hlt, hl0, hw0]) (by simp [List.range_succ, lb]) (ChkN.toB (by simp [go_sem, List.take_of_length_le, ren, ren1, ren2, okr, okr1, okr2, ChkN, BlkN, List.range_succ, nf, hml, hhi, hhe, hlt, hl0, hw0])) (by decide) (by simp) rfl (.nfr (by simp) .nil) (by simp [go_sem, List.take_of_length_le, ren, ren1, ren2, okr, okr1, okr2, ChkN, BlkN, List.range_succ, nf, hml, hhi, hhe, hlt, hl0, hw0] <;> with_reducible rfl) ?_
    repeat' first
      | refine Holds.seq ?_
      | refine Holds.skip ?_
      | refine Holds.exit ?_
      | refine Holds.ret ?_
      | refine thenA_normal ?_
      | refine thenA_exit ?_
      | refine thenA_ret ?_
      | refine inB_normal ?_
      | refine inB_ret ?_
      | refine inB_here ?_
      | (refine inB_past ?_ ?_; (· exact rfl))
      | refine Holds.reg ?_
      | refine Holds.block ?_
      | refine GS.nil ?_
      | (refine GS.step (s' := ?_) ?_ ?_ ?_; rotate_left; (· exact rfl); (· (simp [go_sem, List.take_of_length_le, hml, hhi, hhe, hlt, hl0, hw0] <;> with_reducible rfl)))
      | (refine GS.skip ?_ ?_ ?_; (· exact rfl); (· exact rfl))
      | fail
    refine ⟨i + 1, by omega, by omega, ?_⟩
    rw [show wr64 ((i : Int) + 1) = ((i + 1 : Nat) : Int) from wr64_id (by omega) (by omega), hwn]
    refine Cov.trans ?_ (Cov.close 0 i 1 rfl (set_get hhi) rfl rfl rfl rfl (by first | rfl | simp) (by simp))
    simp only [rm, st, List.set_set, List.set_cons_zero, List.set_cons_succ]
    exact Cov.ofn (id) rfl (by simp [go_sem, List.take_of_length_le, ren, ren1, ren2, okr, okr1, okr2, ChkT, ChkN, BlkN, nf, hhs, hnf, hnf1, Int.add_assoc]) (by simp [go_sem, List.take_of_length_le, ren, ren1, ren2, okr, okr1, okr2, ChkT, ChkN, BlkN, nf, hhs, hnf, hnf1])
  · have hle : i = l.length := by
      have : ¬ i < l.length := by simpa using hl
      omega
    subst hle
    rw [mid_all (by simp) (by simp), List.take_length]
    repeat' first
      | refine Holds.seq ?_
      | refine Holds.skip ?_
      | refine Holds.exit ?_
      | refine Holds.ret ?_
      | refine thenA_normal ?_
      | refine thenA_exit ?_
      | refine thenA_ret ?_
      | refine inB_normal ?_
      | refine inB_ret ?_
      | refine inB_here ?_
      | (refine inB_past ?_ ?_; (· exact rfl))
      | refine Holds.reg ?_
      | refine Holds.block ?_
      | refine GS.nil ?_
      | (refine GS.step (s' := ?_) ?_ ?_ ?_; rotate_left; (· exact rfl); (· (simp [go_sem, List.take_of_length_le] <;> with_reducible rfl)))
      | (refine GS.skip ?_ ?_ ?_; (· exact rfl); (· exact rfl))
      | fail
    refine OutF.mkn (xs := ?_) (nm [0]) ?_ ?_ ?_ ?_ ?_ (by first | exact .inr rfl | exact .inl rfl)
    rotate_left
    · simp [go_sem, List.take_of_length_le] <;> with_reducible rfl
    · simp [go_sem, List.take_of_length_le, ren, ren1, ren2, okr, okr1, okr2, ChkN, BlkN, List.range_succ, nf]
    · simp [go_sem, List.take_of_length_le, ren, ren1, ren2, okr, okr1, okr2, ChkN, BlkN, List.range_succ, nf]
    · simp [go_sem, List.take_of_length_le, ren, ren1, ren2, okr, okr1, okr2, ChkN, BlkN, List.range_succ, nf]
    · rfl
theorem toGrammarO (x : GrammarT) (h0 : (x.2.2).length < 8796093022208) (h1 : ∀ q ∈ (x.2.2), (q.2).length < 35184372088832) : Fn Try.prog 10 0 [.ag (grammarC x)] [] (.ag [.v (.int .i64 x.1), .v (.int .i64 x.2.1), .own 0 2 0 (x.2.2).length]) 1 [(0, ⟨60, 2, rulesO x.2.2⟩)] := by
  refine Fn.mk (rs := [.cell 2 31]) (nt := 15) Try.func10 (by kernel_rfl) rfl rfl rfl (by simp) ?_
  simp only [sl, grammarC]
  repeat' first
    | refine Holds.seq ?_
    | refine Holds.skip ?_
    | refine Holds.exit ?_
    | refine Holds.ret ?_
    | refine thenA_normal ?_
    | refine thenA_exit ?_
    | refine thenA_ret ?_
    | refine inB_normal ?_
    | refine inB_ret ?_
    | refine inB_here ?_
    | (refine inB_past ?_ ?_; (· exact rfl))
    | refine Holds.reg ?_
    | refine Holds.block ?_
    | refine GS.nil ?_
    | (refine GS.step (s' := ?_) ?_ ?_ ?_; rotate_left; (· exact rfl); (· (simp [go_sem, List.take_of_length_le] <;> with_reducible rfl)))
    | (refine GS.skip ?_ ?_ ?_; (· exact rfl); (· exact rfl))
    | fail
  refine GS.fnn [] (toRuleSO x.2.2 h0 h1) rfl rfl rfl rfl (by simp [go_sem, List.take_of_length_le, ren, ren1, ren2, okr, okr1, okr2, ChkN, BlkN, List.range_succ, nf, grammarC] <;> with_reducible rfl) (by simp [go_sem, List.take_of_length_le, ren, ren1, ren2, okr, okr1, okr2, ChkN, BlkN, List.range_succ, nf, grammarC]) (by simp [go_sem, List.take_of_length_le, ren, ren1, ren2, okr, okr1, okr2, ChkN, BlkN, List.range_succ, nf, grammarC]) (by simp [List.range_succ, lb]) (ChkN.toB (by simp [go_sem, List.take_of_length_le, ren, ren1, ren2, okr, okr1, okr2, ChkN, BlkN, List.range_succ, nf, grammarC])) (by decide) (by simp) rfl (.nfr (by simp) .nil) (by simp [go_sem, List.take_of_length_le, ren, ren1, ren2, okr, okr1, okr2, ChkN, BlkN, List.range_succ, nf, grammarC] <;> with_reducible rfl) ?_
  repeat' first
    | refine Holds.seq ?_
    | refine Holds.skip ?_
    | refine Holds.exit ?_
    | refine Holds.ret ?_
    | refine thenA_normal ?_
    | refine thenA_exit ?_
    | refine thenA_ret ?_
    | refine inB_normal ?_
    | refine inB_ret ?_
    | refine inB_here ?_
    | (refine inB_past ?_ ?_; (· exact rfl))
    | refine Holds.reg ?_
    | refine Holds.block ?_
    | refine GS.nil ?_
    | (refine GS.step (s' := ?_) ?_ ?_ ?_; rotate_left; (· exact rfl); (· (simp [go_sem, List.take_of_length_le] <;> with_reducible rfl)))
    | (refine GS.skip ?_ ?_ ?_; (· exact rfl); (· exact rfl))
    | fail
  refine OutF.mkn (xs := ?_) (nm [3]) ?_ ?_ ?_ ?_ ?_ (by first | exact .inr rfl | exact .inl rfl)
  rotate_left
  · simp [go_sem, List.take_of_length_le, grammarC] <;> with_reducible rfl
  · simp [go_sem, List.take_of_length_le, ren, ren1, ren2, okr, okr1, okr2, ChkN, BlkN, List.range_succ, nf, grammarC]
  · simp [go_sem, List.take_of_length_le, ren, ren1, ren2, okr, okr1, okr2, ChkN, BlkN, List.range_succ, nf, grammarC]
  · simp [go_sem, List.take_of_length_le, ren, ren1, ren2, okr, okr1, okr2, ChkN, BlkN, List.range_succ, nf, grammarC]
  · rfl
def wGrammar (x : GrammarT) : Nat := wtL wRule x.2.2
def mGrammar (k : Int) (x : GrammarT) : GrammarT := (x.1, x.2.1, mkL wRule mRule (k) x.2.2)
theorem markGrammar (x : GrammarT) (k : Int) (h0 : 0 ≤ k) (h1 : k + wGrammar x ≤ 4611686018427387904) (g20 : x.2.2.length ≤ 4611686018427387904) : Fn Try.prog 22 1 [.ag [.v (.int .i64 x.1), .v (.int .i64 x.2.1), .own 0 2 0 (x.2.2).length], .v (.int .i64 k)] [(0, ⟨60, 2, rulesO x.2.2⟩)] (.v (.int .i64 (k + wGrammar x))) 1 [(0, ⟨60, 2, rulesO (mGrammar k x).2.2⟩)] := by
  simp only [wGrammar] at h1
  simp only [wGrammar, mGrammar]
  refine Fn.mk (rs := [.tmp 4]) (nt := 10) Try.func22 (by kernel_rfl) rfl rfl rfl (by simp) ?_
  simp only [sl]
  repeat' first
    | refine Holds.seq ?_
    | refine Holds.skip ?_
    | refine Holds.exit ?_
    | refine Holds.ret ?_
    | refine thenA_normal ?_
    | refine thenA_exit ?_
    | refine thenA_ret ?_
    | refine inB_normal ?_
    | refine inB_ret ?_
    | refine inB_here ?_
    | (refine inB_past ?_ ?_; (· exact rfl))
    | refine Holds.reg ?_
    | refine Holds.block ?_
    | refine GS.nil ?_
    | (refine GS.step (s' := ?_) ?_ ?_ ?_; rotate_left; (· exact rfl); (· (simp [go_sem, List.take_of_length_le] <;> with_reducible rfl)))
    | (refine GS.skip ?_ ?_ ?_; (· exact rfl); (· exact rfl))
    | fail
  refine GS.fnn [0] (markRuleS x.2.2 (k) (by omega) (by omega) g20) rfl rfl rfl rfl (by simp [go_sem, List.take_of_length_le, ren, ren1, ren2, okr, okr1, okr2, ChkN, BlkN, List.range_succ, nf] <;> with_reducible rfl) (by simp [go_sem, List.take_of_length_le, ren, ren1, ren2, okr, okr1, okr2, ChkN, BlkN, List.range_succ, nf]) (by simp [go_sem, List.take_of_length_le, ren, ren1, ren2, okr, okr1, okr2, ChkN, BlkN, List.range_succ, nf]) (by simp [List.range_succ, lb]) (ChkN.toB (by simp [go_sem, List.take_of_length_le, ren, ren1, ren2, okr, okr1, okr2, ChkN, BlkN, List.range_succ, nf])) (by decide) (by simp) rfl (.nfr (by simp) .nil) (by simp [go_sem, List.take_of_length_le, ren, ren1, ren2, okr, okr1, okr2, ChkN, BlkN, List.range_succ, nf] <;> with_reducible rfl) ?_
  repeat' first
    | refine Holds.seq ?_
    | refine Holds.skip ?_
    | refine Holds.exit ?_
    | refine Holds.ret ?_
    | refine thenA_normal ?_
    | refine thenA_exit ?_
    | refine thenA_ret ?_
    | refine inB_normal ?_
    | refine inB_ret ?_
    | refine inB_here ?_
    | (refine inB_past ?_ ?_; (· exact rfl))
    | refine Holds.reg ?_
    | refine Holds.block ?_
    | refine GS.nil ?_
    | (refine GS.step (s' := ?_) ?_ ?_ ?_; rotate_left; (· exact rfl); (· (simp [go_sem, List.take_of_length_le] <;> with_reducible rfl)))
    | (refine GS.skip ?_ ?_ ?_; (· exact rfl); (· exact rfl))
    | fail
  refine OutF.mkn (xs := ?_) (nm [0]) ?_ ?_ ?_ ?_ ?_ (by first | exact .inr rfl | exact .inl rfl)
  rotate_left
  · simp [go_sem, List.take_of_length_le, Int.add_assoc, cnt] <;> with_reducible rfl
  · simp [go_sem, List.take_of_length_le, ren, ren1, ren2, okr, okr1, okr2, ChkN, BlkN, List.range_succ, nf, Int.add_assoc, cnt]
  · simp [go_sem, List.take_of_length_le, ren, ren1, ren2, okr, okr1, okr2, ChkN, BlkN, List.range_succ, nf, Int.add_assoc, cnt]
  · simp [go_sem, List.take_of_length_le, ren, ren1, ren2, okr, okr1, okr2, ChkN, BlkN, List.range_succ, nf, Int.add_assoc, cnt]
  · rfl
end Go.Proofs.Ytabdnpgahdbciaa.En
end
section
namespace Go.Proofs.Ytabdnpgahdbciaa.En
open Go.RowKit
set_option linter.unusedSimpArgs false
set_option linter.unusedVariables false
theorem less_wt {n : Int} {k : Nat} (h : 0 ≤ less n k) : less n k + (k : Int) ≤ n := by
  unfold less at h ⊢
  split at h
  · omega
  · rename_i g; rw [if_neg g]; omega
theorem szL_wt {α : Type} {f : Int → α → Int} {w : α → Nat} (hf : ∀ n x, 0 ≤ f n x → f n x + (w x : Int) ≤ n) : ∀ (es : List α) (n : Int), 0 ≤ szL f n es → szL f n es + (wtL w es : Int) ≤ n
  | [], n, h => by simp [szL, wtL]
  | e :: es, n, h => by
    unfold szL at h ⊢
    split at h
    · omega
    · rename_i g
      rw [if_neg g]
      have h1 := hf n e (by omega)
      have h2 := szL_wt hf es _ h
      simp only [wtL]; omega
theorem szLA_wt {α : Type} {f : Int → α → Int} {w : α → Nat} (hf : ∀ n x, 0 ≤ f n x → f n x + (w x : Int) ≤ n) {es : List α} {n : Int} (h : 0 ≤ szLA f n es) : szLA f n es + (es.length : Int) + (wtL w es : Int) ≤ n := by
  unfold szLA at h ⊢
  split at h
  · omega
  · rename_i g
    rw [if_neg g]
    have := szL_wt hf es _ h
    omega
theorem wtL_add {α : Type} (u v : α → Nat) : ∀ es : List α, wtL (fun x => u x + v x) es = wtL u es + wtL v es
  | [] => rfl
  | e :: es => by simp only [wtL, wtL_add u v es]; omega
theorem wtL_const {α : Type} (c : Nat) : ∀ es : List α, wtL (fun _ => c) es = c * es.length
  | [] => rfl
  | e :: es => by simp only [wtL, wtL_const c es, List.length_cons, Nat.mul_succ]; omega
theorem szGrammar_wt {n : Int} {g : GrammarT} (h : 0 ≤ szGrammarF n g) : (wGrammar g : Int) ≤ n := by
  unfold szGrammarF at h
  have := szLA_wt (f := szRuleF) (w := fun x => x.2.length) (fun n x hx => less_wt hx) h
  have e : wGrammar g = g.2.2.length + wtL (fun x : RuleT => x.2.length) g.2.2 := by
    unfold wGrammar
    rw [show wRule = fun x : RuleT => (fun _ => 1) x + (fun y : RuleT => y.2.length) x from funext fun x => by simp [wRule], wtL_add, wtL_const]; simp
  omega
end Go.Proofs.Ytabdnpgahdbciaa.En
end
section
namespace Go.Proofs.Ytabdnpgahdbciaa.En
open Go.RowKit
set_option linter.unusedSimpArgs false
set_option linter.unusedVariables false
@[simp] theorem nfr_nodes (l : List Node3) : nfr (nodes l) := nfr_of_ok (nodes_ok l)
@[simp] theorem nfr_edges (l : List Edge3) : nfr (edges l) := nfr_of_ok (edges_ok l)
abbrev ForestT := List Node3 × List Edge3
def forestC (x : ForestT) : List AV := [.im 3 (nodes x.1), .im 3 (edges x.2)]
def szForestF (n : Int) (x : ForestT) : Int := szF n x.1 x.2
theorem szForestF_in {n : Int} {x : ForestT} (h1 : n ≤ 1048576) : -1 ≤ szForestF n x ∧ szForestF n x ≤ 1048576 := by
  unfold szForestF szF
  have := less_in (k := x.1.length) h1
  split
  · omega
  · exact szEsAll_in _ this.1 this.2
end Go.Proofs.Ytabdnpgahdbciaa.En
end
section
namespace Go.Proofs.Ytabdnpgahdbciaa.En
open Go.RowKit
set_option linter.unusedSimpArgs false
set_option linter.unusedVariables false
set_option maxHeartbeats 4000000
def wNode (x : Node3) : Nat := 1 + 1 + 1
def mNode (k : Int) (x : Node3) : Node3 := ((k), (k + 1), (k + 1 + 1))
theorem wNode_m (k : Int) (x : Node3) : wNode (mNode k x) = wNode x := by simp [wNode, mNode]
@[simp] theorem onyR_nodes (l : List (Node3)) : onyR (nodes l) := fun row hr x hx => by
  have := nodes_ok l row hr x hx
  simp only [nodes, List.mem_map] at hr
  obtain ⟨n, _, rfl⟩ := hr
  simp only [nodeC, List.mem_cons, List.not_mem_nil, or_false] at hx
  rcases hx with rfl | rfl | rfl <;> simp
theorem fzw_nodes {bl : List (Nat × Blk)} {e : TypeId} (l : List (Node3)) : Fz bl (.ow e 3 (nodes l)) (.im 3 (nodes l)) := Fz.owI (nodes_ok l)
def wEdge (x : Edge3) : Nat := 1 + 1 + wtL w1 x.2.2
def mEdge (k : Int) (x : Edge3) : Edge3 := ((k), (k + 1), cnt (k + 1 + 1) x.2.2)
theorem wEdge_m (k : Int) (x : Edge3) : wEdge (mEdge k x) = wEdge x := by simp [wEdge, mEdge]
def edgeO (x : Edge3) : List AV := [.v (.int .i64 x.1), .v (.int .i64 x.2.1), .ow 3 1 (ints x.2.2)]
def edgesO (l : List Edge3) : List (List AV) := l.map edgeO
@[simp] theorem edgesO_len (l : List (Edge3)) : (edgesO l).length = l.length := by simp [edgesO]
@[simp] theorem edgesO_get (l : List (Edge3)) (i : Nat) : (edgesO l)[i]? = (l[i]?).map edgeO := by simp [edgesO]
@[simp] theorem edgesO_gE (l : List (Edge3)) (i : Nat) (h : i < (edgesO l).length) : (edgesO l)[i] = edgeO (l[i]'(by simpa using h)) := by simp [edgesO]
theorem edgesO_all (p : AV → Prop) (l : List (Edge3)) (h : ∀ x ∈ l, ∀ y ∈ edgeO x, p y) : ∀ row ∈ edgesO l, ∀ y ∈ row, p y := by
  intro row hr y hy
  simp only [edgesO, List.mem_map] at hr
  obtain ⟨n, hn, rfl⟩ := hr
  exact h n hn y hy
@[simp] theorem nfr_edgesO (l : List (Edge3)) : nfr (edgesO l) := edgesO_all _ l fun x _ y hy => by simp only [edgeO, List.mem_cons, List.not_mem_nil, or_false] at hy; rcases hy with rfl | rfl | rfl <;> rfl
@[simp] theorem onyR_edgesO (l : List (Edge3)) : onyR (edgesO l) := edgesO_all _ l fun x _ y hy => by simp only [edgeO, List.mem_cons, List.not_mem_nil, or_false] at hy; rcases hy with rfl | rfl | rfl <;> simp
theorem fz_edgesO {bl : List (Nat × Blk)} {n len : Nat} {e : TypeId} (l : List (Edge3)) (hk : lb bl n = some ⟨e, 3, edgesO l⟩) (hl : len = l.length) : Fz bl (.own n 3 0 len) (.im 3 (edges l)) := Fz.rowsO l edgeO edgeC hk rfl rfl (fun x _ => show FzL bl (edgeO x) (edgeC x) from by simp only [edgeO, edgeC]; exact .cons (.v _) (.cons (.v _) (.cons (Fz.owI (ints_cl _)) (.nil)))) hl
theorem fzw_edgesO {bl : List (Nat × Blk)} {e : TypeId} (l : List (Edge3)) : Fz bl (.ow e 3 (edgesO l)) (.im 3 (edges l)) := Fz.rowsW l edgeO edgeC (fun x _ => show FzL bl (edgeO x) (edgeC x) from by simp only [edgeO, edgeC]; exact .cons (.v _) (.cons (.v _) (.cons (Fz.owI (ints_cl _)) (.nil))))
def wForest (x : ForestT) : Nat := wtL wNode x.1 + wtL wEdge x.2
def mForest (k : Int) (x : ForestT) : ForestT := (mkL wNode mNode (k) x.1, mkL wEdge mEdge (k + wtL wNode x.1) x.2)
end Go.Proofs.Ytabdnpgahdbciaa.En
end
section
namespace Go.Proofs.Ytabdnpgahdbciaa.En
open Go.RowKit
set_option linter.unusedSimpArgs false
set_option linter.unusedVariables false
set_option maxHeartbeats 4000000
/-- The first place of n (from k on), -1 where there is none. -/
def fstX {α : Type} [DecidableEq α] : List α → α → Nat → Int
  | [], _, _ => -1
  | x :: xs, n, k => if x = n then (k : Int) else fstX xs n (k + 1)
theorem fstX_at {α : Type} [DecidableEq α] {n : α} : ∀ (xs : List α) (i k : Nat), xs[i]? = some n → (∀ j, j < i → ∀ x, xs[j]? = some x → x ≠ n) → fstX xs n k = ((k + i : Nat) : Int)
  | [], i, k, h, _ => by simp at h
  | x :: xs, 0, k, h, _ => by simp at h; simp [fstX, h]
  | x :: xs, i + 1, k, h, hno => by
    have h0 : x ≠ n := hno 0 (by omega) x (by simp)
    unfold fstX
    rw [if_neg h0, fstX_at xs i (k + 1) (by simpa using h) fun j hj y hy => hno (j + 1) (by omega) y (by simpa using hy)]
    congr 1; omega
theorem fstX_no {α : Type} [DecidableEq α] {n : α} : ∀ (xs : List α) (k : Nat), n ∉ xs → fstX xs n k = -1
  | [], k, _ => rfl
  | x :: xs, k, h => by
    unfold fstX
    rw [if_neg (fun e => h (by simp [e])), fstX_no xs (k + 1) fun g => h (.tail _ g)]
theorem fstX_in {α : Type} [DecidableEq α] (n : α) : ∀ (xs : List α) (k : Nat), -1 ≤ fstX xs n k ∧ fstX xs n k ≤ (k : Int) + xs.length
  | [], k => by simp [fstX]
  | x :: xs, k => by
    unfold fstX
    have := fstX_in n xs (k + 1)
    split <;> simp only [List.length_cons] <;> omega
theorem not_memX {α : Type} {xs : List α} {n : α} (h : ∀ (i : Nat) (x : α), xs[i]? = some x → x ≠ n) : n ∉ xs := fun hm => by
  obtain ⟨i, hi⟩ := List.mem_iff_getElem?.1 hm
  exact h i n hi rfl
/-- The nodes of a rule's nonterminals between the cuts. -/
def nodesK (cuts : List Int) : Nat → List Int → List Node3
  | _, [] => []
  | k, x :: xs => if x < 0 then nodesK cuts (k + 1) xs else (x, cuts.getD k 0, cuts.getD (k + 1) 0) :: nodesK cuts (k + 1) xs
def findK (ns : List Node3) : List Node3 → List Int → Option (List Int)
  | [], acc => some acc
  | x :: xs, acc => if fstX ns x 0 < 0 then none else findK ns xs (acc ++ [fstX ns x 0])
theorem nodesK_drop {cuts right : List Int} {k : Nat} {x : Int} (h : right[k]? = some x) : nodesK cuts k (right.drop k) = if x < 0 then nodesK cuts (k + 1) (right.drop (k + 1)) else (x, cuts.getD k 0, cuts.getD (k + 1) 0) :: nodesK cuts (k + 1) (right.drop (k + 1)) := by
  obtain ⟨hk, e⟩ := List.getElem?_eq_some_iff.1 h
  rw [List.drop_eq_getElem_cons hk, e, nodesK]
theorem findK_drop {ns ks : List Node3} {k : Nat} {x : Node3} (acc : List Int) (h : ks[k]? = some x) : findK ns (ks.drop k) acc = if fstX ns x 0 < 0 then none else findK ns (ks.drop (k + 1)) (acc ++ [fstX ns x 0]) := by
  obtain ⟨hk, e⟩ := List.getElem?_eq_some_iff.1 h
  rw [List.drop_eq_getElem_cons hk, e, findK]
theorem nodesK_len (cuts : List Int) : ∀ (xs : List Int) (k : Nat), (nodesK cuts k xs).length ≤ xs.length
  | [], k => by simp [nodesK]
  | x :: xs, k => by
    unfold nodesK
    have := nodesK_len cuts xs (k + 1)
    split <;> simp only [List.length_cons] <;> omega
theorem findK_len (ns : List Node3) : ∀ (ks : List Node3) (acc l : List Int), findK ns ks acc = some l → l.length = acc.length + ks.length
  | [], acc, l, h => by cases h; simp
  | x :: xs, acc, l, h => by
    unfold findK at h
    split at h
    · cases h
    · have := findK_len ns xs _ l h
      simp only [List.length_append, List.length_cons, List.length_nil] at this ⊢
      omega
def ruleE (g : GrammarT) (e : Edge3) : RuleT := g.2.2.getD e.2.1.toNat (0, [])
def kidsE (g : GrammarT) (f : ForestT) (e : Edge3) : List Int × Bool :=
  if inR e.2.1 0 ((g.2.2.length : Int) - 1) && decide (e.2.2.length = (ruleE g e).2.length + 1) then
    match findK f.1 (nodesK e.2.2 0 (ruleE g e).2) [] with
    | some l => (l, true)
    | none => ([], false)
  else ([], false)
def childV (g : GrammarT) (f : ForestT) (edge : Int) : List Int × Bool :=
  if goodG g && (decide (f.1.length ≤ 600) && decide (f.2.length ≤ 600)) && inR edge 0 ((f.2.length : Int) - 1) then kidsE g f (f.2.getD edge.toNat (0, 0, [])) else ([], false)
theorem good_r4 {g : GrammarT} (h : goodG g = true) {i : Nat} {r : RuleT} (hr : g.2.2[i]? = some r) : g.2.2.length ≤ 16 ∧ r.2.length ≤ 4 := by
  obtain ⟨hk, e⟩ := List.getElem?_eq_some_iff.1 hr
  simp only [goodG, Bool.and_eq_true, decide_eq_true_eq] at h
  refine ⟨h.1.2, ?_⟩
  have ha : goodAtG g i = true := by
    cases e : goodAtG g i with
    | true => rfl
    | false => have := h.2; rw [allB_no hk e] at this; cases this
  have hd : g.2.2.getD i (0, []) = r := by rw [List.getD_eq_getElem?_getD, hr]; rfl
  simp only [goodAtG, hd, Bool.and_eq_true, decide_eq_true_eq] at ha
  exact ha.1.1.2
theorem kidsE_len {g : GrammarT} (h : goodG g = true) (f : ForestT) (e : Edge3) : (kidsE g f e).1.length ≤ 4 := by
  unfold kidsE
  split
  · rename_i hc
    have hr : (ruleE g e).2.length ≤ 4 := by
      unfold ruleE
      rw [List.getD_eq_getElem?_getD]
      cases hx : g.2.2[e.2.1.toNat]? with
      | none => simp
      | some r => exact (good_r4 h hx).2
    split
    · rename_i l hl
      have h1 := findK_len _ _ _ _ hl
      have h2 := nodesK_len e.2.2 (ruleE g e).2 0
      simp only [List.length_nil] at h1
      dsimp only; omega
    · simp
  · simp
theorem childV_len (g : GrammarT) (f : ForestT) (edge : Int) : (childV g f edge).1.length ≤ 4 := by
  unfold childV
  split
  · rename_i h
    simp only [Bool.and_eq_true] at h
    exact kidsE_len h.1.1 f _
  · simp
end Go.Proofs.Ytabdnpgahdbciaa.En
end
section
namespace Go.Proofs.Ytabdnpgahdbciaa.En
open Go.RowKit
set_option linter.unusedSimpArgs false
set_option linter.unusedVariables false
set_option maxHeartbeats 8000000
theorem nodes_snoc (l : List Node3) (x : Node3) : nodes l ++ [nodeC x] = nodes (l ++ [x]) := by simp [nodes]
end Go.Proofs.Ytabdnpgahdbciaa.En
end
section
namespace Go.Proofs.Ytabdnpgahdbciaa.En
open Go.RowKit
set_option linter.unusedSimpArgs false
set_option linter.unusedVariables false
set_option maxHeartbeats 8000000
def lessI (a b : Item3) : Bool := if a.2.2 = b.2.2 then (if a.1 = b.1 then decide (a.2.1 < b.2.1) else decide (a.1 < b.1)) else decide (a.2.2 < b.2.2)
theorem lessI_iff (a b : Item3) : lessI a b = true ↔ a.2.2 < b.2.2 ∨ (a.2.2 = b.2.2 ∧ (a.1 < b.1 ∨ (a.1 = b.1 ∧ a.2.1 < b.2.1))) := by
  unfold lessI
  split
  · split
    · simp only [decide_eq_true_eq]; omega
    · simp only [decide_eq_true_eq]; omega
  · simp only [decide_eq_true_eq]; omega
theorem lessI_irr (a : Item3) : lessI a a = false := by
  cases h : lessI a a with
  | false => rfl
  | true => rw [lessI_iff] at h; omega
theorem lessI_trans {a b c : Item3} (h : lessI a b = true) (k : lessI b c = true) : lessI a c = true := by
  rw [lessI_iff] at *; omega
theorem lessI_total {a b : Item3} (h : a ≠ b) (k : ¬ lessI a b = true) : lessI b a = true := by
  rw [lessI_iff] at *
  have : ¬ (a.1 = b.1 ∧ a.2.1 = b.2.1 ∧ a.2.2 = b.2.2) := fun ⟨e1, e2, e3⟩ => h (Prod.ext e1 (Prod.ext e2 e3))
  omega
def cutF (S : List Item3) (x : Item3) : Nat → Nat
  | 0 => 0
  | k + 1 => if lessI x (S.getD k (0, 0, 0)) then cutF S x k else k + 1
theorem cutF_le (S : List Item3) (x : Item3) : ∀ k, cutF S x k ≤ k
  | 0 => Nat.le_refl _
  | k + 1 => by unfold cutF; have := cutF_le S x k; split <;> omega
theorem cutF_hi (S : List Item3) (x : Item3) : ∀ k i, cutF S x k ≤ i → i < k → lessI x (S.getD i (0, 0, 0)) = true
  | 0, i, _, h => absurd h (Nat.not_lt_zero i)
  | k + 1, i, h1, h2 => by
    unfold cutF at h1
    split at h1
    · rename_i h
      by_cases e : i = k
      · subst e; exact h
      · exact cutF_hi S x k i h1 (by omega)
    · omega
theorem cutF_lo (S : List Item3) (x : Item3) : ∀ k, 0 < cutF S x k → lessI x (S.getD (cutF S x k - 1) (0, 0, 0)) = false
  | 0, h => absurd h (Nat.not_lt_zero 0)
  | k + 1, h => by
    unfold cutF at h ⊢
    split
    · rename_i g; rw [if_pos g] at h; exact cutF_lo S x k h
    · rename_i g; simpa using g
def cutI (S : List Item3) (x : Item3) : Nat := cutF S x S.length
def metI (S : List Item3) (x : Item3) : Bool := decide (0 < cutI S x) && decide (S.getD (cutI S x - 1) (0, 0, 0) = x)
def putI (S : List Item3) (x : Item3) : List Item3 := if metI S x then S else S.take (cutI S x) ++ [x] ++ S.drop (cutI S x)
def SortI (S : List Item3) : Prop := S.Pairwise fun a b => lessI a b = true
theorem sortI_at {S : List Item3} (h : SortI S) {i j : Nat} (hij : i < j) (hj : j < S.length) : lessI (S.getD i (0, 0, 0)) (S.getD j (0, 0, 0)) = true := by
  have := List.pairwise_iff_getElem.1 h i j (by omega) hj hij
  simpa [List.getD_eq_getElem?_getD, List.getElem?_eq_getElem (show i < S.length by omega), List.getElem?_eq_getElem hj] using this
theorem sortI_nodup {S : List Item3} (h : SortI S) : S.Nodup := h.imp fun {a b} hab e => by subst e; rw [lessI_irr] at hab; cases hab
theorem metI_iff {S : List Item3} (h : SortI S) (x : Item3) : metI S x = true ↔ x ∈ S := by
  have hle := cutF_le S x S.length
  constructor
  · intro hm
    simp only [metI, Bool.and_eq_true] at hm
    have h1 := of_decide_eq_true hm.1
    have h2 := of_decide_eq_true hm.2
    have hlt : cutI S x - 1 < S.length := by unfold cutI at h1 ⊢; omega
    rw [← h2, List.getD_eq_getElem?_getD, List.getElem?_eq_getElem hlt]
    exact List.getElem_mem hlt
  · intro hm
    obtain ⟨i, hi, e⟩ := List.mem_iff_getElem.1 hm
    have hgi : S.getD i (0, 0, 0) = x := by rw [List.getD_eq_getElem?_getD, List.getElem?_eq_getElem hi]; exact e
    have hlt : i < cutI S x := Nat.lt_of_not_le fun hge => by
      have := cutF_hi S x S.length i hge hi
      rw [hgi, lessI_irr] at this; cases this
    have h0 : 0 < cutI S x := by omega
    have hlo := cutF_lo S x S.length h0
    have he : i = cutI S x - 1 := by
      refine Classical.byContradiction fun hne => ?_
      have hlt2 : cutI S x - 1 < S.length := by unfold cutI at h0 ⊢; omega
      have := sortI_at h (show i < cutI S x - 1 by omega) hlt2
      rw [hgi] at this
      unfold cutI at this
      rw [this] at hlo; cases hlo
    simp only [metI, Bool.and_eq_true]
    exact ⟨decide_eq_true h0, decide_eq_true (by rw [← he]; exact hgi)⟩
theorem putI_sort {S : List Item3} (h : SortI S) (x : Item3) : SortI (putI S x) := by
  unfold putI
  split
  · exact h
  · rename_i hm
    have hx : x ∉ S := fun g => hm ((metI_iff h x).2 g)
    have hle : cutI S x ≤ S.length := cutF_le S x S.length
    have hlow : ∀ a ∈ S.take (cutI S x), lessI a x = true := fun a ha => by
      obtain ⟨i, hi, e⟩ := List.mem_iff_getElem.1 ha
      rw [List.length_take] at hi
      rw [List.getElem_take] at e
      have haS : a ∈ S := e ▸ List.getElem_mem _
      have hlo := cutF_lo S x S.length (show 0 < cutF S x S.length by unfold cutI at hi; omega)
      have hlt : cutI S x - 1 < S.length := by omega
      have hk : lessI (S.getD (cutI S x - 1) (0, 0, 0)) x = true := by
        refine lessI_total (fun e2 => hx ?_) (by unfold cutI; rw [hlo]; simp)
        rw [e2, List.getD_eq_getElem?_getD, List.getElem?_eq_getElem hlt]; exact List.getElem_mem hlt
      have hgi : S.getD i (0, 0, 0) = a := by rw [List.getD_eq_getElem?_getD, List.getElem?_eq_getElem (show i < S.length by omega)]; exact e
      by_cases e3 : i = cutI S x - 1
      · rw [← hgi, e3]; exact hk
      · rw [← hgi]; exact lessI_trans (sortI_at h (by omega) hlt) hk
    have hhigh : ∀ b ∈ S.drop (cutI S x), lessI x b = true := fun b hb => by
      obtain ⟨i, hi, e⟩ := List.mem_iff_getElem.1 hb
      rw [List.length_drop] at hi
      rw [List.getElem_drop] at e
      have := cutF_hi S x S.length (cutI S x + i) (by unfold cutI; omega) (by omega)
      rw [List.getD_eq_getElem?_getD, List.getElem?_eq_getElem (show cutI S x + i < S.length by omega)] at this
      rw [← e]; exact this
    rw [List.append_assoc]
    refine List.pairwise_append.2 ⟨h.sublist (List.take_sublist _ _), ?_, fun a ha b hb => ?_⟩
    · exact List.pairwise_cons.2 ⟨hhigh, h.sublist (List.drop_sublist _ _)⟩
    · rcases List.mem_append.1 hb with g | g
      · rw [List.mem_singleton] at g; subst g; exact hlow a ha
      · exact lessI_trans (hlow a ha) (hhigh b g)
theorem putI_R {S : List Item3} (h : SortI S) (x : Item3) : PutR S x (putI S x) := by
  have hs := putI_sort h x
  refine ⟨fun z => ?_, fun _ => sortI_nodup hs, fun hm => ?_, fun hm => ?_⟩
  · unfold putI
    split
    · rename_i g
      have := (metI_iff h x).1 g
      constructor
      · exact .inr
      · rintro (e | e)
        · rw [e]; exact this
        · exact e
    · simp only [List.mem_append, List.mem_singleton]
      constructor
      · rintro ((g | g) | g)
        · exact .inr (List.mem_of_mem_take g)
        · exact .inl g
        · exact .inr (List.mem_of_mem_drop g)
      · rintro (g | g)
        · exact .inl (.inr g)
        · rw [← List.take_append_drop (cutI S x) S] at g
          rcases List.mem_append.1 g with e | e
          · exact .inl (.inl e)
          · exact .inr e
  · unfold putI; rw [if_pos ((metI_iff h x).2 hm)]
  · unfold putI
    rw [if_neg (fun g => hm ((metI_iff h x).1 g))]
    have hle : cutI S x ≤ S.length := cutF_le S x S.length
    simp; omega
theorem metI_dec {S : List Item3} (h : SortI S) (x : Item3) : (!metI S x) = decide (x ∉ S) := by
  by_cases hm : x ∈ S
  · rw [(metI_iff h x).2 hm]; simp [hm]
  · have : metI S x = false := by cases e : metI S x with
      | false => rfl
      | true => exact absurd ((metI_iff h x).1 e) hm
    rw [this]; simp [hm]
/-! #### walks -/
theorem nodes_all (l : List Node3) (P : List AV → Prop) : (∀ x, x ∈ nodes l → P x) ↔ ∀ n, n ∈ l → P (nodeC n) := by
  simp only [nodes, List.mem_map]
  exact ⟨fun h n hn => h _ ⟨n, hn, rfl⟩, fun h x ⟨n, hn, e⟩ => e ▸ h n hn⟩
theorem nodes_app (a b : List Node3) : nodes a ++ nodes b = nodes (a ++ b) := by simp [nodes]
theorem nodes_take (l : List Node3) (k : Nat) : (nodes l).take k = nodes (l.take k) := by simp [nodes, List.map_take]
theorem nodes_drop (l : List Node3) (k : Nat) : (nodes l).drop k = nodes (l.drop k) := by simp [nodes, List.map_drop]
theorem eqItem3 : EqT Try.prog 56 3 := EqT.mk (by kernel_rfl) (by kernel_rfl) (by kernel_rfl) (by kernel_rfl) (by kernel_rfl)
theorem l13Less (a b : Item3) : Pure Try.prog 101 [.ag (nodeC a), .ag (nodeC b)] (.v (.bool (lessI a b))) := by
  refine Pure.mk (rs := [.tmp 4]) (nt := 30) Try.func101 (by kernel_rfl) rfl rfl rfl (by simp) ?_
  simp only [sl, nodeC]
  unfold lessI
  by_cases h1 : a.2.2 = b.2.2
  · have h1' : (a.2.2 != b.2.2) = false := by simp [h1]
    by_cases h2 : a.1 = b.1
    · have h2' : (a.1 != b.1) = false := by simp [h2]
      rw [if_pos h1, if_pos h2]
      repeat' first
        | (refine Holds.condT ?_ ?_; (· (simp [go_sem, List.take_of_length_le, nodeC, h1', h2'] <;> with_reducible rfl)))
        | (refine Holds.condF ?_ ?_; (· (simp [go_sem, List.take_of_length_le, nodeC, h1', h2'] <;> with_reducible rfl)))
        | refine Holds.seq ?_
        | refine Holds.skip ?_
        | refine Holds.exit ?_
        | refine Holds.ret ?_
        | refine thenA_normal ?_
        | refine thenA_exit ?_
        | refine thenA_ret ?_
        | refine inB_normal ?_
        | refine inB_ret ?_
        | refine inB_here ?_
        | (refine inB_past ?_ ?_; (· exact rfl))
        | refine Holds.reg ?_
        | refine Holds.block ?_
        | refine GS.nil ?_
        | (refine GS.step (s' := ?_) ?_ ?_ ?_; rotate_left; (· exact rfl); (· (simp [go_sem, List.take_of_length_le, nodeC, h1', h2'] <;> with_reducible rfl)))
        | (refine GS.skip ?_ ?_ ?_; (· exact rfl); (· exact rfl))
        | fail
      refine Out.mk (xs := ?_) ?_ ?_ (by first | exact .inr rfl | exact .inl rfl)
      rotate_left
      · simp [go_sem, List.take_of_length_le] <;> with_reducible rfl
      exact .v _
    · have h2' : (a.1 != b.1) = true := by simp [h2]
      rw [if_pos h1, if_neg h2]
      repeat' first
        | (refine Holds.condT ?_ ?_; (· (simp [go_sem, List.take_of_length_le, nodeC, h1', h2'] <;> with_reducible rfl)))
        | (refine Holds.condF ?_ ?_; (· (simp [go_sem, List.take_of_length_le, nodeC, h1', h2'] <;> with_reducible rfl)))
        | refine Holds.seq ?_
        | refine Holds.skip ?_
        | refine Holds.exit ?_
        | refine Holds.ret ?_
        | refine thenA_normal ?_
        | refine thenA_exit ?_
        | refine thenA_ret ?_
        | refine inB_normal ?_
        | refine inB_ret ?_
        | refine inB_here ?_
        | (refine inB_past ?_ ?_; (· exact rfl))
        | refine Holds.reg ?_
        | refine Holds.block ?_
        | refine GS.nil ?_
        | (refine GS.step (s' := ?_) ?_ ?_ ?_; rotate_left; (· exact rfl); (· (simp [go_sem, List.take_of_length_le, nodeC, h1', h2'] <;> with_reducible rfl)))
        | (refine GS.skip ?_ ?_ ?_; (· exact rfl); (· exact rfl))
        | fail
      refine Out.mk (xs := ?_) ?_ ?_ (by first | exact .inr rfl | exact .inl rfl)
      rotate_left
      · simp [go_sem, List.take_of_length_le] <;> with_reducible rfl
      exact .v _
  · have h1' : (a.2.2 != b.2.2) = true := by simp [h1]
    rw [if_neg h1]
    repeat' first
      | (refine Holds.condT ?_ ?_; (· (simp [go_sem, List.take_of_length_le, nodeC, h1'] <;> with_reducible rfl)))
      | (refine Holds.condF ?_ ?_; (· (simp [go_sem, List.take_of_length_le, nodeC, h1'] <;> with_reducible rfl)))
      | refine Holds.seq ?_
      | refine Holds.skip ?_
      | refine Holds.exit ?_
      | refine Holds.ret ?_
      | refine thenA_normal ?_
      | refine thenA_exit ?_
      | refine thenA_ret ?_
      | refine inB_normal ?_
      | refine inB_ret ?_
      | refine inB_here ?_
      | (refine inB_past ?_ ?_; (· exact rfl))
      | refine Holds.reg ?_
      | refine Holds.block ?_
      | refine GS.nil ?_
      | (refine GS.step (s' := ?_) ?_ ?_ ?_; rotate_left; (· exact rfl); (· (simp [go_sem, List.take_of_length_le, nodeC, h1'] <;> with_reducible rfl)))
      | (refine GS.skip ?_ ?_ ?_; (· exact rfl); (· exact rfl))
      | fail
    refine Out.mk (xs := ?_) ?_ ?_ (by first | exact .inr rfl | exact .inl rfl)
    rotate_left
    · simp [go_sem, List.take_of_length_le] <;> with_reducible rfl
    exact .v _
theorem l13Put (S : List Item3) (x : Item3) (hS : S.length ≤ 4000) : Pure Try.prog 77 [.im 3 (nodes S), .ag (nodeC x)] (.tu [.im 3 (nodes (putI S x)), .v (.bool (!metI S x))]) := by
  refine Pure.mk (rs := [.tmp 4, .tmp 5]) (nt := 52) Try.func77 (by kernel_rfl) rfl rfl rfl (by simp) ?_
  simp only [sl, nodeC]
  repeat' first
    | (refine Holds.condT ?_ ?_; (· (simp [go_sem, List.take_of_length_le] <;> with_reducible rfl)))
    | (refine Holds.condF ?_ ?_; (· (simp [go_sem, List.take_of_length_le] <;> with_reducible rfl)))
    | refine Holds.seq ?_
    | refine Holds.skip ?_
    | refine Holds.exit ?_
    | refine Holds.ret ?_
    | refine thenA_normal ?_
    | refine thenA_exit ?_
    | refine thenA_ret ?_
    | refine inB_normal ?_
    | refine inB_ret ?_
    | refine inB_here ?_
    | (refine inB_past ?_ ?_; (· exact rfl))
    | refine Holds.reg ?_
    | refine Holds.block ?_
    | refine GS.nil ?_
    | refine Gd.nil ?_
    | (refine Holds.any mixed ?_ ?_; (· kernel_rfl))
    | (refine GS.step (s' := ?_) ?_ ?_ ?_; rotate_left; (· exact rfl); (· (simp [go_sem, List.take_of_length_le] <;> with_reducible rfl)))
    | (refine GS.skip ?_ ?_ ?_; (· exact rfl); (· exact rfl))
    | (refine Gd.go (s' := ?_) ?_ ?_ ?_; rotate_left; (· exact rfl); (· (simp [go_sem, List.take_of_length_le] <;> with_reducible rfl)))
    | (refine Gd.skip ?_ ?_ ?_; (· exact rfl); (· exact rfl))
    | fail
  refine Holds.loop (ι := Nat) (fun k => ⟨[(0, .im 3 (nodes S)), (3, .pb 0 3 0 0), (6, .v (.int .i64 k))], [(0, ⟨56, 3, [nodeC x]⟩)], 1⟩)
    (fun k => k ≤ S.length ∧ cutF S x k = cutI S x) (fun k => k) S.length ⟨Nat.le_refl _, rfl⟩ ?_ ?_
  · exact Cov.ofn (id) rfl (by simp [go_sem, List.take_of_length_le, ren, ren1, ren2, okr, okr1, okr2, ChkT, ChkN, BlkN, nf, nodeC]) (by simp [go_sem, List.take_of_length_le, ren, ren1, ren2, okr, okr1, okr2, ChkT, ChkN, BlkN, nf, nodeC])
  rintro k ⟨hk, hc⟩
  have hm1 : wr64 ((k : Int) - 1) = (k : Int) - 1 := wr64_id (by omega) (by omega)
  have exitC : (k = 0 ∨ (0 < k ∧ lessI x (S.getD (k - 1) (0, 0, 0)) = false)) → cutI S x = k := by
    rintro (e | ⟨e1, e2⟩)
    · subst e; rw [← hc]; rfl
    · obtain ⟨q, rfl⟩ : ∃ q, k = q + 1 := ⟨k - 1, by omega⟩
      rw [← hc, cutF, if_neg (by simpa using e2)]
  have hk0 : (0 : Int) ≤ k := by omega
  have hb0 : ∀ n : Nat, n ≤ 8001 → n * 24 ≤ 140737488355328 := fun n hn => by omega
  cases k with
  | zero =>
    have e := exitC (.inl rfl)
    have hp : putI S x = [x] ++ S := by unfold putI metI; rw [e]; simp
    have hme : metI S x = false := by unfold metI; rw [e]; simp
    rw [hme, hp]
    have hb1 := hb0 S.length (by omega)
    have hb2 := hb0 (S.length + 1) (by omega)
    have hb3 := hb0 (1 + S.length) (by omega)
    repeat' first
      | (refine Holds.condT ?_ ?_; (· (simp [go_sem, List.take_of_length_le] <;> with_reducible rfl)))
      | (refine Holds.condF ?_ ?_; (· (simp [go_sem, List.take_of_length_le] <;> with_reducible rfl)))
      | refine Holds.seq ?_
      | refine Holds.skip ?_
      | refine Holds.exit ?_
      | refine Holds.ret ?_
      | refine thenA_normal ?_
      | refine thenA_exit ?_
      | refine thenA_ret ?_
      | refine inB_normal ?_
      | refine inB_ret ?_
      | refine inB_here ?_
      | (refine inB_past ?_ ?_; (· exact rfl))
      | refine Holds.reg ?_
      | refine Holds.block ?_
      | refine GS.nil ?_
      | refine Gd.nil ?_
      | (refine GS.step (s' := ?_) ?_ ?_ ?_; rotate_left; (· exact rfl); (· (simp [go_sem, List.take_of_length_le] <;> with_reducible rfl)))
      | (refine GS.skip ?_ ?_ ?_; (· exact rfl); (· exact rfl))
      | (refine Gd.go (s' := ?_) ?_ ?_ ?_; rotate_left; (· exact rfl); (· (simp [go_sem, List.take_of_length_le] <;> with_reducible rfl)))
      | (refine Gd.skip ?_ ?_ ?_; (· exact rfl); (· exact rfl))
      | fail
    (refine Holds.any mixed ?_ ?_; (· kernel_rfl))
    repeat' first
      | (refine Holds.condT ?_ ?_; (· (simp [go_sem, List.take_of_length_le] <;> with_reducible rfl)))
      | (refine Holds.condF ?_ ?_; (· (simp [go_sem, List.take_of_length_le] <;> with_reducible rfl)))
      | refine Holds.seq ?_
      | refine Holds.skip ?_
      | refine Holds.exit ?_
      | refine Holds.ret ?_
      | refine thenA_normal ?_
      | refine thenA_exit ?_
      | refine thenA_ret ?_
      | refine inB_normal ?_
      | refine inB_ret ?_
      | refine inB_here ?_
      | (refine inB_past ?_ ?_; (· exact rfl))
      | refine Holds.reg ?_
      | refine Holds.block ?_
      | refine GS.nil ?_
      | refine Gd.nil ?_
      | (refine GS.step (s' := ?_) ?_ ?_ ?_; rotate_left; (· exact rfl); (· (simp [go_sem, List.take_of_length_le] <;> with_reducible rfl)))
      | (refine GS.skip ?_ ?_ ?_; (· exact rfl); (· exact rfl))
      | (refine Gd.go (s' := ?_) ?_ ?_ ?_; rotate_left; (· exact rfl); (· (simp [go_sem, List.take_of_length_le] <;> with_reducible rfl)))
      | (refine Gd.skip ?_ ?_ ?_; (· exact rfl); (· exact rfl))
      | fail
    (refine Holds.any mixed ?_ ?_; (· kernel_rfl))
    repeat' first
      | (refine Holds.condT ?_ ?_; (· (simp [go_sem, List.take_of_length_le, hb1, hb2, nodes_all, nodeC] <;> with_reducible rfl)))
      | (refine Holds.condF ?_ ?_; (· (simp [go_sem, List.take_of_length_le, hb1, hb2, nodes_all, nodeC] <;> with_reducible rfl)))
      | refine Holds.seq ?_
      | refine Holds.skip ?_
      | refine Holds.exit ?_
      | refine Holds.ret ?_
      | refine thenA_normal ?_
      | refine thenA_exit ?_
      | refine thenA_ret ?_
      | refine inB_normal ?_
      | refine inB_ret ?_
      | refine inB_here ?_
      | (refine inB_past ?_ ?_; (· exact rfl))
      | refine Holds.reg ?_
      | refine Holds.block ?_
      | refine GS.nil ?_
      | refine Gd.nil ?_
      | (refine GS.step (s' := ?_) ?_ ?_ ?_; rotate_left; (· exact rfl); (· (simp [go_sem, List.take_of_length_le, hb1, hb2, nodes_all, nodeC] <;> with_reducible rfl)))
      | (refine GS.skip ?_ ?_ ?_; (· exact rfl); (· exact rfl))
      | (refine Gd.go (s' := ?_) ?_ ?_ ?_; rotate_left; (· exact rfl); (· (simp [go_sem, List.take_of_length_le, hb1, hb2, nodes_all, nodeC] <;> with_reducible rfl)))
      | (refine Gd.skip ?_ ?_ ?_; (· exact rfl); (· exact rfl))
      | fail
    refine Holds.anx [0, 4, 1007] [1, 2, 3, 5, 2006] (fun n => decide (3 ≤ n)) mixed ?_ ?_ ?_; (· kernel_rfl); (· kernel_rfl)
    repeat' first
      | (refine Holds.condT ?_ ?_; (· (simp [go_sem, List.take_of_length_le, nodeC] <;> with_reducible rfl)))
      | (refine Holds.condF ?_ ?_; (· (simp [go_sem, List.take_of_length_le, nodeC] <;> with_reducible rfl)))
      | refine Holds.seq ?_
      | refine Holds.skip ?_
      | refine Holds.exit ?_
      | refine Holds.ret ?_
      | refine thenA_normal ?_
      | refine thenA_exit ?_
      | refine thenA_ret ?_
      | refine inB_normal ?_
      | refine inB_ret ?_
      | refine inB_here ?_
      | (refine inB_past ?_ ?_; (· exact rfl))
      | refine Holds.reg ?_
      | refine Holds.block ?_
      | refine GS.nil ?_
      | refine Gd.nil ?_
      | (refine GS.step (s' := ?_) ?_ ?_ ?_; rotate_left; (· exact rfl); (· (simp [go_sem, List.take_of_length_le, nodeC] <;> with_reducible rfl)))
      | (refine GS.skip ?_ ?_ ?_; (· exact rfl); (· exact rfl))
      | (refine Gd.go (s' := ?_) ?_ ?_ ?_; rotate_left; (· exact rfl); (· (simp [go_sem, List.take_of_length_le, nodeC] <;> with_reducible rfl)))
      | (refine Gd.skip ?_ ?_ ?_; (· exact rfl); (· exact rfl))
      | refine Gx.nil ?_
      | (refine Gx.go (s' := ?_) rfl ?_ ?_ ?_; rotate_left; (· exact rfl); (· (simp [go_sem, List.take_of_length_le, nodeC] <;> with_reducible rfl)))
      | (refine Gx.skip rfl ?_ ?_ ?_; (· exact rfl); (· exact rfl))
      | (refine Gx.skipO rfl ?_ ?_ ?_; (· exact rfl); (· exact rfl))
      | (refine Gx.wo (s' := ?_) rfl ?_ ?_ ?_; rotate_left; (· exact rfl); (· (simp [go_sem, List.take_of_length_le, nodeC] <;> with_reducible rfl)))
      | (refine Gx.skipW rfl ?_ ?_ ?_; (· exact rfl); (· exact rfl))
      | (refine Gx.skipH rfl ?_ ?_ ?_; (· exact rfl); (· exact rfl))
      | (refine Gx.hid (r := ?_) rfl ?_ ?_ ?_ ?_; rotate_left; (· exact rfl); (· exact rfl); (· (simp [go_sem, List.take_of_length_le, nodeC] <;> with_reducible rfl)))
      | (refine Gx.wr (s' := ?_) rfl ?_ ?_ ?_ ?_; rotate_left; (· exact rfl); (· (simp [go_sem, List.take_of_length_le, nodeC] <;> with_reducible rfl)); (· (simp [go_sem, List.take_of_length_le, nodeC])))
      | fail
    refine Gx.bs (sz := 3) (e := 56) (rows := [nodeC x]) [(46, .ag (nodeC x))] rfl rfl rfl rfl rfl (by simp [go_sem, List.take_of_length_le, Op.operands, cl, cl1, nodeC]) (by simp [go_sem, List.take_of_length_le, Op.operands, cl, cl1, nodeC]) (by simp [go_sem, List.take_of_length_le, Op.operands, cl, cl1, nodeC]) ?_
    repeat' first
      | (refine Holds.condT ?_ ?_; (· (simp [go_sem, List.take_of_length_le, nodeC, hb3, nodes_all] <;> with_reducible rfl)))
      | (refine Holds.condF ?_ ?_; (· (simp [go_sem, List.take_of_length_le, nodeC, hb3, nodes_all] <;> with_reducible rfl)))
      | refine Holds.seq ?_
      | refine Holds.skip ?_
      | refine Holds.exit ?_
      | refine Holds.ret ?_
      | refine thenA_normal ?_
      | refine thenA_exit ?_
      | refine thenA_ret ?_
      | refine inB_normal ?_
      | refine inB_ret ?_
      | refine inB_here ?_
      | (refine inB_past ?_ ?_; (· exact rfl))
      | refine Holds.reg ?_
      | refine Holds.block ?_
      | refine GS.nil ?_
      | refine Gd.nil ?_
      | (refine GS.step (s' := ?_) ?_ ?_ ?_; rotate_left; (· exact rfl); (· (simp [go_sem, List.take_of_length_le, nodeC, hb3, nodes_all] <;> with_reducible rfl)))
      | (refine GS.skip ?_ ?_ ?_; (· exact rfl); (· exact rfl))
      | (refine Gd.go (s' := ?_) ?_ ?_ ?_; rotate_left; (· exact rfl); (· (simp [go_sem, List.take_of_length_le, nodeC, hb3, nodes_all] <;> with_reducible rfl)))
      | (refine Gd.skip ?_ ?_ ?_; (· exact rfl); (· exact rfl))
      | refine Gx.nil ?_
      | (refine Gx.go (s' := ?_) rfl ?_ ?_ ?_; rotate_left; (· exact rfl); (· (simp [go_sem, List.take_of_length_le, nodeC, hb3, nodes_all] <;> with_reducible rfl)))
      | (refine Gx.skip rfl ?_ ?_ ?_; (· exact rfl); (· exact rfl))
      | (refine Gx.skipO rfl ?_ ?_ ?_; (· exact rfl); (· exact rfl))
      | (refine Gx.wo (s' := ?_) rfl ?_ ?_ ?_; rotate_left; (· exact rfl); (· (simp [go_sem, List.take_of_length_le, nodeC, hb3, nodes_all] <;> with_reducible rfl)))
      | (refine Gx.skipW rfl ?_ ?_ ?_; (· exact rfl); (· exact rfl))
      | (refine Gx.skipH rfl ?_ ?_ ?_; (· exact rfl); (· exact rfl))
      | (refine Gx.hid (r := ?_) rfl ?_ ?_ ?_ ?_; rotate_left; (· exact rfl); (· exact rfl); (· (simp [go_sem, List.take_of_length_le, nodeC, hb3, nodes_all] <;> with_reducible rfl)))
      | (refine Gx.wr (s' := ?_) rfl ?_ ?_ ?_ ?_; rotate_left; (· exact rfl); (· (simp [go_sem, List.take_of_length_le, nodeC, hb3, nodes_all] <;> with_reducible rfl)); (· (simp [go_sem, List.take_of_length_le, nodeC, hb3, nodes_all])))
      | fail
    refine Out.mk (xs := ?_) ?_ ?_ (by first | exact .inr rfl | exact .inl rfl)
    rotate_left
    · simp [go_sem, List.take_of_length_le] <;> with_reducible rfl
    exact Fz.tuL (.cons (Fz.all rfl rfl (by simp; omega) (by simp [nodes, nodeC]) (nodes_ok _)) (.cons (.v _) .nil))
  | succ q =>
    have hq1 : wr64 (((q + 1 : Nat) : Int) - 1) = (q : Int) := by rw [wr64_id (by omega) (by omega)]; omega
    have hq2 : wr64 (q : Int) = (q : Int) := wr64_id (by omega) (by omega)
    have hq3 : wr64 ((q : Int) + 1 - 1) = (q : Int) := by rw [show (q : Int) + 1 - 1 = q by omega]; exact hq2
    have hql : q < S.length := by omega
    have hxq : S[q]? = some S[q] := List.getElem?_eq_getElem hql
    have hgd : S.getD q (0, 0, 0) = S[q] := by simp [hql]
    have cl := l13Less x S[q]
    rw [cutF, hgd] at hc
    have hq0 : (0 : Int) < (q : Int) + 1 := by omega
    have hqq : ((q + 1 : Nat) : Int) = (q : Int) + 1 := by omega
    rw [Nat.add_sub_cancel, hgd] at exitC
    generalize S[q] = y at hxq hgd cl hc exitC
    repeat' first
      | (refine Holds.condT ?_ ?_; (· (simp [go_sem, List.take_of_length_le] <;> with_reducible rfl)))
      | (refine Holds.condF ?_ ?_; (· (simp [go_sem, List.take_of_length_le] <;> with_reducible rfl)))
      | refine Holds.seq ?_
      | refine Holds.skip ?_
      | refine Holds.exit ?_
      | refine Holds.ret ?_
      | refine thenA_normal ?_
      | refine thenA_exit ?_
      | refine thenA_ret ?_
      | refine inB_normal ?_
      | refine inB_ret ?_
      | refine inB_here ?_
      | (refine inB_past ?_ ?_; (· exact rfl))
      | refine Holds.reg ?_
      | refine Holds.block ?_
      | refine GS.nil ?_
      | refine Gd.nil ?_
      | (refine GS.step (s' := ?_) ?_ ?_ ?_; rotate_left; (· exact rfl); (· (simp [go_sem, List.take_of_length_le] <;> with_reducible rfl)))
      | (refine GS.skip ?_ ?_ ?_; (· exact rfl); (· exact rfl))
      | (refine Gd.go (s' := ?_) ?_ ?_ ?_; rotate_left; (· exact rfl); (· (simp [go_sem, List.take_of_length_le] <;> with_reducible rfl)))
      | (refine Gd.skip ?_ ?_ ?_; (· exact rfl); (· exact rfl))
      | refine Gx.nil ?_
      | (refine Gx.go (s' := ?_) rfl ?_ ?_ ?_; rotate_left; (· exact rfl); (· (simp [go_sem, List.take_of_length_le] <;> with_reducible rfl)))
      | (refine Gx.skip rfl ?_ ?_ ?_; (· exact rfl); (· exact rfl))
      | (refine Gx.skipO rfl ?_ ?_ ?_; (· exact rfl); (· exact rfl))
      | (refine Gx.wo (s' := ?_) rfl ?_ ?_ ?_; rotate_left; (· exact rfl); (· (simp [go_sem, List.take_of_length_le] <;> with_reducible rfl)))
      | (refine Gx.skipW rfl ?_ ?_ ?_; (· exact rfl); (· exact rfl))
      | (refine Gx.skipH rfl ?_ ?_ ?_; (· exact rfl); (· exact rfl))
      | (refine Gx.hid (r := ?_) rfl ?_ ?_ ?_ ?_; rotate_left; (· exact rfl); (· exact rfl); (· (simp [go_sem, List.take_of_length_le] <;> with_reducible rfl)))
      | (refine Gx.wr (s' := ?_) rfl ?_ ?_ ?_ ?_; rotate_left; (· exact rfl); (· (simp [go_sem, List.take_of_length_le] <;> with_reducible rfl)); (· (simp [go_sem, List.take_of_length_le])))
      | fail
    (refine Holds.any mixed ?_ ?_; (· kernel_rfl))
    repeat' first
      | (refine Holds.condT ?_ ?_; (· (simp [go_sem, List.take_of_length_le, hq0, hq1, hq2, hq3, hql, get_E hxq, hxq, nodeC, hqq] <;> with_reducible rfl)))
      | (refine Holds.condF ?_ ?_; (· (simp [go_sem, List.take_of_length_le, hq0, hq1, hq2, hq3, hql, get_E hxq, hxq, nodeC, hqq] <;> with_reducible rfl)))
      | refine Holds.seq ?_
      | refine Holds.skip ?_
      | refine Holds.exit ?_
      | refine Holds.ret ?_
      | refine thenA_normal ?_
      | refine thenA_exit ?_
      | refine thenA_ret ?_
      | refine inB_normal ?_
      | refine inB_ret ?_
      | refine inB_here ?_
      | (refine inB_past ?_ ?_; (· exact rfl))
      | refine Holds.reg ?_
      | refine Holds.block ?_
      | refine GS.nil ?_
      | refine Gd.nil ?_
      | (refine GS.step (s' := ?_) ?_ ?_ ?_; rotate_left; (· exact rfl); (· (simp [go_sem, List.take_of_length_le, hq0, hq1, hq2, hq3, hql, get_E hxq, hxq, nodeC, hqq] <;> with_reducible rfl)))
      | (refine GS.skip ?_ ?_ ?_; (· exact rfl); (· exact rfl))
      | (refine Gd.go (s' := ?_) ?_ ?_ ?_; rotate_left; (· exact rfl); (· (simp [go_sem, List.take_of_length_le, hq0, hq1, hq2, hq3, hql, get_E hxq, hxq, nodeC, hqq] <;> with_reducible rfl)))
      | (refine Gd.skip ?_ ?_ ?_; (· exact rfl); (· exact rfl))
      | refine Gx.nil ?_
      | (refine Gx.go (s' := ?_) rfl ?_ ?_ ?_; rotate_left; (· exact rfl); (· (simp [go_sem, List.take_of_length_le, hq0, hq1, hq2, hq3, hql, get_E hxq, hxq, nodeC, hqq] <;> with_reducible rfl)))
      | (refine Gx.skip rfl ?_ ?_ ?_; (· exact rfl); (· exact rfl))
      | (refine Gx.skipO rfl ?_ ?_ ?_; (· exact rfl); (· exact rfl))
      | (refine Gx.wo (s' := ?_) rfl ?_ ?_ ?_; rotate_left; (· exact rfl); (· (simp [go_sem, List.take_of_length_le, hq0, hq1, hq2, hq3, hql, get_E hxq, hxq, nodeC, hqq] <;> with_reducible rfl)))
      | (refine Gx.skipW rfl ?_ ?_ ?_; (· exact rfl); (· exact rfl))
      | (refine Gx.skipH rfl ?_ ?_ ?_; (· exact rfl); (· exact rfl))
      | (refine Gx.hid (r := ?_) rfl ?_ ?_ ?_ ?_; rotate_left; (· exact rfl); (· exact rfl); (· (simp [go_sem, List.take_of_length_le, hq0, hq1, hq2, hq3, hql, get_E hxq, hxq, nodeC, hqq] <;> with_reducible rfl)))
      | (refine Gx.wr (s' := ?_) rfl ?_ ?_ ?_ ?_; rotate_left; (· exact rfl); (· (simp [go_sem, List.take_of_length_le, hq0, hq1, hq2, hq3, hql, get_E hxq, hxq, nodeC, hqq] <;> with_reducible rfl)); (· (simp [go_sem, List.take_of_length_le, hq0, hq1, hq2, hq3, hql, get_E hxq, hxq, nodeC, hqq])))
      | fail
    first | refine GS.cc (cl) rfl rfl rfl rfl (by simp [go_sem, List.take_of_length_le, nodeC] <;> with_reducible rfl) rfl (by simp [go_sem, List.take_of_length_le, nodeC]) ?_ | refine Gd.cc (cl) rfl rfl rfl rfl (by simp [go_sem, List.take_of_length_le, nodeC] <;> with_reducible rfl) rfl (by simp [go_sem, List.take_of_length_le, nodeC]) ?_ | refine Gx.cc (cl) rfl rfl rfl rfl rfl (by simp [go_sem, List.take_of_length_le, nodeC] <;> with_reducible rfl) rfl (by simp [go_sem, List.take_of_length_le, nodeC]) ?_
    cases hless : lessI x y with
    | true =>
      rw [hless, if_pos rfl] at hc
      repeat' first
        | (refine Holds.condT ?_ ?_; (· (simp [go_sem, List.take_of_length_le, hq1, hq2, hq3, hqq] <;> with_reducible rfl)))
        | (refine Holds.condF ?_ ?_; (· (simp [go_sem, List.take_of_length_le, hq1, hq2, hq3, hqq] <;> with_reducible rfl)))
        | refine Holds.seq ?_
        | refine Holds.skip ?_
        | refine Holds.exit ?_
        | refine Holds.ret ?_
        | refine thenA_normal ?_
        | refine thenA_exit ?_
        | refine thenA_ret ?_
        | refine inB_normal ?_
        | refine inB_ret ?_
        | refine inB_here ?_
        | (refine inB_past ?_ ?_; (· exact rfl))
        | refine Holds.reg ?_
        | refine Holds.block ?_
        | refine GS.nil ?_
        | refine Gd.nil ?_
        | (refine GS.step (s' := ?_) ?_ ?_ ?_; rotate_left; (· exact rfl); (· (simp [go_sem, List.take_of_length_le, hq1, hq2, hq3, hqq] <;> with_reducible rfl)))
        | (refine GS.skip ?_ ?_ ?_; (· exact rfl); (· exact rfl))
        | (refine Gd.go (s' := ?_) ?_ ?_ ?_; rotate_left; (· exact rfl); (· (simp [go_sem, List.take_of_length_le, hq1, hq2, hq3, hqq] <;> with_reducible rfl)))
        | (refine Gd.skip ?_ ?_ ?_; (· exact rfl); (· exact rfl))
        | refine Gx.nil ?_
        | (refine Gx.go (s' := ?_) rfl ?_ ?_ ?_; rotate_left; (· exact rfl); (· (simp [go_sem, List.take_of_length_le, hq1, hq2, hq3, hqq] <;> with_reducible rfl)))
        | (refine Gx.skip rfl ?_ ?_ ?_; (· exact rfl); (· exact rfl))
        | (refine Gx.skipO rfl ?_ ?_ ?_; (· exact rfl); (· exact rfl))
        | (refine Gx.wo (s' := ?_) rfl ?_ ?_ ?_; rotate_left; (· exact rfl); (· (simp [go_sem, List.take_of_length_le, hq1, hq2, hq3, hqq] <;> with_reducible rfl)))
        | (refine Gx.skipW rfl ?_ ?_ ?_; (· exact rfl); (· exact rfl))
        | (refine Gx.skipH rfl ?_ ?_ ?_; (· exact rfl); (· exact rfl))
        | (refine Gx.hid (r := ?_) rfl ?_ ?_ ?_ ?_; rotate_left; (· exact rfl); (· exact rfl); (· (simp [go_sem, List.take_of_length_le, hq1, hq2, hq3, hqq] <;> with_reducible rfl)))
        | (refine Gx.wr (s' := ?_) rfl ?_ ?_ ?_ ?_; rotate_left; (· exact rfl); (· (simp [go_sem, List.take_of_length_le, hq1, hq2, hq3, hqq] <;> with_reducible rfl)); (· (simp [go_sem, List.take_of_length_le, hq1, hq2, hq3, hqq])))
        | fail
      refine ⟨q, ⟨by omega, hc⟩, by omega, ?_⟩
      exact Cov.ofn (id) rfl (by simp [go_sem, List.take_of_length_le, ren, ren1, ren2, okr, okr1, okr2, ChkT, ChkN, BlkN, nf, nodeC]) (by simp [go_sem, List.take_of_length_le, ren, ren1, ren2, okr, okr1, okr2, ChkT, ChkN, BlkN, nf, nodeC])
    | false =>
      have e := exitC (.inr ⟨by omega, hless⟩)
      have hmet : metI S x = decide (y = x) := by
        unfold metI
        rw [e, Nat.add_sub_cancel, hgd, decide_eq_true (show 0 < q + 1 by omega), Bool.true_and]
      by_cases hyx : y = x
      · have hme : metI S x = true := by rw [hmet]; exact decide_eq_true hyx
        have hp : putI S x = S := by unfold putI; rw [if_pos hme]
        rw [hme, hp]
        repeat' first
          | (refine Holds.condT ?_ ?_; (· (simp [go_sem, List.take_of_length_le] <;> with_reducible rfl)))
          | (refine Holds.condF ?_ ?_; (· (simp [go_sem, List.take_of_length_le] <;> with_reducible rfl)))
          | refine Holds.seq ?_
          | refine Holds.skip ?_
          | refine Holds.exit ?_
          | refine Holds.ret ?_
          | refine thenA_normal ?_
          | refine thenA_exit ?_
          | refine thenA_ret ?_
          | refine inB_normal ?_
          | refine inB_ret ?_
          | refine inB_here ?_
          | (refine inB_past ?_ ?_; (· exact rfl))
          | refine Holds.reg ?_
          | refine Holds.block ?_
          | refine GS.nil ?_
          | refine Gd.nil ?_
          | (refine GS.step (s' := ?_) ?_ ?_ ?_; rotate_left; (· exact rfl); (· (simp [go_sem, List.take_of_length_le] <;> with_reducible rfl)))
          | (refine GS.skip ?_ ?_ ?_; (· exact rfl); (· exact rfl))
          | (refine Gd.go (s' := ?_) ?_ ?_ ?_; rotate_left; (· exact rfl); (· (simp [go_sem, List.take_of_length_le] <;> with_reducible rfl)))
          | (refine Gd.skip ?_ ?_ ?_; (· exact rfl); (· exact rfl))
          | refine Gx.nil ?_
          | (refine Gx.go (s' := ?_) rfl ?_ ?_ ?_; rotate_left; (· exact rfl); (· (simp [go_sem, List.take_of_length_le] <;> with_reducible rfl)))
          | (refine Gx.skip rfl ?_ ?_ ?_; (· exact rfl); (· exact rfl))
          | (refine Gx.skipO rfl ?_ ?_ ?_; (· exact rfl); (· exact rfl))
          | (refine Gx.wo (s' := ?_) rfl ?_ ?_ ?_; rotate_left; (· exact rfl); (· (simp [go_sem, List.take_of_length_le] <;> with_reducible rfl)))
          | (refine Gx.skipW rfl ?_ ?_ ?_; (· exact rfl); (· exact rfl))
          | (refine Gx.skipH rfl ?_ ?_ ?_; (· exact rfl); (· exact rfl))
          | (refine Gx.hid (r := ?_) rfl ?_ ?_ ?_ ?_; rotate_left; (· exact rfl); (· exact rfl); (· (simp [go_sem, List.take_of_length_le] <;> with_reducible rfl)))
          | (refine Gx.wr (s' := ?_) rfl ?_ ?_ ?_ ?_; rotate_left; (· exact rfl); (· (simp [go_sem, List.take_of_length_le] <;> with_reducible rfl)); (· (simp [go_sem, List.take_of_length_le])))
          | fail
        (refine Holds.any mixed ?_ ?_; (· kernel_rfl))
        repeat' first
          | (refine Holds.condT ?_ ?_; (· (simp [go_sem, List.take_of_length_le, hq0, hq1, hq2, hq3, hql, get_E hxq, hxq, nodeC, hqq] <;> with_reducible rfl)))
          | (refine Holds.condF ?_ ?_; (· (simp [go_sem, List.take_of_length_le, hq0, hq1, hq2, hq3, hql, get_E hxq, hxq, nodeC, hqq] <;> with_reducible rfl)))
          | refine Holds.seq ?_
          | refine Holds.skip ?_
          | refine Holds.exit ?_
          | refine Holds.ret ?_
          | refine thenA_normal ?_
          | refine thenA_exit ?_
          | refine thenA_ret ?_
          | refine inB_normal ?_
          | refine inB_ret ?_
          | refine inB_here ?_
          | (refine inB_past ?_ ?_; (· exact rfl))
          | refine Holds.reg ?_
          | refine Holds.block ?_
          | refine GS.nil ?_
          | refine Gd.nil ?_
          | (refine GS.step (s' := ?_) ?_ ?_ ?_; rotate_left; (· exact rfl); (· (simp [go_sem, List.take_of_length_le, hq0, hq1, hq2, hq3, hql, get_E hxq, hxq, nodeC, hqq] <;> with_reducible rfl)))
          | (refine GS.skip ?_ ?_ ?_; (· exact rfl); (· exact rfl))
          | (refine Gd.go (s' := ?_) ?_ ?_ ?_; rotate_left; (· exact rfl); (· (simp [go_sem, List.take_of_length_le, hq0, hq1, hq2, hq3, hql, get_E hxq, hxq, nodeC, hqq] <;> with_reducible rfl)))
          | (refine Gd.skip ?_ ?_ ?_; (· exact rfl); (· exact rfl))
          | refine Gx.nil ?_
          | (refine Gx.go (s' := ?_) rfl ?_ ?_ ?_; rotate_left; (· exact rfl); (· (simp [go_sem, List.take_of_length_le, hq0, hq1, hq2, hq3, hql, get_E hxq, hxq, nodeC, hqq] <;> with_reducible rfl)))
          | (refine Gx.skip rfl ?_ ?_ ?_; (· exact rfl); (· exact rfl))
          | (refine Gx.skipO rfl ?_ ?_ ?_; (· exact rfl); (· exact rfl))
          | (refine Gx.wo (s' := ?_) rfl ?_ ?_ ?_; rotate_left; (· exact rfl); (· (simp [go_sem, List.take_of_length_le, hq0, hq1, hq2, hq3, hql, get_E hxq, hxq, nodeC, hqq] <;> with_reducible rfl)))
          | (refine Gx.skipW rfl ?_ ?_ ?_; (· exact rfl); (· exact rfl))
          | (refine Gx.skipH rfl ?_ ?_ ?_; (· exact rfl); (· exact rfl))
          | (refine Gx.hid (r := ?_) rfl ?_ ?_ ?_ ?_; rotate_left; (· exact rfl); (· exact rfl); (· (simp [go_sem, List.take_of_length_le, hq0, hq1, hq2, hq3, hql, get_E hxq, hxq, nodeC, hqq] <;> with_reducible rfl)))
          | (refine Gx.wr (s' := ?_) rfl ?_ ?_ ?_ ?_; rotate_left; (· exact rfl); (· (simp [go_sem, List.take_of_length_le, hq0, hq1, hq2, hq3, hql, get_E hxq, hxq, nodeC, hqq] <;> with_reducible rfl)); (· (simp [go_sem, List.take_of_length_le, hq0, hq1, hq2, hq3, hql, get_E hxq, hxq, nodeC, hqq])))
          | fail
        refine Gd.calm rfl rfl (.eqS (n := 3) (xs := [y.1, y.2.1, y.2.2]) (ys := [x.1, x.2.1, x.2.2]) rfl eqItem3 rfl rfl rfl rfl rfl) ?_
        rw [show decide ([y.1, y.2.1, y.2.2] = [x.1, x.2.1, x.2.2]) = true by rw [hyx]; simp]
        repeat' first
          | (refine Holds.condT ?_ ?_; (· (simp [go_sem, List.take_of_length_le] <;> with_reducible rfl)))
          | (refine Holds.condF ?_ ?_; (· (simp [go_sem, List.take_of_length_le] <;> with_reducible rfl)))
          | refine Holds.seq ?_
          | refine Holds.skip ?_
          | refine Holds.exit ?_
          | refine Holds.ret ?_
          | refine thenA_normal ?_
          | refine thenA_exit ?_
          | refine thenA_ret ?_
          | refine inB_normal ?_
          | refine inB_ret ?_
          | refine inB_here ?_
          | (refine inB_past ?_ ?_; (· exact rfl))
          | refine Holds.reg ?_
          | refine Holds.block ?_
          | refine GS.nil ?_
          | refine Gd.nil ?_
          | (refine GS.step (s' := ?_) ?_ ?_ ?_; rotate_left; (· exact rfl); (· (simp [go_sem, List.take_of_length_le] <;> with_reducible rfl)))
          | (refine GS.skip ?_ ?_ ?_; (· exact rfl); (· exact rfl))
          | (refine Gd.go (s' := ?_) ?_ ?_ ?_; rotate_left; (· exact rfl); (· (simp [go_sem, List.take_of_length_le] <;> with_reducible rfl)))
          | (refine Gd.skip ?_ ?_ ?_; (· exact rfl); (· exact rfl))
          | refine Gx.nil ?_
          | (refine Gx.go (s' := ?_) rfl ?_ ?_ ?_; rotate_left; (· exact rfl); (· (simp [go_sem, List.take_of_length_le] <;> with_reducible rfl)))
          | (refine Gx.skip rfl ?_ ?_ ?_; (· exact rfl); (· exact rfl))
          | (refine Gx.skipO rfl ?_ ?_ ?_; (· exact rfl); (· exact rfl))
          | (refine Gx.wo (s' := ?_) rfl ?_ ?_ ?_; rotate_left; (· exact rfl); (· (simp [go_sem, List.take_of_length_le] <;> with_reducible rfl)))
          | (refine Gx.skipW rfl ?_ ?_ ?_; (· exact rfl); (· exact rfl))
          | (refine Gx.skipH rfl ?_ ?_ ?_; (· exact rfl); (· exact rfl))
          | (refine Gx.hid (r := ?_) rfl ?_ ?_ ?_ ?_; rotate_left; (· exact rfl); (· exact rfl); (· (simp [go_sem, List.take_of_length_le] <;> with_reducible rfl)))
          | (refine Gx.wr (s' := ?_) rfl ?_ ?_ ?_ ?_; rotate_left; (· exact rfl); (· (simp [go_sem, List.take_of_length_le] <;> with_reducible rfl)); (· (simp [go_sem, List.take_of_length_le])))
          | fail
        refine Out.mk (xs := ?_) ?_ ?_ (by first | exact .inr rfl | exact .inl rfl)
        rotate_left
        · simp [go_sem, List.take_of_length_le] <;> with_reducible rfl
        exact Fz.tuL (.cons (.im _ _) (.cons (.v _) .nil))
      · have hme : metI S x = false := by rw [hmet]; exact decide_eq_false hyx
        have hp : putI S x = S.take (q + 1) ++ [x] ++ S.drop (q + 1) := by unfold putI; rw [if_neg (by rw [hme]; simp), e]
        rw [hme, hp]
        have hne : decide ([y.1, y.2.1, y.2.2] = [x.1, x.2.1, x.2.2]) = false := by
          refine decide_eq_false fun h => hyx ?_
          exact node_ext h
        have htl : (S.take (q + 1)).length = q + 1 := by rw [List.length_take]; omega
        have hdl : (S.drop (q + 1)).length = S.length - (q + 1) := List.length_drop
        have hmin : min (q + 1) S.length = q + 1 := by omega
        have hb1 := hb0 (S.length - (q + 1)) (by omega)
        have hb2 := hb0 (q + 1) (by omega)
        have hb3 := hb0 (q + 1 + 1) (by omega)
        have hb4 := hb0 (q + 1 + 1 + (S.length - (q + 1))) (by omega)
        have hqS : (q : Int) + 1 ≤ S.length := by omega
        have hq01 : (0 : Int) ≤ (q : Int) + 1 := by omega
        have hqT : ((q : Int) + 1).toNat = q + 1 := by omega
        repeat' first
          | (refine Holds.condT ?_ ?_; (· (simp [go_sem, List.take_of_length_le] <;> with_reducible rfl)))
          | (refine Holds.condF ?_ ?_; (· (simp [go_sem, List.take_of_length_le] <;> with_reducible rfl)))
          | refine Holds.seq ?_
          | refine Holds.skip ?_
          | refine Holds.exit ?_
          | refine Holds.ret ?_
          | refine thenA_normal ?_
          | refine thenA_exit ?_
          | refine thenA_ret ?_
          | refine inB_normal ?_
          | refine inB_ret ?_
          | refine inB_here ?_
          | (refine inB_past ?_ ?_; (· exact rfl))
          | refine Holds.reg ?_
          | refine Holds.block ?_
          | refine GS.nil ?_
          | refine Gd.nil ?_
          | (refine GS.step (s' := ?_) ?_ ?_ ?_; rotate_left; (· exact rfl); (· (simp [go_sem, List.take_of_length_le] <;> with_reducible rfl)))
          | (refine GS.skip ?_ ?_ ?_; (· exact rfl); (· exact rfl))
          | (refine Gd.go (s' := ?_) ?_ ?_ ?_; rotate_left; (· exact rfl); (· (simp [go_sem, List.take_of_length_le] <;> with_reducible rfl)))
          | (refine Gd.skip ?_ ?_ ?_; (· exact rfl); (· exact rfl))
          | refine Gx.nil ?_
          | (refine Gx.go (s' := ?_) rfl ?_ ?_ ?_; rotate_left; (· exact rfl); (· (simp [go_sem, List.take_of_length_le] <;> with_reducible rfl)))
          | (refine Gx.skip rfl ?_ ?_ ?_; (· exact rfl); (· exact rfl))
          | (refine Gx.skipO rfl ?_ ?_ ?_; (· exact rfl); (· exact rfl))
          | (refine Gx.wo (s' := ?_) rfl ?_ ?_ ?_; rotate_left; (· exact rfl); (· (simp [go_sem, List.take_of_length_le] <;> with_reducible rfl)))
          | (refine Gx.skipW rfl ?_ ?_ ?_; (· exact rfl); (· exact rfl))
          | (refine Gx.skipH rfl ?_ ?_ ?_; (· exact rfl); (· exact rfl))
          | (refine Gx.hid (r := ?_) rfl ?_ ?_ ?_ ?_; rotate_left; (· exact rfl); (· exact rfl); (· (simp [go_sem, List.take_of_length_le] <;> with_reducible rfl)))
          | (refine Gx.wr (s' := ?_) rfl ?_ ?_ ?_ ?_; rotate_left; (· exact rfl); (· (simp [go_sem, List.take_of_length_le] <;> with_reducible rfl)); (· (simp [go_sem, List.take_of_length_le])))
          | fail
        (refine Holds.any mixed ?_ ?_; (· kernel_rfl))
        repeat' first
          | (refine Holds.condT ?_ ?_; (· (simp [go_sem, List.take_of_length_le, hq0, hq1, hq2, hq3, hql, get_E hxq, hxq, nodeC, hqq] <;> with_reducible rfl)))
          | (refine Holds.condF ?_ ?_; (· (simp [go_sem, List.take_of_length_le, hq0, hq1, hq2, hq3, hql, get_E hxq, hxq, nodeC, hqq] <;> with_reducible rfl)))
          | refine Holds.seq ?_
          | refine Holds.skip ?_
          | refine Holds.exit ?_
          | refine Holds.ret ?_
          | refine thenA_normal ?_
          | refine thenA_exit ?_
          | refine thenA_ret ?_
          | refine inB_normal ?_
          | refine inB_ret ?_
          | refine inB_here ?_
          | (refine inB_past ?_ ?_; (· exact rfl))
          | refine Holds.reg ?_
          | refine Holds.block ?_
          | refine GS.nil ?_
          | refine Gd.nil ?_
          | (refine GS.step (s' := ?_) ?_ ?_ ?_; rotate_left; (· exact rfl); (· (simp [go_sem, List.take_of_length_le, hq0, hq1, hq2, hq3, hql, get_E hxq, hxq, nodeC, hqq] <;> with_reducible rfl)))
          | (refine GS.skip ?_ ?_ ?_; (· exact rfl); (· exact rfl))
          | (refine Gd.go (s' := ?_) ?_ ?_ ?_; rotate_left; (· exact rfl); (· (simp [go_sem, List.take_of_length_le, hq0, hq1, hq2, hq3, hql, get_E hxq, hxq, nodeC, hqq] <;> with_reducible rfl)))
          | (refine Gd.skip ?_ ?_ ?_; (· exact rfl); (· exact rfl))
          | refine Gx.nil ?_
          | (refine Gx.go (s' := ?_) rfl ?_ ?_ ?_; rotate_left; (· exact rfl); (· (simp [go_sem, List.take_of_length_le, hq0, hq1, hq2, hq3, hql, get_E hxq, hxq, nodeC, hqq] <;> with_reducible rfl)))
          | (refine Gx.skip rfl ?_ ?_ ?_; (· exact rfl); (· exact rfl))
          | (refine Gx.skipO rfl ?_ ?_ ?_; (· exact rfl); (· exact rfl))
          | (refine Gx.wo (s' := ?_) rfl ?_ ?_ ?_; rotate_left; (· exact rfl); (· (simp [go_sem, List.take_of_length_le, hq0, hq1, hq2, hq3, hql, get_E hxq, hxq, nodeC, hqq] <;> with_reducible rfl)))
          | (refine Gx.skipW rfl ?_ ?_ ?_; (· exact rfl); (· exact rfl))
          | (refine Gx.skipH rfl ?_ ?_ ?_; (· exact rfl); (· exact rfl))
          | (refine Gx.hid (r := ?_) rfl ?_ ?_ ?_ ?_; rotate_left; (· exact rfl); (· exact rfl); (· (simp [go_sem, List.take_of_length_le, hq0, hq1, hq2, hq3, hql, get_E hxq, hxq, nodeC, hqq] <;> with_reducible rfl)))
          | (refine Gx.wr (s' := ?_) rfl ?_ ?_ ?_ ?_; rotate_left; (· exact rfl); (· (simp [go_sem, List.take_of_length_le, hq0, hq1, hq2, hq3, hql, get_E hxq, hxq, nodeC, hqq] <;> with_reducible rfl)); (· (simp [go_sem, List.take_of_length_le, hq0, hq1, hq2, hq3, hql, get_E hxq, hxq, nodeC, hqq])))
          | fail
        refine Gd.calm rfl rfl (.eqS (n := 3) (xs := [y.1, y.2.1, y.2.2]) (ys := [x.1, x.2.1, x.2.2]) rfl eqItem3 rfl rfl rfl rfl rfl) ?_
        rw [hne]
        repeat' first
          | (refine Holds.condT ?_ ?_; (· (simp [go_sem, List.take_of_length_le, hk, hqq, hqS, hqT, hq01, hdl, hb1, hmin, nodes_drop, nodes_take, nodes_all, nodeC] <;> with_reducible rfl)))
          | (refine Holds.condF ?_ ?_; (· (simp [go_sem, List.take_of_length_le, hk, hqq, hqS, hqT, hq01, hdl, hb1, hmin, nodes_drop, nodes_take, nodes_all, nodeC] <;> with_reducible rfl)))
          | refine Holds.seq ?_
          | refine Holds.skip ?_
          | refine Holds.exit ?_
          | refine Holds.ret ?_
          | refine thenA_normal ?_
          | refine thenA_exit ?_
          | refine thenA_ret ?_
          | refine inB_normal ?_
          | refine inB_ret ?_
          | refine inB_here ?_
          | (refine inB_past ?_ ?_; (· exact rfl))
          | refine Holds.reg ?_
          | refine Holds.block ?_
          | refine GS.nil ?_
          | refine Gd.nil ?_
          | (refine GS.step (s' := ?_) ?_ ?_ ?_; rotate_left; (· exact rfl); (· (simp [go_sem, List.take_of_length_le, hk, hqq, hqS, hqT, hq01, hdl, hb1, hmin, nodes_drop, nodes_take, nodes_all, nodeC] <;> with_reducible rfl)))
          | (refine GS.skip ?_ ?_ ?_; (· exact rfl); (· exact rfl))
          | (refine Gd.go (s' := ?_) ?_ ?_ ?_; rotate_left; (· exact rfl); (· (simp [go_sem, List.take_of_length_le, hk, hqq, hqS, hqT, hq01, hdl, hb1, hmin, nodes_drop, nodes_take, nodes_all, nodeC] <;> with_reducible rfl)))
          | (refine Gd.skip ?_ ?_ ?_; (· exact rfl); (· exact rfl))
          | refine Gx.nil ?_
          | (refine Gx.go (s' := ?_) rfl ?_ ?_ ?_; rotate_left; (· exact rfl); (· (simp [go_sem, List.take_of_length_le, hk, hqq, hqS, hqT, hq01, hdl, hb1, hmin, nodes_drop, nodes_take, nodes_all, nodeC] <;> with_reducible rfl)))
          | (refine Gx.skip rfl ?_ ?_ ?_; (· exact rfl); (· exact rfl))
          | (refine Gx.skipO rfl ?_ ?_ ?_; (· exact rfl); (· exact rfl))
          | (refine Gx.wo (s' := ?_) rfl ?_ ?_ ?_; rotate_left; (· exact rfl); (· (simp [go_sem, List.take_of_length_le, hk, hqq, hqS, hqT, hq01, hdl, hb1, hmin, nodes_drop, nodes_take, nodes_all, nodeC] <;> with_reducible rfl)))
          | (refine Gx.skipW rfl ?_ ?_ ?_; (· exact rfl); (· exact rfl))
          | (refine Gx.skipH rfl ?_ ?_ ?_; (· exact rfl); (· exact rfl))
          | (refine Gx.hid (r := ?_) rfl ?_ ?_ ?_ ?_; rotate_left; (· exact rfl); (· exact rfl); (· (simp [go_sem, List.take_of_length_le, hk, hqq, hqS, hqT, hq01, hdl, hb1, hmin, nodes_drop, nodes_take, nodes_all, nodeC] <;> with_reducible rfl)))
          | (refine Gx.wr (s' := ?_) rfl ?_ ?_ ?_ ?_; rotate_left; (· exact rfl); (· (simp [go_sem, List.take_of_length_le, hk, hqq, hqS, hqT, hq01, hdl, hb1, hmin, nodes_drop, nodes_take, nodes_all, nodeC] <;> with_reducible rfl)); (· (simp [go_sem, List.take_of_length_le, hk, hqq, hqS, hqT, hq01, hdl, hb1, hmin, nodes_drop, nodes_take, nodes_all, nodeC])))
          | fail
        refine Holds.anx [0, 4, 1007] [1, 2, 3, 5, 2006] (fun n => decide (3 ≤ n)) mixed ?_ ?_ ?_; (· kernel_rfl); (· kernel_rfl)
        repeat' first
          | (refine Holds.condT ?_ ?_; (· (simp [go_sem, List.take_of_length_le, hk, hqq, hqS, hqT, hq01, htl, hb2, hb3, hmin, nodes_drop, nodes_take, nodes_all, nodeC] <;> with_reducible rfl)))
          | (refine Holds.condF ?_ ?_; (· (simp [go_sem, List.take_of_length_le, hk, hqq, hqS, hqT, hq01, htl, hb2, hb3, hmin, nodes_drop, nodes_take, nodes_all, nodeC] <;> with_reducible rfl)))
          | refine Holds.seq ?_
          | refine Holds.skip ?_
          | refine Holds.exit ?_
          | refine Holds.ret ?_
          | refine thenA_normal ?_
          | refine thenA_exit ?_
          | refine thenA_ret ?_
          | refine inB_normal ?_
          | refine inB_ret ?_
          | refine inB_here ?_
          | (refine inB_past ?_ ?_; (· exact rfl))
          | refine Holds.reg ?_
          | refine Holds.block ?_
          | refine GS.nil ?_
          | refine Gd.nil ?_
          | (refine GS.step (s' := ?_) ?_ ?_ ?_; rotate_left; (· exact rfl); (· (simp [go_sem, List.take_of_length_le, hk, hqq, hqS, hqT, hq01, htl, hb2, hb3, hmin, nodes_drop, nodes_take, nodes_all, nodeC] <;> with_reducible rfl)))
          | (refine GS.skip ?_ ?_ ?_; (· exact rfl); (· exact rfl))
          | (refine Gd.go (s' := ?_) ?_ ?_ ?_; rotate_left; (· exact rfl); (· (simp [go_sem, List.take_of_length_le, hk, hqq, hqS, hqT, hq01, htl, hb2, hb3, hmin, nodes_drop, nodes_take, nodes_all, nodeC] <;> with_reducible rfl)))
          | (refine Gd.skip ?_ ?_ ?_; (· exact rfl); (· exact rfl))
          | refine Gx.nil ?_
          | (refine Gx.go (s' := ?_) rfl ?_ ?_ ?_; rotate_left; (· exact rfl); (· (simp [go_sem, List.take_of_length_le, hk, hqq, hqS, hqT, hq01, htl, hb2, hb3, hmin, nodes_drop, nodes_take, nodes_all, nodeC] <;> with_reducible rfl)))
          | (refine Gx.skip rfl ?_ ?_ ?_; (· exact rfl); (· exact rfl))
          | (refine Gx.skipO rfl ?_ ?_ ?_; (· exact rfl); (· exact rfl))
          | (refine Gx.wo (s' := ?_) rfl ?_ ?_ ?_; rotate_left; (· exact rfl); (· (simp [go_sem, List.take_of_length_le, hk, hqq, hqS, hqT, hq01, htl, hb2, hb3, hmin, nodes_drop, nodes_take, nodes_all, nodeC] <;> with_reducible rfl)))
          | (refine Gx.skipW rfl ?_ ?_ ?_; (· exact rfl); (· exact rfl))
          | (refine Gx.skipH rfl ?_ ?_ ?_; (· exact rfl); (· exact rfl))
          | (refine Gx.hid (r := ?_) rfl ?_ ?_ ?_ ?_; rotate_left; (· exact rfl); (· exact rfl); (· (simp [go_sem, List.take_of_length_le, hk, hqq, hqS, hqT, hq01, htl, hb2, hb3, hmin, nodes_drop, nodes_take, nodes_all, nodeC] <;> with_reducible rfl)))
          | (refine Gx.wr (s' := ?_) rfl ?_ ?_ ?_ ?_; rotate_left; (· exact rfl); (· (simp [go_sem, List.take_of_length_le, hk, hqq, hqS, hqT, hq01, htl, hb2, hb3, hmin, nodes_drop, nodes_take, nodes_all, nodeC] <;> with_reducible rfl)); (· (simp [go_sem, List.take_of_length_le, hk, hqq, hqS, hqT, hq01, htl, hb2, hb3, hmin, nodes_drop, nodes_take, nodes_all, nodeC])))
          | fail
        refine Gx.bs (sz := 3) (e := 56) (rows := [nodeC x]) [(46, .ag (nodeC x))] rfl rfl rfl rfl rfl (by simp [go_sem, List.take_of_length_le, Op.operands, cl, cl1, nodeC]) (by simp [go_sem, List.take_of_length_le, Op.operands, cl, cl1, nodeC]) (by simp [go_sem, List.take_of_length_le, Op.operands, cl, cl1, nodeC]) ?_
        repeat' first
          | (refine Holds.condT ?_ ?_; (· (simp [go_sem, List.take_of_length_le, nodeC, hb2, hb3, hb4, hmin, hdl, nodes_all, nodes_take, nodes_drop] <;> with_reducible rfl)))
          | (refine Holds.condF ?_ ?_; (· (simp [go_sem, List.take_of_length_le, nodeC, hb2, hb3, hb4, hmin, hdl, nodes_all, nodes_take, nodes_drop] <;> with_reducible rfl)))
          | refine Holds.seq ?_
          | refine Holds.skip ?_
          | refine Holds.exit ?_
          | refine Holds.ret ?_
          | refine thenA_normal ?_
          | refine thenA_exit ?_
          | refine thenA_ret ?_
          | refine inB_normal ?_
          | refine inB_ret ?_
          | refine inB_here ?_
          | (refine inB_past ?_ ?_; (· exact rfl))
          | refine Holds.reg ?_
          | refine Holds.block ?_
          | refine GS.nil ?_
          | refine Gd.nil ?_
          | (refine GS.step (s' := ?_) ?_ ?_ ?_; rotate_left; (· exact rfl); (· (simp [go_sem, List.take_of_length_le, nodeC, hb2, hb3, hb4, hmin, hdl, nodes_all, nodes_take, nodes_drop] <;> with_reducible rfl)))
          | (refine GS.skip ?_ ?_ ?_; (· exact rfl); (· exact rfl))
          | (refine Gd.go (s' := ?_) ?_ ?_ ?_; rotate_left; (· exact rfl); (· (simp [go_sem, List.take_of_length_le, nodeC, hb2, hb3, hb4, hmin, hdl, nodes_all, nodes_take, nodes_drop] <;> with_reducible rfl)))
          | (refine Gd.skip ?_ ?_ ?_; (· exact rfl); (· exact rfl))
          | refine Gx.nil ?_
          | (refine Gx.go (s' := ?_) rfl ?_ ?_ ?_; rotate_left; (· exact rfl); (· (simp [go_sem, List.take_of_length_le, nodeC, hb2, hb3, hb4, hmin, hdl, nodes_all, nodes_take, nodes_drop] <;> with_reducible rfl)))
          | (refine Gx.skip rfl ?_ ?_ ?_; (· exact rfl); (· exact rfl))
          | (refine Gx.skipO rfl ?_ ?_ ?_; (· exact rfl); (· exact rfl))
          | (refine Gx.wo (s' := ?_) rfl ?_ ?_ ?_; rotate_left; (· exact rfl); (· (simp [go_sem, List.take_of_length_le, nodeC, hb2, hb3, hb4, hmin, hdl, nodes_all, nodes_take, nodes_drop] <;> with_reducible rfl)))
          | (refine Gx.skipW rfl ?_ ?_ ?_; (· exact rfl); (· exact rfl))
          | (refine Gx.skipH rfl ?_ ?_ ?_; (· exact rfl); (· exact rfl))
          | (refine Gx.hid (r := ?_) rfl ?_ ?_ ?_ ?_; rotate_left; (· exact rfl); (· exact rfl); (· (simp [go_sem, List.take_of_length_le, nodeC, hb2, hb3, hb4, hmin, hdl, nodes_all, nodes_take, nodes_drop] <;> with_reducible rfl)))
          | (refine Gx.wr (s' := ?_) rfl ?_ ?_ ?_ ?_; rotate_left; (· exact rfl); (· (simp [go_sem, List.take_of_length_le, nodeC, hb2, hb3, hb4, hmin, hdl, nodes_all, nodes_take, nodes_drop] <;> with_reducible rfl)); (· (simp [go_sem, List.take_of_length_le, nodeC, hb2, hb3, hb4, hmin, hdl, nodes_all, nodes_take, nodes_drop])))
          | fail
        refine Out.mk (xs := ?_) ?_ ?_ (by first | exact .inr rfl | exact .inl rfl)
        rotate_left
        · simp [go_sem, List.take_of_length_le] <;> with_reducible rfl
        exact Fz.tuL (.cons (Fz.all rfl rfl (by simp; omega) (by simp [nodes, nodeC]) (nodes_ok _)) (.cons (.v _) .nil))
end Go.Proofs.Ytabdnpgahdbciaa.En
end
section
namespace Go.Proofs.Ytabdnpgahdbciaa.En
open Go.RowKit
set_option linter.unusedSimpArgs false
set_option linter.unusedVariables false
set_option maxHeartbeats 8000000
def itemssC (s : List Item3) : List AV := [.im 3 (nodes s)]
def itemss (sets : Sets3) : List (List AV) := sets.map itemssC
@[simp] theorem itemss_len (xs : Sets3) : (itemss xs).length = xs.length := by simp [itemss]
@[simp] theorem itemss_get (xs : Sets3) (i : Nat) : (itemss xs)[i]? = (xs[i]?).map itemssC := by simp [itemss]
@[simp] theorem itemss_gE (xs : Sets3) (i : Nat) (h : i < (itemss xs).length) : (itemss xs)[i] = itemssC (xs[i]'(by simpa using h)) := by simp [itemss]
theorem itemss_set (xs : Sets3) (i : Nat) (s : List Item3) : (itemss xs).set i [.im 3 (nodes s)] = itemss (xs.set i s) := by simp [itemss, itemssC, List.map_set]
theorem itemss_ok (xs : Sets3) : rowsOk (itemss xs) := by
  intro row hr x hx
  simp only [itemss, List.mem_map] at hr
  obtain ⟨s, _, rfl⟩ := hr
  simp only [itemssC, List.mem_singleton] at hx
  subst hx; rfl
@[simp] theorem nfr_itemss (xs : Sets3) : nfr (itemss xs) := nfr_of_ok (itemss_ok xs)
def rulesOf (g : GrammarT) (non : Int) : List Int := idxs (fun r : RuleT => r.1 == non) 0 g.2.2
theorem l1Rules (g : GrammarT) (non : Int) (hg : g.2.2.length ≤ 16) : Pure Try.prog 76 [.ag (grammarC g), .v (.int .i64 non)] (.im 1 (ints (rulesOf g non))) := by
  refine Pure.mk (rs := [.tmp 4]) (nt := 26) Try.func76 (by kernel_rfl) rfl rfl rfl (by simp) ?_
  simp only [sl, grammarC]
  repeat' first
    | (refine Holds.condT ?_ ?_; (· (simp [go_sem, List.take_of_length_le] <;> with_reducible rfl)))
    | (refine Holds.condF ?_ ?_; (· (simp [go_sem, List.take_of_length_le] <;> with_reducible rfl)))
    | refine Holds.seq ?_
    | refine Holds.skip ?_
    | refine Holds.exit ?_
    | refine Holds.ret ?_
    | refine thenA_normal ?_
    | refine thenA_exit ?_
    | refine thenA_ret ?_
    | refine inB_normal ?_
    | refine inB_ret ?_
    | refine inB_here ?_
    | (refine inB_past ?_ ?_; (· exact rfl))
    | refine Holds.reg ?_
    | refine Holds.block ?_
    | refine GS.nil ?_
    | (refine GS.step (s' := ?_) ?_ ?_ ?_; rotate_left; (· exact rfl); (· (simp [go_sem, List.take_of_length_le] <;> with_reducible rfl)))
    | (refine GS.skip ?_ ?_ ?_; (· exact rfl); (· exact rfl))
    | fail
  refine Holds.niw 5 3 1 rfl ?_
  refine Holds.loop (ι := Nat) (fun i => ⟨[(1, .v (.int .i64 non)), (5, .own 1 1 0 (idxs (fun r : RuleT => r.1 == non) 0 (g.2.2.take i)).length), (9, .im 2 (rules g.2.2)), (10, .v (.int .i64 g.2.2.length)), (11, .v (.int .i64 i))], [(1, ⟨3, 1, ints (idxs (fun r : RuleT => r.1 == non) 0 (g.2.2.take i))⟩), (0, ⟨31, 3, [grammarC g]⟩)], 2⟩)
    (fun i => i ≤ g.2.2.length) (fun i => g.2.2.length - i) 0 (Nat.zero_le _) ?_ ?_
  · exact Cov.ofn (id) rfl (by simp [go_sem, List.take_of_length_le, ren, ren1, ren2, okr, okr1, okr2, ChkT, ChkN, BlkN, nf, niw, grammarC, idxs, show ints [] = [] from rfl]) (by simp [go_sem, List.take_of_length_le, ren, ren1, ren2, okr, okr1, okr2, ChkT, ChkN, BlkN, nf, niw, grammarC, idxs, show ints [] = [] from rfl])
  intro i hi
  have stepi : wr64 ((i : Int) + 1) = ((i + 1 : Nat) : Int) := wr64_id (by omega) (by omega)
  have hil : (idxs (fun r : RuleT => r.1 == non) 0 (g.2.2.take i)).length ≤ 16 := by have := idxs_len (fun r : RuleT => r.1 == non) (g.2.2.take i) 0; rw [List.length_take] at this; omega
  repeat' first
    | (refine Holds.condT ?_ ?_; (· (simp [go_sem, List.take_of_length_le] <;> with_reducible rfl)))
    | (refine Holds.condF ?_ ?_; (· (simp [go_sem, List.take_of_length_le] <;> with_reducible rfl)))
    | refine Holds.seq ?_
    | refine Holds.skip ?_
    | refine Holds.exit ?_
    | refine Holds.ret ?_
    | refine thenA_normal ?_
    | refine thenA_exit ?_
    | refine thenA_ret ?_
    | refine inB_normal ?_
    | refine inB_ret ?_
    | refine inB_here ?_
    | (refine inB_past ?_ ?_; (· exact rfl))
    | refine Holds.reg ?_
    | refine Holds.block ?_
    | refine GS.nil ?_
    | (refine GS.step (s' := ?_) ?_ ?_ ?_; rotate_left; (· exact rfl); (· (simp [go_sem, List.take_of_length_le] <;> with_reducible rfl)))
    | (refine GS.skip ?_ ?_ ?_; (· exact rfl); (· exact rfl))
    | fail
  refine Holds.cond rfl (fun h => ?_) (fun h => ?_)
  · have hlt : i < g.2.2.length := by simp at h; omega
    have hxi : g.2.2[i]? = some g.2.2[i] := List.getElem?_eq_getElem hlt
    generalize g.2.2[i] = r at hxi
    have hnx := idxs_next (fun r : RuleT => r.1 == non) hxi
    generalize idxs (fun r : RuleT => r.1 == non) 0 (g.2.2.take i) = L at hnx hil ⊢
    have hb : (L.length + 1) * 8 ≤ 140737488355328 := by omega
    cases he : (r.1 == non) with
    | true =>
      rw [he, if_pos rfl] at hnx
      repeat' first
        | (refine Holds.condT ?_ ?_; (· (simp [go_sem, List.take_of_length_le, get_E hxi, hxi, hlt, ruleC, he, hb] <;> with_reducible rfl)))
        | (refine Holds.condF ?_ ?_; (· (simp [go_sem, List.take_of_length_le, get_E hxi, hxi, hlt, ruleC, he, hb] <;> with_reducible rfl)))
        | refine Holds.seq ?_
        | refine Holds.skip ?_
        | refine Holds.exit ?_
        | refine Holds.ret ?_
        | refine thenA_normal ?_
        | refine thenA_exit ?_
        | refine thenA_ret ?_
        | refine inB_normal ?_
        | refine inB_ret ?_
        | refine inB_here ?_
        | (refine inB_past ?_ ?_; (· exact rfl))
        | refine Holds.reg ?_
        | refine Holds.block ?_
        | refine GS.nil ?_
        | (refine GS.step (s' := ?_) ?_ ?_ ?_; rotate_left; (· exact rfl); (· (simp [go_sem, List.take_of_length_le, get_E hxi, hxi, hlt, ruleC, he, hb] <;> with_reducible rfl)))
        | (refine GS.skip ?_ ?_ ?_; (· exact rfl); (· exact rfl))
        | fail
      refine ⟨i + 1, by omega, by omega, ?_⟩
      rw [stepi, hnx]
      exact Cov.ofn (nm [0, 5]) rfl (by simp [go_sem, List.take_of_length_le, ren, ren1, ren2, okr, okr1, okr2, ChkT, ChkN, BlkN, nf, grammarC, ints_snoc]) (by simp [go_sem, List.take_of_length_le, ren, ren1, ren2, okr, okr1, okr2, ChkT, ChkN, BlkN, nf, grammarC, ints_snoc])
    | false =>
      rw [he, if_neg (by simp)] at hnx
      rw [List.append_nil] at hnx
      repeat' first
        | (refine Holds.condT ?_ ?_; (· (simp [go_sem, List.take_of_length_le, get_E hxi, hxi, hlt, ruleC, he] <;> with_reducible rfl)))
        | (refine Holds.condF ?_ ?_; (· (simp [go_sem, List.take_of_length_le, get_E hxi, hxi, hlt, ruleC, he] <;> with_reducible rfl)))
        | refine Holds.seq ?_
        | refine Holds.skip ?_
        | refine Holds.exit ?_
        | refine Holds.ret ?_
        | refine thenA_normal ?_
        | refine thenA_exit ?_
        | refine thenA_ret ?_
        | refine inB_normal ?_
        | refine inB_ret ?_
        | refine inB_here ?_
        | (refine inB_past ?_ ?_; (· exact rfl))
        | refine Holds.reg ?_
        | refine Holds.block ?_
        | refine GS.nil ?_
        | (refine GS.step (s' := ?_) ?_ ?_ ?_; rotate_left; (· exact rfl); (· (simp [go_sem, List.take_of_length_le, get_E hxi, hxi, hlt, ruleC, he] <;> with_reducible rfl)))
        | (refine GS.skip ?_ ?_ ?_; (· exact rfl); (· exact rfl))
        | fail
      refine ⟨i + 1, by omega, by omega, ?_⟩
      rw [stepi, hnx]
      exact Cov.ofn (id) rfl (by simp [go_sem, List.take_of_length_le, ren, ren1, ren2, okr, okr1, okr2, ChkT, ChkN, BlkN, nf, grammarC]) (by simp [go_sem, List.take_of_length_le, ren, ren1, ren2, okr, okr1, okr2, ChkT, ChkN, BlkN, nf, grammarC])
  · have hle : i = g.2.2.length := by simp at h; omega
    subst hle
    rw [List.take_length]
    repeat' first
      | (refine Holds.condT ?_ ?_; (· (simp [go_sem, List.take_of_length_le] <;> with_reducible rfl)))
      | (refine Holds.condF ?_ ?_; (· (simp [go_sem, List.take_of_length_le] <;> with_reducible rfl)))
      | refine Holds.seq ?_
      | refine Holds.skip ?_
      | refine Holds.exit ?_
      | refine Holds.ret ?_
      | refine thenA_normal ?_
      | refine thenA_exit ?_
      | refine thenA_ret ?_
      | refine inB_normal ?_
      | refine inB_ret ?_
      | refine inB_here ?_
      | (refine inB_past ?_ ?_; (· exact rfl))
      | refine Holds.reg ?_
      | refine Holds.block ?_
      | refine GS.nil ?_
      | (refine GS.step (s' := ?_) ?_ ?_ ?_; rotate_left; (· exact rfl); (· (simp [go_sem, List.take_of_length_le] <;> with_reducible rfl)))
      | (refine GS.skip ?_ ?_ ?_; (· exact rfl); (· exact rfl))
      | fail
    refine Out.mk (xs := ?_) ?_ ?_ (by first | exact .inr rfl | exact .inl rfl)
    rotate_left
    · simp [go_sem, List.take_of_length_le] <;> with_reducible rfl
    exact Fz.all rfl rfl (by simp [rulesOf]) rfl (ints_cl _)
def symV (s : Option Int) : Int × Bool := match s with
  | some y => (y, true)
  | none => (0, false)
theorem l13At (g : GrammarT) (r d f : Nat) (hr : r < g.2.2.length) (hd : d ≤ (ruleN g r).2.length) : Pure Try.prog 49 [.ag (grammarC g), .ag (nodeC (itemN r d f))] (.tu [.v (.int .i64 (symV (symAt g (itemN r d f))).1), .v (.bool (symV (symAt g (itemN r d f))).2)]) := by
  rw [symAt_N]
  have hrr := ruleN_at hr
  generalize ruleN g r = R at hd hrr ⊢
  refine Pure.mk (rs := [.tmp 4, .tmp 5]) (nt := 24) Try.func49 (by kernel_rfl) rfl rfl rfl (by simp) ?_
  simp only [sl, grammarC, nodeC, itemN]
  by_cases hl : d = R.2.length
  · have hn : R.2[d]? = none := List.getElem?_eq_none (by omega)
    rw [hn, symV]
    repeat' first
      | (refine Holds.condT ?_ ?_; (· (simp [go_sem, List.take_of_length_le, get_E hrr, hrr, hr, ruleC, hl] <;> with_reducible rfl)))
      | (refine Holds.condF ?_ ?_; (· (simp [go_sem, List.take_of_length_le, get_E hrr, hrr, hr, ruleC, hl] <;> with_reducible rfl)))
      | refine Holds.seq ?_
      | refine Holds.skip ?_
      | refine Holds.exit ?_
      | refine Holds.ret ?_
      | refine thenA_normal ?_
      | refine thenA_exit ?_
      | refine thenA_ret ?_
      | refine inB_normal ?_
      | refine inB_ret ?_
      | refine inB_here ?_
      | (refine inB_past ?_ ?_; (· exact rfl))
      | refine Holds.reg ?_
      | refine Holds.block ?_
      | refine GS.nil ?_
      | (refine GS.step (s' := ?_) ?_ ?_ ?_; rotate_left; (· exact rfl); (· (simp [go_sem, List.take_of_length_le, get_E hrr, hrr, hr, ruleC, hl] <;> with_reducible rfl)))
      | (refine GS.skip ?_ ?_ ?_; (· exact rfl); (· exact rfl))
      | fail
    refine Out.mk (xs := ?_) ?_ ?_ (by first | exact .inr rfl | exact .inl rfl)
    rotate_left
    · simp [go_sem, List.take_of_length_le] <;> with_reducible rfl
    exact Fz.cl rfl
  · have hdl : d < R.2.length := by omega
    have hx : R.2[d]? = some R.2[d] := List.getElem?_eq_getElem hdl
    generalize R.2[d] = y at hx
    have hl' : ((d : Int) == (R.2.length : Int)) = false := by simp; omega
    have hl2 : ¬ (d : Int) = (R.2.length : Int) := by omega
    rw [hx, symV]
    repeat' first
      | (refine Holds.condT ?_ ?_; (· (simp [go_sem, List.take_of_length_le, get_E hrr, hrr, hr, ruleC, hl, hl', hl2, hdl, get_E hx, hx] <;> with_reducible rfl)))
      | (refine Holds.condF ?_ ?_; (· (simp [go_sem, List.take_of_length_le, get_E hrr, hrr, hr, ruleC, hl, hl', hl2, hdl, get_E hx, hx] <;> with_reducible rfl)))
      | refine Holds.seq ?_
      | refine Holds.skip ?_
      | refine Holds.exit ?_
      | refine Holds.ret ?_
      | refine thenA_normal ?_
      | refine thenA_exit ?_
      | refine thenA_ret ?_
      | refine inB_normal ?_
      | refine inB_ret ?_
      | refine inB_here ?_
      | (refine inB_past ?_ ?_; (· exact rfl))
      | refine Holds.reg ?_
      | refine Holds.block ?_
      | refine GS.nil ?_
      | (refine GS.step (s' := ?_) ?_ ?_ ?_; rotate_left; (· exact rfl); (· (simp [go_sem, List.take_of_length_le, get_E hrr, hrr, hr, ruleC, hl, hl', hl2, hdl, get_E hx, hx] <;> with_reducible rfl)))
      | (refine GS.skip ?_ ?_ ?_; (· exact rfl); (· exact rfl))
      | fail
    refine Out.mk (xs := ?_) ?_ ?_ (by first | exact .inr rfl | exact .inl rfl)
    rotate_left
    · simp [go_sem, List.take_of_length_le] <;> with_reducible rfl
    exact Fz.cl rfl
def moreL (g : GrammarT) (sets : Sets3) (p : Nat) (x : Item3) : List Item3 := match symAt g x with
  | some y => if 0 ≤ y then (rulesOf g y).map fun r => (r, 0, (p : Int)) else []
  | none => ((at3 sets x.2.2.toNat).filter fun z => decide (symAt g z = some (ruleN g x.1.toNat).1)).map advI
def advL (l : List Item3) : List Item3 := l.map advI
@[simp] theorem advL_len (l : List Item3) : (advL l).length = l.length := by simp [advL]
theorem advL_snoc (l : List Item3) (r d f : Nat) : advL (l ++ [itemN r d f]) = advL l ++ [((r : Int), (d : Int) + 1, (f : Int))] := by simp [advL, advI, itemN]
def wfI (g : GrammarT) (z : Item3) : Prop := ∃ r d f : Nat, z = itemN r d f ∧ r < g.2.2.length ∧ d ≤ (ruleN g r).2.length
theorem rulesOf_len (g : GrammarT) (non : Int) : (rulesOf g non).length ≤ g.2.2.length := idxs_len _ _ _
theorem nodes_snoc1 (l : List Node3) (a b c : Int) : nodes l ++ [[.v (.int .i64 a), .v (.int .i64 b), .v (.int .i64 c)]] = nodes (l ++ [(a, b, c)]) := by simp [nodes, nodeC]
theorem l13More (g : GrammarT) (hg : g.2.2.length ≤ 16) (hg4 : ∀ r, r < g.2.2.length → (ruleN g r).2.length ≤ 4) (sets : Sets3) (p r d f : Nat) (hr : r < g.2.2.length) (hd : d ≤ (ruleN g r).2.length) (hf : f < sets.length) (hfl : (at3 sets f).length ≤ 880) (hw : ∀ z ∈ at3 sets f, wfI g z) : Fn Try.prog 78 0 [.ag (grammarC g), .im 1 (itemss sets), .v (.int .i64 p), .ag (nodeC (itemN r d f))] [] (.own 0 3 0 (moreL g sets p (itemN r d f)).length) 1 [(0, ⟨56, 3, nodes (moreL g sets p (itemN r d f))⟩)] := by
  have ca := l13At g r d f hr hd
  have hm : moreL g sets p (itemN r d f) = match symAt g (itemN r d f) with
    | some y => if 0 ≤ y then (rulesOf g y).map fun r => (r, 0, (p : Int)) else []
    | none => ((at3 sets f).filter fun z => decide (symAt g z = some (ruleN g r).1)).map advI := rfl
  rw [hm]
  generalize hV : (match symAt g (itemN r d f) with
    | some y => if 0 ≤ y then (rulesOf g y).map fun r => (r, 0, (p : Int)) else []
    | none => ((at3 sets f).filter fun z => decide (symAt g z = some (ruleN g r).1)).map advI) = V
  clear hm
  have hrr := ruleN_at hr
  simp only [itemN, nodeC] at ca
  refine Fn.mk (rs := [.tmp 8]) (nt := 84) Try.func78 (by kernel_rfl) rfl rfl rfl (by simp) ?_
  simp only [sl, grammarC, nodeC, itemN]
  repeat' first
    | (refine Holds.condT ?_ ?_; (· (simp [go_sem, List.take_of_length_le] <;> with_reducible rfl)))
    | (refine Holds.condF ?_ ?_; (· (simp [go_sem, List.take_of_length_le] <;> with_reducible rfl)))
    | refine Holds.seq ?_
    | refine Holds.skip ?_
    | refine Holds.exit ?_
    | refine Holds.ret ?_
    | refine thenA_normal ?_
    | refine thenA_exit ?_
    | refine thenA_ret ?_
    | refine inB_normal ?_
    | refine inB_ret ?_
    | refine inB_here ?_
    | (refine inB_past ?_ ?_; (· exact rfl))
    | refine Holds.reg ?_
    | refine Holds.block ?_
    | refine GS.nil ?_
    | (refine GS.step (s' := ?_) ?_ ?_ ?_; rotate_left; (· exact rfl); (· (simp [go_sem, List.take_of_length_le] <;> with_reducible rfl)))
    | (refine GS.skip ?_ ?_ ?_; (· exact rfl); (· exact rfl))
    | fail
  cases hs : symAt g (itemN r d f) with
  | some y =>
    rw [show symAt g (↑r, ↑d, ↑f) = some y from hs] at ca
    simp only [symV] at ca
    rw [hs] at hV
    dsimp only at hV
    refine GS.cc (ca) rfl rfl rfl rfl (by simp [go_sem, List.take_of_length_le, grammarC] <;> with_reducible rfl) rfl (by simp [go_sem, List.take_of_length_le, grammarC]) ?_
    by_cases hy : 0 ≤ y
    · rw [if_pos hy] at hV
      subst hV
      have cr := l1Rules g y hg
      have hll := rulesOf_len g y
      generalize rulesOf g y = is at cr hll ⊢
      have hyl : (is.map fun r => ((r, 0, (p : Int)) : Item3)).length = is.length := by simp
      have hyg : ∀ (i : Nat) (k : Int), is[i]? = some k → (is.map fun r => ((r, 0, (p : Int)) : Item3))[i]? = some (k, 0, (p : Int)) := fun i k h => by simp [h]
      generalize (is.map fun r => ((r, 0, (p : Int)) : Item3)) = ys at hyl hyg ⊢
      repeat' first
        | (refine Holds.condT ?_ ?_; (· (simp [go_sem, List.take_of_length_le, hy, grammarC] <;> with_reducible rfl)))
        | (refine Holds.condF ?_ ?_; (· (simp [go_sem, List.take_of_length_le, hy, grammarC] <;> with_reducible rfl)))
        | refine Holds.seq ?_
        | refine Holds.skip ?_
        | refine Holds.exit ?_
        | refine Holds.ret ?_
        | refine thenA_normal ?_
        | refine thenA_exit ?_
        | refine thenA_ret ?_
        | refine inB_normal ?_
        | refine inB_ret ?_
        | refine inB_here ?_
        | (refine inB_past ?_ ?_; (· exact rfl))
        | refine Holds.reg ?_
        | refine Holds.block ?_
        | refine GS.nil ?_
        | (refine GS.step (s' := ?_) ?_ ?_ ?_; rotate_left; (· exact rfl); (· (simp [go_sem, List.take_of_length_le, hy, grammarC] <;> with_reducible rfl)))
        | (refine GS.skip ?_ ?_ ?_; (· exact rfl); (· exact rfl))
        | fail
      refine GS.cc (cr) rfl rfl rfl rfl (by simp [go_sem, List.take_of_length_le, grammarC] <;> with_reducible rfl) rfl (by simp [go_sem, List.take_of_length_le, grammarC]) ?_
      repeat' first
        | (refine Holds.condT ?_ ?_; (· (simp [go_sem, List.take_of_length_le] <;> with_reducible rfl)))
        | (refine Holds.condF ?_ ?_; (· (simp [go_sem, List.take_of_length_le] <;> with_reducible rfl)))
        | refine Holds.seq ?_
        | refine Holds.skip ?_
        | refine Holds.exit ?_
        | refine Holds.ret ?_
        | refine thenA_normal ?_
        | refine thenA_exit ?_
        | refine thenA_ret ?_
        | refine inB_normal ?_
        | refine inB_ret ?_
        | refine inB_here ?_
        | (refine inB_past ?_ ?_; (· exact rfl))
        | refine Holds.reg ?_
        | refine Holds.block ?_
        | refine GS.nil ?_
        | (refine GS.step (s' := ?_) ?_ ?_ ?_; rotate_left; (· exact rfl); (· (simp [go_sem, List.take_of_length_le] <;> with_reducible rfl)))
        | (refine GS.skip ?_ ?_ ?_; (· exact rfl); (· exact rfl))
        | fail
      refine Holds.niw 9 56 3 rfl ?_
      refine Holds.loop (ι := Nat) (fun i => ⟨[(2, .v (.int .i64 p)), (9, .own 2 3 0 i), (29, .im 1 (ints is)), (30, .v (.int .i64 is.length)), (31, .v (.int .i64 i))], [(2, ⟨56, 3, nodes (ys.take i)⟩), (1, ⟨56, 3, [nodeC (itemN r d f)]⟩), (0, ⟨31, 3, [grammarC g]⟩)], 3⟩)
        (fun i => i ≤ is.length) (fun i => is.length - i) 0 (Nat.zero_le _) ?_ ?_
      · exact Cov.ofn (id) rfl (by simp [go_sem, List.take_of_length_le, ren, ren1, ren2, okr, okr1, okr2, ChkT, ChkN, BlkN, nf, niw, grammarC, nodeC, itemN, show nodes [] = [] from rfl]) (by simp [go_sem, List.take_of_length_le, ren, ren1, ren2, okr, okr1, okr2, ChkT, ChkN, BlkN, nf, niw, grammarC, nodeC, itemN, show nodes [] = [] from rfl])
      intro i hi
      have stepi : wr64 ((i : Int) + 1) = ((i + 1 : Nat) : Int) := wr64_id (by omega) (by omega)
      repeat' first
        | (refine Holds.condT ?_ ?_; (· (simp [go_sem, List.take_of_length_le] <;> with_reducible rfl)))
        | (refine Holds.condF ?_ ?_; (· (simp [go_sem, List.take_of_length_le] <;> with_reducible rfl)))
        | refine Holds.seq ?_
        | refine Holds.skip ?_
        | refine Holds.exit ?_
        | refine Holds.ret ?_
        | refine thenA_normal ?_
        | refine thenA_exit ?_
        | refine thenA_ret ?_
        | refine inB_normal ?_
        | refine inB_ret ?_
        | refine inB_here ?_
        | (refine inB_past ?_ ?_; (· exact rfl))
        | refine Holds.reg ?_
        | refine Holds.block ?_
        | refine GS.nil ?_
        | (refine GS.step (s' := ?_) ?_ ?_ ?_; rotate_left; (· exact rfl); (· (simp [go_sem, List.take_of_length_le] <;> with_reducible rfl)))
        | (refine GS.skip ?_ ?_ ?_; (· exact rfl); (· exact rfl))
        | fail
      refine Holds.cond rfl (fun h => ?_) (fun h => ?_)
      · have hlt : i < is.length := by simp at h; omega
        have hxi : is[i]? = some is[i] := List.getElem?_eq_getElem hlt
        generalize is[i] = k at hxi
        have hnx : ys.take (i + 1) = ys.take i ++ [(k, 0, (p : Int))] := by rw [List.take_add_one, hyg i k hxi]; rfl
        have hml : (ys.take i).length = i := by rw [List.length_take]; omega
        generalize ys.take i = L at hnx hml ⊢
        have hb : (i + 1) * 24 ≤ 140737488355328 := by omega
        repeat' first
          | (refine Holds.condT ?_ ?_; (· (simp [go_sem, List.take_of_length_le, get_E hxi, hxi, hlt, hml, hb] <;> with_reducible rfl)))
          | (refine Holds.condF ?_ ?_; (· (simp [go_sem, List.take_of_length_le, get_E hxi, hxi, hlt, hml, hb] <;> with_reducible rfl)))
          | refine Holds.seq ?_
          | refine Holds.skip ?_
          | refine Holds.exit ?_
          | refine Holds.ret ?_
          | refine thenA_normal ?_
          | refine thenA_exit ?_
          | refine thenA_ret ?_
          | refine inB_normal ?_
          | refine inB_ret ?_
          | refine inB_here ?_
          | (refine inB_past ?_ ?_; (· exact rfl))
          | refine Holds.reg ?_
          | refine Holds.block ?_
          | refine GS.nil ?_
          | (refine GS.step (s' := ?_) ?_ ?_ ?_; rotate_left; (· exact rfl); (· (simp [go_sem, List.take_of_length_le, get_E hxi, hxi, hlt, hml, hb] <;> with_reducible rfl)))
          | (refine GS.skip ?_ ?_ ?_; (· exact rfl); (· exact rfl))
          | fail
        refine ⟨i + 1, by omega, by omega, ?_⟩
        rw [stepi, hnx]
        exact Cov.ofn (nm [0, 1, 5]) rfl (by simp [go_sem, List.take_of_length_le, ren, ren1, ren2, okr, okr1, okr2, ChkT, ChkN, BlkN, nf, grammarC, nodeC, itemN, nodes_snoc1, hml]) (by simp [go_sem, List.take_of_length_le, ren, ren1, ren2, okr, okr1, okr2, ChkT, ChkN, BlkN, nf, grammarC, nodeC, itemN, nodes_snoc1, hml])
      · have hle : i = is.length := by simp at h; omega
        subst hle
        rw [List.take_of_length_le (by omega)]
        repeat' first
          | (refine Holds.condT ?_ ?_; (· (simp [go_sem, List.take_of_length_le] <;> with_reducible rfl)))
          | (refine Holds.condF ?_ ?_; (· (simp [go_sem, List.take_of_length_le] <;> with_reducible rfl)))
          | refine Holds.seq ?_
          | refine Holds.skip ?_
          | refine Holds.exit ?_
          | refine Holds.ret ?_
          | refine thenA_normal ?_
          | refine thenA_exit ?_
          | refine thenA_ret ?_
          | refine inB_normal ?_
          | refine inB_ret ?_
          | refine inB_here ?_
          | (refine inB_past ?_ ?_; (· exact rfl))
          | refine Holds.reg ?_
          | refine Holds.block ?_
          | refine GS.nil ?_
          | (refine GS.step (s' := ?_) ?_ ?_ ?_; rotate_left; (· exact rfl); (· (simp [go_sem, List.take_of_length_le] <;> with_reducible rfl)))
          | (refine GS.skip ?_ ?_ ?_; (· exact rfl); (· exact rfl))
          | fail
        refine OutF.mkn (xs := ?_) (nm [2]) ?_ ?_ ?_ ?_ ?_ (by first | exact .inr rfl | exact .inl rfl)
        rotate_left
        · simp [go_sem, List.take_of_length_le, hyl] <;> with_reducible rfl
        · simp [go_sem, List.take_of_length_le, ren, ren1, ren2, okr, okr1, okr2, ChkN, BlkN, List.range_succ, nf, hyl]
        · simp [go_sem, List.take_of_length_le, ren, ren1, ren2, okr, okr1, okr2, ChkN, BlkN, List.range_succ, nf, hyl]
        · simp [go_sem, List.take_of_length_le, ren, ren1, ren2, okr, okr1, okr2, ChkN, BlkN, List.range_succ, nf, hyl]
        · rfl
    · rw [if_neg hy] at hV
      subst hV
      repeat' first
        | (refine Holds.condT ?_ ?_; (· (simp [go_sem, List.take_of_length_le, hy] <;> with_reducible rfl)))
        | (refine Holds.condF ?_ ?_; (· (simp [go_sem, List.take_of_length_le, hy] <;> with_reducible rfl)))
        | refine Holds.seq ?_
        | refine Holds.skip ?_
        | refine Holds.exit ?_
        | refine Holds.ret ?_
        | refine thenA_normal ?_
        | refine thenA_exit ?_
        | refine thenA_ret ?_
        | refine inB_normal ?_
        | refine inB_ret ?_
        | refine inB_here ?_
        | (refine inB_past ?_ ?_; (· exact rfl))
        | refine Holds.reg ?_
        | refine Holds.block ?_
        | refine GS.nil ?_
        | (refine GS.step (s' := ?_) ?_ ?_ ?_; rotate_left; (· exact rfl); (· (simp [go_sem, List.take_of_length_le, hy] <;> with_reducible rfl)))
        | (refine GS.skip ?_ ?_ ?_; (· exact rfl); (· exact rfl))
        | fail
      refine OutF.cov (Cov.niw (t := 8) 56 3 rfl) ?_
      refine OutF.mkn (xs := ?_) (nm [2]) ?_ ?_ ?_ ?_ ?_ (by first | exact .inr rfl | exact .inl rfl)
      rotate_left
      · simp [go_sem, List.take_of_length_le, niw, show nodes [] = [] from rfl] <;> with_reducible rfl
      · simp [go_sem, List.take_of_length_le, ren, ren1, ren2, okr, okr1, okr2, ChkN, BlkN, List.range_succ, nf, niw, show nodes [] = [] from rfl]
      · simp [go_sem, List.take_of_length_le, ren, ren1, ren2, okr, okr1, okr2, ChkN, BlkN, List.range_succ, nf, niw, show nodes [] = [] from rfl]
      · simp [go_sem, List.take_of_length_le, ren, ren1, ren2, okr, okr1, okr2, ChkN, BlkN, List.range_succ, nf, niw, show nodes [] = [] from rfl]
      · rfl
  | none =>
    rw [show symAt g (↑r, ↑d, ↑f) = none from hs] at ca
    simp only [symV] at ca
    rw [hs] at hV
    change advL _ = V at hV
    subst hV
    have hF : sets[f]? = some (at3 sets f) := by rw [at3, List.getD_eq_getElem?_getD, List.getElem?_eq_getElem hf]; rfl
    generalize at3 sets f = F at hF hfl hw ⊢
    have hlf : ∀ i, ((F.take i).filter fun z => decide (symAt g z = some (ruleN g r).1)).length ≤ 880 := fun i => by
      have h1 := List.length_filter_le (fun z => decide (symAt g z = some (ruleN g r).1)) (F.take i)
      rw [List.length_take] at h1; omega
    refine GS.cc (ca) rfl rfl rfl rfl (by simp [go_sem, List.take_of_length_le, grammarC] <;> with_reducible rfl) rfl (by simp [go_sem, List.take_of_length_le, grammarC]) ?_
    repeat' first
      | (refine Holds.condT ?_ ?_; (· (simp [go_sem, List.take_of_length_le, get_E hF, hF, hf, itemssC] <;> with_reducible rfl)))
      | (refine Holds.condF ?_ ?_; (· (simp [go_sem, List.take_of_length_le, get_E hF, hF, hf, itemssC] <;> with_reducible rfl)))
      | refine Holds.seq ?_
      | refine Holds.skip ?_
      | refine Holds.exit ?_
      | refine Holds.ret ?_
      | refine thenA_normal ?_
      | refine thenA_exit ?_
      | refine thenA_ret ?_
      | refine inB_normal ?_
      | refine inB_ret ?_
      | refine inB_here ?_
      | (refine inB_past ?_ ?_; (· exact rfl))
      | refine Holds.reg ?_
      | refine Holds.block ?_
      | refine GS.nil ?_
      | (refine GS.step (s' := ?_) ?_ ?_ ?_; rotate_left; (· exact rfl); (· (simp [go_sem, List.take_of_length_le, get_E hF, hF, hf, itemssC] <;> with_reducible rfl)))
      | (refine GS.skip ?_ ?_ ?_; (· exact rfl); (· exact rfl))
      | fail
    refine Holds.niw 9 56 3 rfl ?_
    refine Holds.loop (ι := Nat) (fun i => ⟨[(4, .pb 0 3 0 0), (7, .pb 1 3 0 0), (9, .own 2 3 0 ((F.take i).filter fun z => decide (symAt g z = some (ruleN g r).1)).length), (47, .im 3 (nodes F)), (48, .v (.int .i64 F.length)), (49, .v (.int .i64 i))], [(2, ⟨56, 3, nodes (advL ((F.take i).filter fun z => decide (symAt g z = some (ruleN g r).1)))⟩), (1, ⟨56, 3, [nodeC (itemN r d f)]⟩), (0, ⟨31, 3, [grammarC g]⟩)], 3⟩)
      (fun i => i ≤ F.length) (fun i => F.length - i) 0 (Nat.zero_le _) ?_ ?_
    · exact Cov.ofn (id) rfl (by simp [go_sem, List.take_of_length_le, ren, ren1, ren2, okr, okr1, okr2, ChkT, ChkN, BlkN, nf, niw, grammarC, nodeC, itemN, show advL [] = [] from rfl, show nodes [] = [] from rfl]) (by simp [go_sem, List.take_of_length_le, ren, ren1, ren2, okr, okr1, okr2, ChkT, ChkN, BlkN, nf, niw, grammarC, nodeC, itemN, show advL [] = [] from rfl, show nodes [] = [] from rfl])
    intro i hi
    have stepi : wr64 ((i : Int) + 1) = ((i + 1 : Nat) : Int) := wr64_id (by omega) (by omega)
    repeat' first
      | (refine Holds.condT ?_ ?_; (· (simp [go_sem, List.take_of_length_le] <;> with_reducible rfl)))
      | (refine Holds.condF ?_ ?_; (· (simp [go_sem, List.take_of_length_le] <;> with_reducible rfl)))
      | refine Holds.seq ?_
      | refine Holds.skip ?_
      | refine Holds.exit ?_
      | refine Holds.ret ?_
      | refine thenA_normal ?_
      | refine thenA_exit ?_
      | refine thenA_ret ?_
      | refine inB_normal ?_
      | refine inB_ret ?_
      | refine inB_here ?_
      | (refine inB_past ?_ ?_; (· exact rfl))
      | refine Holds.reg ?_
      | refine Holds.block ?_
      | refine GS.nil ?_
      | (refine GS.step (s' := ?_) ?_ ?_ ?_; rotate_left; (· exact rfl); (· (simp [go_sem, List.take_of_length_le] <;> with_reducible rfl)))
      | (refine GS.skip ?_ ?_ ?_; (· exact rfl); (· exact rfl))
      | fail
    refine Holds.cond rfl (fun h => ?_) (fun h => ?_)
    · have hlt : i < F.length := by simp at h; omega
      have hxi : F[i]? = some F[i] := List.getElem?_eq_getElem hlt
      obtain ⟨r2, d2, f2, e, hr2, hd2⟩ := hw _ (List.getElem_mem hlt)
      rw [e] at hxi
      have cz := l13At g r2 d2 f2 hr2 hd2
      simp only [itemN, nodeC] at cz
      have hll := hlf i
      have hnx : (F.take (i + 1)).filter (fun z => decide (symAt g z = some (ruleN g r).1)) = (F.take i).filter (fun z => decide (symAt g z = some (ruleN g r).1)) ++ if symAt g (itemN r2 d2 f2) = some (ruleN g r).1 then [itemN r2 d2 f2] else [] := by
        rw [List.take_add_one, hxi, Option.toList_some, List.filter_append]
        by_cases hc : symAt g (itemN r2 d2 f2) = some (ruleN g r).1 <;> simp [hc]
      generalize (F.take i).filter (fun z => decide (symAt g z = some (ruleN g r).1)) = L at hnx hll ⊢
      have hb : (L.length + 1) * 24 ≤ 140737488355328 := by omega
      have hw2 : wr64 ((d2 : Int) + 1) = (d2 : Int) + 1 := wr64_id (by omega) (by have := hg4 r2 hr2; omega)
      repeat' first
        | (refine Holds.condT ?_ ?_; (· (simp [go_sem, List.take_of_length_le, get_E hxi, hxi, hlt, nodeC, itemN, grammarC] <;> with_reducible rfl)))
        | (refine Holds.condF ?_ ?_; (· (simp [go_sem, List.take_of_length_le, get_E hxi, hxi, hlt, nodeC, itemN, grammarC] <;> with_reducible rfl)))
        | refine Holds.seq ?_
        | refine Holds.skip ?_
        | refine Holds.exit ?_
        | refine Holds.ret ?_
        | refine thenA_normal ?_
        | refine thenA_exit ?_
        | refine thenA_ret ?_
        | refine inB_normal ?_
        | refine inB_ret ?_
        | refine inB_here ?_
        | (refine inB_past ?_ ?_; (· exact rfl))
        | refine Holds.reg ?_
        | refine Holds.block ?_
        | refine GS.nil ?_
        | (refine GS.step (s' := ?_) ?_ ?_ ?_; rotate_left; (· exact rfl); (· (simp [go_sem, List.take_of_length_le, get_E hxi, hxi, hlt, nodeC, itemN, grammarC] <;> with_reducible rfl)))
        | (refine GS.skip ?_ ?_ ?_; (· exact rfl); (· exact rfl))
        | fail
      cases hs2 : symAt g (itemN r2 d2 f2) with
      | none =>
        rw [hs2, if_neg (by simp), List.append_nil] at hnx
        rw [show symAt g (↑r2, ↑d2, ↑f2) = none from hs2] at cz
        simp only [symV] at cz
        refine GS.cc (cz) rfl rfl rfl rfl (by simp [go_sem, List.take_of_length_le, grammarC] <;> with_reducible rfl) rfl (by simp [go_sem, List.take_of_length_le, grammarC]) ?_
        repeat' first
          | (refine Holds.condT ?_ ?_; (· (simp [go_sem, List.take_of_length_le] <;> with_reducible rfl)))
          | (refine Holds.condF ?_ ?_; (· (simp [go_sem, List.take_of_length_le] <;> with_reducible rfl)))
          | refine Holds.seq ?_
          | refine Holds.skip ?_
          | refine Holds.exit ?_
          | refine Holds.ret ?_
          | refine thenA_normal ?_
          | refine thenA_exit ?_
          | refine thenA_ret ?_
          | refine inB_normal ?_
          | refine inB_ret ?_
          | refine inB_here ?_
          | (refine inB_past ?_ ?_; (· exact rfl))
          | refine Holds.reg ?_
          | refine Holds.block ?_
          | refine GS.nil ?_
          | (refine GS.step (s' := ?_) ?_ ?_ ?_; rotate_left; (· exact rfl); (· (simp [go_sem, List.take_of_length_le] <;> with_reducible rfl)))
          | (refine GS.skip ?_ ?_ ?_; (· exact rfl); (· exact rfl))
          | fail
        refine ⟨i + 1, by omega, by omega, ?_⟩
        rw [stepi, hnx]
        exact Cov.ofn (id) rfl (by simp [go_sem, List.take_of_length_le, ren, ren1, ren2, okr, okr1, okr2, ChkT, ChkN, BlkN, nf, grammarC, nodeC, itemN]) (by simp [go_sem, List.take_of_length_le, ren, ren1, ren2, okr, okr1, okr2, ChkT, ChkN, BlkN, nf, grammarC, nodeC, itemN])
      | some y2 =>
        rw [hs2] at hnx
        rw [show symAt g (↑r2, ↑d2, ↑f2) = some y2 from hs2] at cz
        simp only [symV] at cz
        refine GS.cc (cz) rfl rfl rfl rfl (by simp [go_sem, List.take_of_length_le, grammarC] <;> with_reducible rfl) rfl (by simp [go_sem, List.take_of_length_le, grammarC]) ?_
        by_cases hyl : y2 = (ruleN g r).1
        · have hyl' : (y2 == (ruleN g r).1) = true := by simp [hyl]
          rw [if_pos (by rw [hyl])] at hnx
          repeat' first
            | (refine Holds.condT ?_ ?_; (· (simp [go_sem, List.take_of_length_le, get_E hrr, hrr, hr, ruleC, hyl', hw2, hb, nodeC, itemN, grammarC] <;> with_reducible rfl)))
            | (refine Holds.condF ?_ ?_; (· (simp [go_sem, List.take_of_length_le, get_E hrr, hrr, hr, ruleC, hyl', hw2, hb, nodeC, itemN, grammarC] <;> with_reducible rfl)))
            | refine Holds.seq ?_
            | refine Holds.skip ?_
            | refine Holds.exit ?_
            | refine Holds.ret ?_
            | refine thenA_normal ?_
            | refine thenA_exit ?_
            | refine thenA_ret ?_
            | refine inB_normal ?_
            | refine inB_ret ?_
            | refine inB_here ?_
            | (refine inB_past ?_ ?_; (· exact rfl))
            | refine Holds.reg ?_
            | refine Holds.block ?_
            | refine GS.nil ?_
            | (refine GS.step (s' := ?_) ?_ ?_ ?_; rotate_left; (· exact rfl); (· (simp [go_sem, List.take_of_length_le, get_E hrr, hrr, hr, ruleC, hyl', hw2, hb, nodeC, itemN, grammarC] <;> with_reducible rfl)))
            | (refine GS.skip ?_ ?_ ?_; (· exact rfl); (· exact rfl))
            | fail
          refine ⟨i + 1, by omega, by omega, ?_⟩
          rw [stepi, hnx, advL_snoc]
          exact Cov.ofn (nm [0, 1, 6]) rfl (by simp [go_sem, List.take_of_length_le, ren, ren1, ren2, okr, okr1, okr2, ChkT, ChkN, BlkN, nf, grammarC, nodeC, itemN, nodes_snoc1]) (by simp [go_sem, List.take_of_length_le, ren, ren1, ren2, okr, okr1, okr2, ChkT, ChkN, BlkN, nf, grammarC, nodeC, itemN, nodes_snoc1])
        · have hyl' : (y2 == (ruleN g r).1) = false := by simp [hyl]
          rw [if_neg (by intro e; injection e with e; exact hyl e), List.append_nil] at hnx
          repeat' first
            | (refine Holds.condT ?_ ?_; (· (simp [go_sem, List.take_of_length_le, get_E hrr, hrr, hr, ruleC, hyl', nodeC, itemN, grammarC] <;> with_reducible rfl)))
            | (refine Holds.condF ?_ ?_; (· (simp [go_sem, List.take_of_length_le, get_E hrr, hrr, hr, ruleC, hyl', nodeC, itemN, grammarC] <;> with_reducible rfl)))
            | refine Holds.seq ?_
            | refine Holds.skip ?_
            | refine Holds.exit ?_
            | refine Holds.ret ?_
            | refine thenA_normal ?_
            | refine thenA_exit ?_
            | refine thenA_ret ?_
            | refine inB_normal ?_
            | refine inB_ret ?_
            | refine inB_here ?_
            | (refine inB_past ?_ ?_; (· exact rfl))
            | refine Holds.reg ?_
            | refine Holds.block ?_
            | refine GS.nil ?_
            | (refine GS.step (s' := ?_) ?_ ?_ ?_; rotate_left; (· exact rfl); (· (simp [go_sem, List.take_of_length_le, get_E hrr, hrr, hr, ruleC, hyl', nodeC, itemN, grammarC] <;> with_reducible rfl)))
            | (refine GS.skip ?_ ?_ ?_; (· exact rfl); (· exact rfl))
            | fail
          refine ⟨i + 1, by omega, by omega, ?_⟩
          rw [stepi, hnx]
          exact Cov.ofn (id) rfl (by simp [go_sem, List.take_of_length_le, ren, ren1, ren2, okr, okr1, okr2, ChkT, ChkN, BlkN, nf, grammarC, nodeC, itemN]) (by simp [go_sem, List.take_of_length_le, ren, ren1, ren2, okr, okr1, okr2, ChkT, ChkN, BlkN, nf, grammarC, nodeC, itemN])
    · have hle : i = F.length := by simp at h; omega
      subst hle
      rw [List.take_length]
      repeat' first
        | (refine Holds.condT ?_ ?_; (· (simp [go_sem, List.take_of_length_le] <;> with_reducible rfl)))
        | (refine Holds.condF ?_ ?_; (· (simp [go_sem, List.take_of_length_le] <;> with_reducible rfl)))
        | refine Holds.seq ?_
        | refine Holds.skip ?_
        | refine Holds.exit ?_
        | refine Holds.ret ?_
        | refine thenA_normal ?_
        | refine thenA_exit ?_
        | refine thenA_ret ?_
        | refine inB_normal ?_
        | refine inB_ret ?_
        | refine inB_here ?_
        | (refine inB_past ?_ ?_; (· exact rfl))
        | refine Holds.reg ?_
        | refine Holds.block ?_
        | refine GS.nil ?_
        | (refine GS.step (s' := ?_) ?_ ?_ ?_; rotate_left; (· exact rfl); (· (simp [go_sem, List.take_of_length_le] <;> with_reducible rfl)))
        | (refine GS.skip ?_ ?_ ?_; (· exact rfl); (· exact rfl))
        | fail
      refine OutF.mkn (xs := ?_) (nm [2]) ?_ ?_ ?_ ?_ ?_ (by first | exact .inr rfl | exact .inl rfl)
      rotate_left
      · simp [go_sem, List.take_of_length_le] <;> with_reducible rfl
      · simp [go_sem, List.take_of_length_le, ren, ren1, ren2, okr, okr1, okr2, ChkN, BlkN, List.range_succ, nf]
      · simp [go_sem, List.take_of_length_le, ren, ren1, ren2, okr, okr1, okr2, ChkN, BlkN, List.range_succ, nf]
      · simp [go_sem, List.take_of_length_le, ren, ren1, ren2, okr, okr1, okr2, ChkN, BlkN, List.range_succ, nf]
      · rfl
end Go.Proofs.Ytabdnpgahdbciaa.En
end
section
namespace Go.Proofs.Ytabdnpgahdbciaa.En
open Go.RowKit
set_option linter.unusedSimpArgs false
set_option linter.unusedVariables false
set_option maxHeartbeats 4000000
theorem sortI_ext : ∀ {x y : List Item3}, SortI x → SortI y → (∀ z, z ∈ x ↔ z ∈ y) → x = y
  | [], [], _, _, _ => rfl
  | [], v :: y, _, _, h3 => by have := (h3 v).2 (by simp); cases this
  | u :: x, [], _, _, h3 => by have := (h3 u).1 (by simp); cases this
  | u :: x, v :: y, h1, h2, h3 => by
    have hu := (List.pairwise_cons.1 h1).1
    have hv := (List.pairwise_cons.1 h2).1
    have huv : u = v := by
      rcases List.mem_cons.1 ((h3 u).1 (by simp)) with e | e
      · exact e
      · have l1 := hv u e
        rcases List.mem_cons.1 ((h3 v).2 (by simp)) with e2 | e2
        · exact e2.symm
        · have l2 := hu v e2
          have := lessI_trans l1 l2
          rw [lessI_irr] at this; cases this
    subst huv
    congr 1
    refine sortI_ext (List.pairwise_cons.1 h1).2 (List.pairwise_cons.1 h2).2 fun z => ?_
    constructor
    · intro hz
      rcases List.mem_cons.1 ((h3 z).1 (by simp [hz])) with e | e
      · subst e; have := hu z hz; rw [lessI_irr] at this; cases this
      · exact e
    · intro hz
      rcases List.mem_cons.1 ((h3 z).2 (by simp [hz])) with e | e
      · subst e; have := hv z hz; rw [lessI_irr] at this; cases this
      · exact e
def Srt (sets : Sets3) : Prop := ∀ p, SortI (at3 sets p)
theorem Srt.put {sets : Sets3} (h : Srt sets) {p : Nat} (hp : p < sets.length) (x : Item3) : Srt (sets.set p (putI (at3 sets p) x)) := fun q => by
  by_cases e : p = q
  · subst e; rw [at3_set hp]; exact putI_sort (h p) x
  · rw [at3_ne e]; exact h q
theorem idxs_iff {α : Type} (q : α → Bool) : ∀ (xs : List α) (k : Nat) (z : Int), z ∈ idxs q k xs ↔ ∃ (j : Nat) (x : α), z = ((k + j : Nat) : Int) ∧ xs[j]? = some x ∧ q x = true
  | [], k, z => by simp [idxs]
  | x :: xs, k, z => by
    have ih := idxs_iff q xs (k + 1) z
    unfold idxs
    constructor
    · intro h
      by_cases hq : q x = true
      · rw [if_pos hq] at h
        rcases List.mem_cons.1 h with e | e
        · exact ⟨0, x, by simpa using e, rfl, hq⟩
        · obtain ⟨j, y, e1, e2, e3⟩ := ih.1 e
          exact ⟨j + 1, y, by rw [e1]; congr 1; omega, by simpa using e2, e3⟩
      · rw [if_neg hq] at h
        obtain ⟨j, y, e1, e2, e3⟩ := ih.1 h
        exact ⟨j + 1, y, by rw [e1]; congr 1; omega, by simpa using e2, e3⟩
    · rintro ⟨j, y, e1, e2, e3⟩
      cases j with
      | zero =>
        simp only [List.getElem?_cons_zero, Option.some.injEq] at e2
        subst e2
        rw [if_pos e3]
        exact List.mem_cons.2 (.inl (by simpa using e1))
      | succ j =>
        have hm : z ∈ idxs q (k + 1) xs := ih.2 ⟨j, y, by rw [e1]; congr 1; omega, by simpa using e2, e3⟩
        split
        · exact List.mem_cons.2 (.inr hm)
        · exact hm
theorem rulesOf_mem {g : GrammarT} {y z : Int} : z ∈ rulesOf g y ↔ ∃ r : Nat, z = (r : Int) ∧ r < g.2.2.length ∧ (ruleN g r).1 = y := by
  rw [rulesOf, idxs_iff]
  constructor
  · rintro ⟨j, x, e1, e2, e3⟩
    have hj := (List.getElem?_eq_some_iff.1 e2).1
    have := ruleN_at hj
    rw [e2] at this
    injection this with this
    refine ⟨j, by rw [e1, Nat.zero_add], hj, ?_⟩
    rw [← this]; simpa using e3
  · rintro ⟨r, e1, hr, hl⟩
    exact ⟨r, ruleN g r, by rw [e1, Nat.zero_add], ruleN_at hr, by simpa using hl⟩
theorem moreL_ok {g : GrammarT} {w : List Int} {sets : Sets3} (hs : Snd g w sets) {p : Nat} {x : Item3} (hx : okI g w p x) : ∀ y ∈ moreL g sets p x, okI g w p y := by
  obtain ⟨r, d, f, rfl, hE⟩ := hx
  have hb := hE.bnd
  intro y hy
  unfold moreL at hy
  cases hsy : symAt g (itemN r d f) with
  | some s =>
    rw [hsy] at hy
    dsimp only at hy
    split at hy
    · rename_i h0
      obtain ⟨z, hz, rfl⟩ := List.mem_map.1 hy
      obtain ⟨r2, rfl, hr2, hl⟩ := rulesOf_mem.1 hz
      exact ⟨r2, 0, p, rfl, Ear.pred p r d f s r2 hE (by rw [← symAt_N g r d f]; exact hsy) h0 hr2 hl⟩
    · cases hy
  | none =>
    rw [hsy] at hy
    dsimp only at hy
    obtain ⟨z, hz, rfl⟩ := List.mem_map.1 hy
    obtain ⟨hz1, hz2⟩ := List.mem_filter.1 hz
    have hz2 := of_decide_eq_true hz2
    have hf : (itemN r d f).2.2.toNat = f := by simp [itemN]
    rw [hf] at hz1
    obtain ⟨r2, d2, f2, rfl, hE2⟩ := hs.ok f z hz1
    rw [symAt_N] at hz2 hsy
    have hd : (ruleN g r).2.length = d := by
      have := List.getElem?_eq_none_iff.1 hsy
      omega
    rw [advI_N]
    exact ⟨r2, d2 + 1, f2, rfl, Ear.comp p r d f r2 d2 f2 hE hd hE2 (by simpa [itemN] using hz2)⟩
theorem moreL_clo {g : GrammarT} {sets : Sets3} {p : Nat} {x : Item3} {S : List Item3} (h : ∀ y ∈ moreL g sets p x, y ∈ S) : CloP g p S x ∧ CloC g (at3 sets x.2.2.toNat) S x := by
  constructor
  · intro y hy h0 r2 hr2 hl
    refine h _ ?_
    unfold moreL
    rw [hy]
    dsimp only
    rw [if_pos h0]
    exact List.mem_map.2 ⟨(r2 : Int), rulesOf_mem.2 ⟨r2, rfl, hr2, hl⟩, rfl⟩
  · intro hn z hz hsz
    refine h _ ?_
    unfold moreL
    rw [hn]
    dsimp only
    exact List.mem_map.2 ⟨z, List.mem_filter.2 ⟨hz, decide_eq_true hsz⟩, rfl⟩
theorem moreL_len {g : GrammarT} (hg : g.2.2.length ≤ 16) {sets : Sets3} {p : Nat} {x : Item3} (hf : (at3 sets x.2.2.toNat).length ≤ 880) : (moreL g sets p x).length ≤ 880 := by
  unfold moreL
  split
  · split
    · have := rulesOf_len g (by assumption); simp; omega
    · simp
  · have := List.length_filter_le (fun z => decide (symAt g z = some (ruleN g x.1.toNat).1)) (at3 sets x.2.2.toNat)
    simp; omega
/-- The beginning. -/
def strL (is : List Int) : List Item3 := is.foldl (fun S r => putI S (r, 0, 0)) []
theorem strL_next {is : List Int} {i : Nat} {r : Int} (h : is[i]? = some r) : strL (is.take (i + 1)) = putI (strL (is.take i)) (r, 0, 0) := by
  rw [strL, strL, List.take_add_one, h, List.foldl_append]; rfl
theorem strL_ok (is : List Int) : SortI (strL is) ∧ ∀ z, z ∈ strL is ↔ ∃ r ∈ is, z = (r, 0, 0) := by
  have H : ∀ (is : List Int) (S : List Item3), SortI S → SortI (is.foldl (fun S r => putI S (r, 0, 0)) S) ∧ ∀ z, z ∈ is.foldl (fun S r => putI S (r, 0, 0)) S ↔ z ∈ S ∨ ∃ r ∈ is, z = (r, 0, 0) := by
    intro is
    induction is with
    | nil => intro S hS; exact ⟨hS, fun z => by simp⟩
    | cons r is ih =>
      intro S hS
      obtain ⟨h1, h2⟩ := ih (putI S (r, 0, 0)) (putI_sort hS _)
      refine ⟨h1, fun z => ?_⟩
      rw [List.foldl_cons, h2, (putI_R hS _).mem]
      constructor
      · rintro ((e | e) | ⟨r', e1, e2⟩)
        · exact .inr ⟨r, by simp, e⟩
        · exact .inl e
        · exact .inr ⟨r', by simp [e1], e2⟩
      · rintro (e | ⟨r', e1, e2⟩)
        · exact .inl (.inr e)
        · rcases List.mem_cons.1 e1 with g | g
          · subst g; exact .inl (.inl e2)
          · exact .inr ⟨r', g, e2⟩
  obtain ⟨h1, h2⟩ := H is [] (by simp [SortI])
  exact ⟨h1, fun z => by rw [strL, h2]; simp⟩
def sets0 (g : GrammarT) (n : Nat) : Sets3 := (List.replicate (n + 1) []).set 0 (strL (rulesOf g 0))
theorem at3_zero (n q : Nat) (S : List Item3) : at3 ((List.replicate (n + 1) ([] : List Item3)).set 0 S) q = if q = 0 then S else [] := by
  by_cases e : q = 0
  · subst e; rw [if_pos rfl, at3_set (by simp)]
  · rw [if_neg e, at3_ne (Ne.symm e), at3, List.getD_eq_getElem?_getD, List.getElem?_replicate]
    split <;> rfl
theorem sets0_ok (g : GrammarT) (w : List Int) : Snd g w (sets0 g w.length) ∧ Srt (sets0 g w.length) ∧ DoneI g w (sets0 g w.length) 0 := by
  obtain ⟨h1, h2⟩ := strL_ok (rulesOf g 0)
  have hs : Srt (sets0 g w.length) := fun q => by
    rw [sets0, at3_zero]
    split
    · exact h1
    · simp [SortI]
  refine ⟨⟨by simp [sets0], fun q x hx => ?_, fun q => sortI_nodup (hs q), fun r hr hl => ?_⟩, hs, fun q hq => absurd hq (Nat.not_lt_zero q)⟩
  · rw [sets0, at3_zero] at hx
    split at hx
    · rename_i e; subst e
      obtain ⟨z, hz, rfl⟩ := (h2 x).1 hx
      obtain ⟨r, rfl, hr, hl⟩ := rulesOf_mem.1 hz
      exact ⟨r, 0, 0, rfl, .start r hr hl⟩
    · cases hx
  · rw [sets0, at3_zero, if_pos rfl]
    exact (h2 _).2 ⟨(r : Int), rulesOf_mem.2 ⟨r, rfl, hr, hl⟩, rfl⟩
theorem PassI.closed {g : GrammarT} {w : List Int} {p : Nat} {S0 : List Item3} {sets : Sets3} (h : PassI g w p S0 sets false S0.length) : PassI g w p (at3 sets p) sets false (at3 sets p).length := by
  have e := (h.no rfl).1
  rw [e]
  exact h
theorem okI_wf {g : GrammarT} {w : List Int} {p : Nat} {x : Item3} (h : okI g w p x) : wfI g x := by
  obtain ⟨r, d, f, e, hE⟩ := h
  exact ⟨r, d, f, e, hE.bnd.1, hE.bnd.2.1⟩
theorem at3_get {sets : Sets3} {p : Nat} (hp : p < sets.length) : sets[p]? = some (at3 sets p) := by rw [at3, List.getD_eq_getElem?_getD, List.getElem?_eq_getElem hp]; rfl
/-- What the reference hands back: sets that are sound, sorted and closed. -/
def SetsR (g : GrammarT) (w : List Int) (sets : Sets3) : Prop := Snd g w sets ∧ Srt sets ∧ DoneI g w sets (w.length + 1)
theorem setsR_uniq {g : GrammarT} {w : List Int} {a b : Sets3} (ha : SetsR g w a) (hb : SetsR g w b) : a = b := by
  have hm : ∀ p, at3 a p = at3 b p := fun p => by
    have h1 := ha.2.1 p
    have h2 := hb.2.1 p
    have h3 : ∀ z, z ∈ at3 a p ↔ z ∈ at3 b p := fun z => by rw [ear_iff ha.1 ha.2.2, ear_iff hb.1 hb.2.2]
    generalize at3 a p = x at h1 h3
    generalize at3 b p = y at h2 h3
    exact sortI_ext h1 h2 h3
  have hl : a.length = b.length := by rw [ha.1.ln, hb.1.ln]
  refine List.ext_getElem? fun i => ?_
  by_cases hi : i < a.length
  · rw [at3_get hi, at3_get (by omega), hm]
  · rw [List.getElem?_eq_none (by omega), List.getElem?_eq_none (by omega)]
def univS : List Item3 := (List.range 11).flatMap fun f => (List.range 16).flatMap fun r => (List.range 5).map fun d => itemN r d f
def chainB : List Item3 → Bool
  | x :: y :: l => lessI x y && chainB (y :: l)
  | _ => true
theorem chain_sort : ∀ l : List Item3, chainB l = true → SortI l
  | [], _ => List.Pairwise.nil
  | [x], _ => List.pairwise_singleton _ _
  | x :: y :: l, h => by
    simp only [chainB, Bool.and_eq_true] at h
    have ih := chain_sort (y :: l) h.2
    refine List.pairwise_cons.2 ⟨fun z hz => ?_, ih⟩
    rcases List.mem_cons.1 hz with e | e
    · subst e; exact h.1
    · exact lessI_trans h.1 ((List.pairwise_cons.1 ih).1 z e)
theorem univS_sort : SortI univS := chain_sort _ (by decide +kernel)
theorem mem_univS {g : GrammarT} (hg : goodG g = true) {w : List Int} (hw : w.length ≤ 10) {p : Nat} {x : Item3} (h : okI g w p x) : x ∈ univS := by
  obtain ⟨r, d, f, e, h1, h2, h3, h4, h5, h6, h7⟩ := okI_bnd hg hw h
  subst e
  simp only [univS, List.mem_flatMap, List.mem_range, List.mem_map]
  exact ⟨f, by omega, r, h2, d, by omega, rfl⟩
noncomputable def okB (g : GrammarT) (w : List Int) (p : Nat) (x : Item3) : Bool := @decide (okI g w p x) (Classical.propDecidable _)
theorem okB_iff {g : GrammarT} {w : List Int} {p : Nat} {x : Item3} : okB g w p x = true ↔ okI g w p x := ⟨fun h => @of_decide_eq_true _ (Classical.propDecidable _) h, fun h => @decide_eq_true _ (Classical.propDecidable _) h⟩
noncomputable def setsC (g : GrammarT) (w : List Int) : Sets3 := (List.range (w.length + 1)).map fun p => univS.filter (okB g w p)
theorem setsC_at {g : GrammarT} (hg : goodG g = true) {w : List Int} (hw : w.length ≤ 10) {p : Nat} {x : Item3} : x ∈ at3 (setsC g w) p ↔ okI g w p x := by
  by_cases hp : p < w.length + 1
  · have : at3 (setsC g w) p = univS.filter (okB g w p) := by rw [at3, setsC, List.getD_eq_getElem?_getD, List.getElem?_map, List.getElem?_range hp]; rfl
    rw [this, List.mem_filter]
    constructor
    · rintro ⟨_, h⟩; exact okB_iff.1 h
    · intro h; exact ⟨mem_univS hg hw h, okB_iff.2 h⟩
  · have : at3 (setsC g w) p = [] := by simp [at3, setsC, hp]
    rw [this]
    constructor
    · intro h; cases h
    · rintro ⟨r, d, f, _, hE⟩; have := hE.bnd; omega
theorem setsC_R {g : GrammarT} (hg : goodG g = true) {w : List Int} (hw : w.length ≤ 10) : SetsR g w (setsC g w) := by
  have hs : Srt (setsC g w) := fun p => by
    by_cases hp : p < w.length + 1
    · have : at3 (setsC g w) p = univS.filter (okB g w p) := by rw [at3, setsC, List.getD_eq_getElem?_getD, List.getElem?_map, List.getElem?_range hp]; rfl
      rw [this]; exact List.Pairwise.filter _ univS_sort
    · have : at3 (setsC g w) p = [] := by simp [at3, setsC, hp]
      rw [this]; exact List.Pairwise.nil
  refine ⟨⟨by simp [setsC], fun p x hx => (setsC_at hg hw).1 hx, fun p => sortI_nodup (hs p), fun r hr hl => (setsC_at hg hw).2 ⟨r, 0, 0, rfl, .start r hr hl⟩⟩, hs, fun q hq x hx => ?_⟩
  obtain ⟨r, d, f, rfl, hE⟩ := (setsC_at hg hw).1 hx
  refine ⟨fun y hy h0 r2 hr2 hl => (setsC_at hg hw).2 ⟨r2, 0, q, rfl, .pred q r d f y r2 hE (by rw [← symAt_N g r d f]; exact hy) h0 hr2 hl⟩, fun hn z hz hsz => ?_, fun y hy h0 hwq => ?_⟩
  · have hf : (itemN r d f).2.2.toNat = f := by simp [itemN]
    rw [hf] at hz
    obtain ⟨r2, d2, f2, rfl, hE2⟩ := (setsC_at hg hw).1 hz
    rw [symAt_N] at hn hsz
    have hb := hE.bnd
    have hd : (ruleN g r).2.length = d := by have := List.getElem?_eq_none_iff.1 hn; omega
    rw [advI_N]
    exact (setsC_at hg hw).2 ⟨r2, d2 + 1, f2, rfl, .comp q r d f r2 d2 f2 hE hd hE2 (by simpa [itemN] using hsz)⟩
  · rw [symAt_N] at hy
    rw [advI_N]
    exact (setsC_at hg hw).2 ⟨r, d + 1, f, rfl, .scan q r d f y hE hy h0 hwq⟩
end Go.Proofs.Ytabdnpgahdbciaa.En
end
