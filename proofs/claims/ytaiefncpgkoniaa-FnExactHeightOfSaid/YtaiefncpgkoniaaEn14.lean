/- Own words, 14: a region that draws its order: the order of its text serves for every order. -/
import Derived.Test.YtaiefncpgkoniaaEn13
namespace Go.Proofs.Ytaiefncpgkoniaa.En
open Go.RowKit
set_option linter.unusedSimpArgs false
set_option linter.unusedVariables false
section
attribute [local semireducible] G Gq Holds GS Pure
variable {P : Program} {nt : NT} {Q : Exit → AS → Prop} {s s' : AS} {ops : Array Oper} {K : AS → Prop} {i : Nat} {o : Oper} {l : List Oper} {C : Ctx} {a : Act} {w : World} {S : Nat → Prop} {Ow : Owners} {L : Names} {md : Region.Mode}

theorem qval_congr {op : Op} (h : ∀ y ∈ op.operands, ev s' y = ev s y) (hb : s'.bl = s.bl) : qval P s' op = qval P s op := by
  unfold qval
  cases op with
  | load t p =>
    have := h p (by simp [Op.operands])
    simp only [qload, this, hb]
  | _ => exact aval_congr h hb
theorem Calm.congr {op : Op} {r : AV} (h : ∀ y ∈ op.operands, ev s' y = ev s y) (hb : s'.bl = s.bl) (hc : Calm P s op r) : Calm P s' op r := by
  cases hc with
  | look hq => exact .look (by rw [qval_congr h hb]; exact hq)
  | call hop hc he hf hp hd =>
    subst hop
    simp only [Op.operands, Call.operands] at h
    refine .call rfl (by rw [h _ (by simp)]; exact hc) (by rw [mapM_congr (g := ev s) fun y hy => h y (by simp at hy; simp [hy])]; exact he) (by rw [hb]; exact hf) hp hd
  | callC hop hc he hcl hp =>
    subst hop
    simp only [Op.operands, Call.operands] at h
    exact .callC rfl (by rw [h _ (by simp)]; exact hc) (by rw [mapM_congr (g := ev s) fun y hy => h y (by simp at hy; simp [hy])]; exact he) hcl hp
  | eqS hop ht hx hy hlx hly hr =>
    subst hop
    simp only [Op.operands] at h
    exact .eqS rfl ht (by rw [h _ (by simp)]; exact hx) (by rw [h _ (by simp)]; exact hy) hlx hly hr
  | neS hop ht hx hy hlx hly hr =>
    subst hop
    simp only [Op.operands] at h
    exact .neS rfl ht (by rw [h _ (by simp)]; exact hx) (by rw [h _ (by simp)]; exact hy) hlx hly hr
theorem gd_congr {s' : AS} (h : ∀ g b t, o.guard = some (g, b) → (ops[g]?).bind (·.dst) = some t → lk s'.tm t = lk s.tm t) : gd ops s' o = gd ops s o := by
  unfold gd
  split
  · rfl
  · rename_i g b e
    split
    · rename_i t ht; rw [h g b t e ht]
    · rfl
theorem Step1.congr {r : AV} (ho : ∀ y ∈ o.op.operands, ev s' y = ev s y) (hg : ∀ g b t, o.guard = some (g, b) → (ops[g]?).bind (·.dst) = some t → lk s'.tm t = lk s.tm t) (hb : s'.bl = s.bl) (h : Step1 P nt ops s o r) : Step1 P nt ops s' o r := by
  refine ⟨h.d, ?_⟩
  rw [gd_congr hg]
  rcases h.g with g | ⟨g, hc⟩
  · exact .inl g
  · exact .inr ⟨g, hc.congr ho hb⟩
theorem Step1.eqv {r : AV} (h : Step1 P nt ops s o r) (e : Eqv s s') : Step1 P nt ops s' o r :=
  h.congr (fun y _ => ev_congr e.1 y) (fun _ _ t _ _ => (e.1 t).symm) e.2.1.symm
theorem put_lk {d : Option Nat} {x : AV} {t : Nat} (h : d ≠ some t) : lk (put s d x).tm t = lk s.tm t := by
  cases d with
  | none => rfl
  | some k => simp only [put, lk]; rw [if_neg fun e => h (by rw [e])]
theorem put_ev {d : Option Nat} {x : AV} {y : Operand} (h : ∀ t, d = some t → y ≠ .tmp t) : ev (put s d x) y = ev s y := by
  cases y with
  | tmp t => exact put_lk fun e => h t e rfl
  | _ => rfl
theorem put_bl {d : Option Nat} {x : AV} : (put s d x).bl = s.bl := by cases d <;> rfl
theorem Step1.put {r x : AV} {d : Option Nat} (h : Step1 P nt ops s o r) (hd : ∀ t, d = some t → t ∉ o.looksAt ops) : Step1 P nt ops (put s d x) o r := by
  refine h.congr (fun y hy => put_ev fun t e g => ?_) (fun g b t e ht => put_lk fun e2 => ?_) put_bl
  · subst g
    exact hd t e (List.mem_append_left _ (List.mem_filterMap.2 ⟨.tmp t, by simpa using hy, rfl⟩))
  · exact hd t e2 (List.mem_append_right _ (by simp [e, ht]))
theorem Step1.unput {r x : AV} {d : Option Nat} (h : Step1 P nt ops (En.put s d x) o r) (hd : ∀ t, d = some t → t ∉ o.looksAt ops) : Step1 P nt ops s o r := by
  refine h.congr (fun y hy => (put_ev fun t e g => ?_).symm) (fun g b t e ht => (put_lk fun e2 => ?_).symm) put_bl.symm
  · subst g
    exact hd t e (List.mem_append_left _ (List.mem_filterMap.2 ⟨.tmp t, by simpa using hy, rfl⟩))
  · exact hd t e2 (List.mem_append_right _ (by simp [e, ht]))

/-- Operation number i, then K. -/
def aOp (P : Program) (nt : NT) (ops : Array Oper) (i : Nat) (K : AS → Prop) (s : AS) : Prop := ∃ o r, ops[i]? = some o ∧ Step1 P nt ops s o r ∧ K (put s o.dst r)
def AnyA (P : Program) (nt : NT) (md : Region.Mode) (ops : Array Oper) (K : AS → Prop) : Nat → Array Bool → AS → Prop
  | 0, listed, s => Region.ready md ops listed = [] ∧ K s
  | fuel + 1, listed, s => (Region.ready md ops listed = [] → K s) ∧ ∀ i ∈ Region.ready md ops listed, aOp P nt ops i (AnyA P nt md ops K fuel (listed.setIfInBounds i true)) s
theorem AnyA.eqv (hK : ∀ s s', Eqv s s' → K s → K s') : ∀ (fuel : Nat) (listed : Array Bool) (s s' : AS), Eqv s s' → AnyA P nt md ops K fuel listed s → AnyA P nt md ops K fuel listed s'
  | 0, _, s, s', e, h => ⟨h.1, hK s s' e h.2⟩
  | fuel + 1, _, s, s', e, h => ⟨fun h0 => hK s s' e (h.1 h0), fun i hi => by
      obtain ⟨o, r, ho, hs, hk⟩ := h.2 i hi
      exact ⟨o, r, ho, hs.eqv e, AnyA.eqv hK fuel _ _ _ (e.put _ _) hk⟩⟩
theorem wpAny_of_anyA {Q : Exit → Act → World → Prop} (hQ : ∀ s a w S Ow L, K s → RelX C s a w S Ow L → Q .normal a w) (hn : C.nt = nt) : ∀ (fuel : Nat) (listed : Array Bool) (s : AS) (a : Act) (w : World) (S : Nat → Prop) (Ow : Owners) (L : Names), RelX C s a w S Ow L → AnyA P nt md ops K fuel listed s → wpAny P md ops Q fuel listed a w
  | 0, _, s, a, w, S, Ow, L, hR, h => ⟨h.1, hQ s a w S Ow L h.2 hR⟩
  | fuel + 1, _, s, a, w, S, Ow, L, hR, h => ⟨fun h0 => hQ s a w S Ow L (h.1 h0) hR, fun i hi => by
      obtain ⟨o, r, ho, hs, hk⟩ := h.2 i hi
      exact step1_wp hR hn ho hs fun u w' S' Ow' L' hR' => wpAny_of_anyA hQ hn fuel _ _ _ _ _ _ _ hR' hk⟩

/-- What may come up now may come up first. -/
theorem anyA_first (hK : ∀ s s', Eqv s s' → K s → K s') {i : Nat} {oi : Oper} {r : AV} (hi : ops[i]? = some oi) :
    ∀ (fuel : Nat) (listed : Array Bool) (s : AS),
      (∀ j oj, ops[j]? = some oj → j ≠ i → listed.getD j true = false → (∀ e ∈ oj.after, Region.binds md e = true → e.on ≠ i) → oi.apart ops oj = true) →
      i ∈ Region.ready md ops listed → Step1 P nt ops s oi r → AnyA P nt md ops K fuel (listed.setIfInBounds i true) (put s oi.dst r) → AnyA P nt md ops K (fuel + 1) listed s := by
  intro fuel
  induction fuel with
  | zero =>
    intro listed s _ hr hy H
    refine ⟨fun h => (by rw [h] at hr; cases hr), fun j hj => ?_⟩
    by_cases hji : j = i
    · subst hji; exact ⟨oi, r, hi, hy, H⟩
    · have := ready_mono hj hji
      rw [H.1] at this
      cases this
  | succ fuel ih =>
    intro listed s hfree hr hy H
    refine ⟨fun h => (by rw [h] at hr; cases hr), fun j hj => ?_⟩
    by_cases hji : j = i
    · subst hji; exact ⟨oi, r, hi, hy, H⟩
    · obtain ⟨oj, rj, hoj, hsj, hkj⟩ := H.2 j (ready_mono hj hji)
      obtain ⟨hjun, oj', hoj', hall⟩ := mem_ready.1 hj
      rw [hoj] at hoj'
      cases hoj'
      have hnot : ∀ e ∈ oj.after, Region.binds md e = true → e.on ≠ i := fun e he hb heq => by
        have h1 := hall e he hb
        have h0 := (mem_ready.1 hr).1
        rw [heq] at h1
        rcases Nat.lt_or_ge i listed.size with h' | h'
        · simp [h'] at h0 h1; rw [h0] at h1; cases h1
        · simp [Array.getElem?_eq_none h'] at h1
      obtain ⟨a1, a2, a3⟩ := Oper.apart_spec (hfree j oj hoj hji hjun hnot)
      refine ⟨oj, rj, hoj, hsj.unput a1, ?_⟩
      have hfree' : ∀ k ok, ops[k]? = some ok → k ≠ i → (listed.setIfInBounds j true).getD k true = false →
          (∀ e ∈ ok.after, Region.binds md e = true → e.on ≠ i) → oi.apart ops ok = true := fun k ok hk hki hun hno => by
        refine hfree k ok hk hki ?_ hno
        by_cases hjk : j = k
        · subst hjk; exact hjun
        · rw [getD_set_ne true hjk] at hun; exact hun
      refine ih (listed.setIfInBounds j true) _ hfree' (ready_mono hr (Ne.symm hji)) (hy.put a3) ?_
      rw [Array.setIfInBounds_comm _ _ hji]
      exact AnyA.eqv hK _ _ _ _ (put_comm s r rj a2) hkj

/-- The walk in the order of the text. -/
inductive Gd (P : Program) (nt : NT) (ops : Array Oper) (K : AS → Prop) : List Oper → AS → Prop
  | nil {s : AS} (h : K s) : Gd P nt ops K [] s
  | step {o : Oper} {l : List Oper} {s : AS} {r : AV} (hs : Step1 P nt ops s o r) (h : Gd P nt ops K l (En.put s o.dst r)) : Gd P nt ops K (o :: l) s
  | eqv {l : List Oper} {s s1 : AS} (he : Eqv s s1) (h : Gd P nt ops K l s1) : Gd P nt ops K l s
theorem anyA_lex (hK : ∀ s s', Eqv s s' → K s → K s') {l : List Oper} {s : AS} (h : Gd P nt ops K l s) : ∀ (k : Nat) (listed : Array Bool), (∀ j, l[j]? = ops[k + j]?) → Region.lexFrom md ops l.length k listed = true → AnyA P nt md ops K l.length listed s := by
  induction h with
  | nil h => intro k listed _ hB; exact ⟨by simpa [Region.lexFrom] using hB, h⟩
  | eqv he _ ih => intro k listed hl hB; exact AnyA.eqv hK _ _ _ _ he.symm (ih k listed hl hB)
  | step hs _ ih =>
    rename_i o l s r _
    intro k listed hl hB
    have h0 : ops[k]? = some o := by simpa using (hl 0).symm
    simp only [List.length_cons, Region.lexFrom, Bool.and_eq_true] at hB
    obtain ⟨⟨hr, hf⟩, hB'⟩ := hB
    exact anyA_first hK h0 l.length listed s (Region.free_spec h0 hf) (by simpa using hr) hs (ih (k + 1) _ (fun j => by have := hl (j + 1); simpa [Nat.add_assoc, Nat.add_comm 1 j] using this) hB')
theorem Holds.any {id : Nat} (hm : P.follows .mixedOrders = true) (hB : Region.lexB .any l.toArray = true) (h : Gd P nt l.toArray (fun s => Q .normal s) l s) : Holds P nt (.region id l.toArray true) Q s := by
  intro C a w S Ow L hn hR
  have hK : ∀ s s' : AS, Eqv s s' → (∃ s1, Eqv s1 s ∧ Q .normal s1) → ∃ s1, Eqv s1 s' ∧ Q .normal s1 := fun s s' e ⟨s1, e1, q⟩ => ⟨s1, e1.trans e, q⟩
  have mono : ∀ {l' : List Oper} {s : AS}, Gd P nt l.toArray (fun s => Q .normal s) l' s → Gd P nt l.toArray (fun s => ∃ s1, Eqv s1 s ∧ Q .normal s1) l' s := by
    intro l' s h
    induction h with
    | nil h => exact .nil ⟨_, Eqv.refl _, h⟩
    | step hs _ ih => exact .step hs ih
    | eqv he _ ih => exact .eqv he ih
  simp only [Region.lexB, Bool.and_eq_true] at hB
  refine wp_region_any hm ?_
  have := anyA_lex (md := .any) hK (mono h) 0 (Array.replicate l.toArray.size false) (by simp) (by simpa using hB.2)
  rw [List.size_toArray]
  refine wpAny_of_anyA (K := fun s => ∃ s1, Eqv s1 s ∧ Q .normal s1) (fun s' a w S Ow L hk hR => ?_) hn _ _ _ _ _ _ _ _ (hR.drawn (w' := { w with drawn := w.drawn + 1 }) rfl rfl rfl rfl) (by simpa using this)
  obtain ⟨s1, e, q⟩ := hk
  exact ⟨s1, S, Ow, L, q, hR.eqv e.symm⟩
theorem Gd.look {r : AV} (hg : gd ops s o = some true) (hd : okd nt.n o.dst = true) (hq : qval P s o.op = some r) (h : Gd P nt ops K l (put s o.dst r)) : Gd P nt ops K (o :: l) s := .step ⟨hd, .inr ⟨hg, .look hq⟩⟩ h
theorem Gd.skip (hg : gd ops s o = some false) (hd : okd nt.n o.dst = true) (h : Gd P nt ops K l (put s o.dst (.tu []))) : Gd P nt ops K (o :: l) s := .step ⟨hd, .inl ⟨hg, rfl⟩⟩ h
theorem Gd.call {c : Operand} {as : Array Operand} {ts : Array TypeId} {f : FuncId} {xs cap ys : List AV} {r : AV} (hop : o.op = .call ⟨.value c, as, ts⟩) (hg : gd ops s o = some true) (hd : okd nt.n o.dst = true)
    (hc : ev s c = some (.fn f cap)) (he : as.toList.mapM (ev s) = some xs) (hf : FzL s.bl (xs ++ cap) ys) (hp : Pure P f ys r) (hr : dry r = true) (h : Gd P nt ops K l (put s o.dst r)) : Gd P nt ops K (o :: l) s :=
  .step ⟨hd, .inr ⟨hg, .call hop hc he hf hp hr⟩⟩ h
theorem Gd.callC {c : Operand} {as : Array Operand} {ts : Array TypeId} {f : FuncId} {xs cap : List AV} {r : AV} (hop : o.op = .call ⟨.value c, as, ts⟩) (hg : gd ops s o = some true) (hd : okd nt.n o.dst = true)
    (hc : ev s c = some (.fn f cap)) (he : as.toList.mapM (ev s) = some xs) (hcl : (xs ++ cap).all cl = true) (hp : Pure P f (xs ++ cap) r) (h : Gd P nt ops K l (put s o.dst r)) : Gd P nt ops K (o :: l) s :=
  .step ⟨hd, .inr ⟨hg, .callC hop hc he hcl hp⟩⟩ h
theorem Gd.guard {c : Bool} {t : Nat} (hl : lk s.tm t = some (.v (.bool c))) (h1 : c = true → Gd P nt ops K l (again s t (.v (.bool true)))) (h2 : c = false → Gd P nt ops K l (again s t (.v (.bool false)))) : Gd P nt ops K l s := by
  have e : ∀ x, lk s.tm t = some x → Eqv s (again s t x) := fun x hx => ⟨fun t' => by
    simp only [again, lk]
    split
    · rename_i g; rw [← g]; exact hx
    · rfl, rfl, rfl⟩
  cases c with
  | true => exact .eqv (e _ hl) (h1 rfl)
  | false => exact .eqv (e _ hl) (h2 rfl)
end
attribute [go_sem] qval qload cl cl1
end Go.Proofs.Ytaiefncpgkoniaa.En
