/- Own words, 20: regions that draw their order, in which operations write rows that no unordered operation looks at. -/
import Derived.Test.YtaiefncpgkoniaaEn19
namespace Go.Proofs.Ytaiefncpgkoniaa.En
open Go.RowKit
set_option linter.unusedSimpArgs false
set_option linter.unusedVariables false
section
attribute [local semireducible] G Gq Holds GS Pure Out Fn OutF
variable {P : Program} {nt : NT} {Q : Exit → AS → Prop} {s s' s1 s2 t : AS} {ops : Array Oper} {K : AS → Prop} {i : Nat} {o : Oper} {l : List Oper} {C : Ctx} {a : Act} {w : World} {S : Nat → Prop} {Ow : Owners} {L : Names} {md : Region.Mode} {M : Nat → Bool}

/-- The state without the rows M. -/
def hide (M : Nat → Bool) (s : AS) : AS := ⟨s.tm, s.bl.filter fun p => !M p.1, s.nx⟩
theorem RelX.hide (h : RelX C s a w S Ow L) (M : Nat → Bool) : RelX C (En.hide M s) a w S Ow L :=
  { fix := h.fix, keep := h.keep, inS := h.inS, upS := h.upS, ltS := h.ltS, owS := h.owS, ow := h.ow, ow0 := h.ow0, fresh := h.fresh, named := h.named, freshO := h.freshO, slot := h.slot, size := h.size, defers := h.defers, blk := fun n k hn => by
      rw [show (En.hide M s).bl = s.bl.filter fun p => !M p.1 from rfl, lb_filter s.bl (fun n => !M n)] at hn
      split at hn
      · exact h.blk n k hn
      · cases hn }
/-- A calm step, seen from a state that says less of the memory. -/
theorem calm_wp {s0 : AS} {Q : Exit → Act → World → Prop} {K : Act → World → Prop} {r : AV} (h : RelX C s0 a w S Ow L) (hn : C.nt = nt) (ho : ops[i]? = some o) (hs : Step1 P nt ops s0 o r)
    (hK : ∀ u w' S', Below w.heap.size w w' → (∀ k, S k → S' k) → (∀ k, S' k → k < w'.heap.size ∧ (S k ∨ w.heap.size ≤ k)) → Rep w' S' Ow L [0] r u → K (a.put o.dst u) w') : wpOp P ops Q i K a w := by
  subst hn
  have same : ∀ {u}, Rep w S Ow L [0] r u → K (a.put o.dst u) w := fun hu => hK _ w S (Below.refl _ w) (fun _ h => h) (fun k hk => ⟨h.ltS k hk, .inl hk⟩) hu
  unfold wpOp
  simp only [ho]
  rcases hs.g with ⟨hg, rfl⟩ | ⟨hg, hc⟩
  · rw [gd_sound h hg]
    exact same (.tu [] [] rfl fun i x u hx hu => by simp at hx)
  · rw [gd_sound h hg]
    simp only [if_true]
    left
    unfold Oper.wp
    cases hc with
    | look hq =>
      unfold qval at hq
      split at hq
      · rename_i t p hop
        obtain ⟨ad, u, e, hr, hu⟩ := qload_sound h hq
        have hrun : (execOp a.eval o).run P w = .ok (.value u) w := by
          unfold execOp
          simp [hop, Instr.loadAt, e, Instr.sureAddr, hr]
        rw [hrun]
        exact same hu
      · obtain ⟨u, hr, hu⟩ := aval_sound (w := w) h hq
        rw [hr w]
        exact same hu
    | call hop hc he hf hp hd =>
      have hcr := ev_rep h hc
      obtain ⟨us, e, _⟩ := hcr.fn_inv
      rw [e] at hcr
      obtain ⟨hl, hrep⟩ := args_rep h he hcr hf
      rw [exec_call hop e hp.1]
      refine Calls.mono (hp.2 w (lent S Ow) _ (lent_lt h) hl hrep) fun e' w' => ?_
      rintro ⟨v, rfl, hb, S', _, _, hv⟩
      exact hK _ w' S hb (fun _ h => h) (fun k hk => ⟨Nat.lt_of_lt_of_le (h.ltS k hk) hb.size, .inl hk⟩) (hv.dry hd)
    | callC hop hc he hcl hp =>
      have hcr := ev_rep h hc
      obtain ⟨us, e, _⟩ := hcr.fn_inv
      rw [e] at hcr
      obtain ⟨hl, hrep⟩ := args_cl h he hcr hcl
      rw [exec_call hop e hp.1]
      refine Calls.mono (hp.2 w S _ h.ltS hl hrep) fun e' w' => ?_
      rintro ⟨v, rfl, hb, S', h1, h2, hv⟩
      exact hK _ w' S' hb h1 h2 hv.any
    | @eqS t x y t' n xs ys hop ht hx hy hlx hly hr =>
      subst hr
      have ex := (ev_rep h hx).nums
      have ey := (ev_rep h hy).nums
      have hrun : (execOp a.eval o).run P w = .ok (.value (.bool (decide (xs = ys)))) w := by
        unfold execOp
        simp only [hop, ex, ey, Sem.run_bind, run_eqGuard_agg w _ _ _ _ _ _ ht.g, Result.andThen_ok, run_eql_struct, ht.e _ _ w hlx hly, Sem.run_pure]
      rw [hrun]
      exact same (.v _ rfl)
    | @neS t x y t' n xs ys hop ht hx hy hlx hly hr =>
      subst hr
      have ex := (ev_rep h hx).nums
      have ey := (ev_rep h hy).nums
      have hrun : (execOp a.eval o).run P w = .ok (.value (.bool (!decide (xs = ys)))) w := by
        unfold execOp
        simp only [hop, ex, ey, Sem.run_bind, run_eqGuard_agg w _ _ _ _ _ _ ht.g, Result.andThen_ok, run_neq_struct, ht.e _ _ w hlx hly, Sem.run_pure]
      rw [hrun]
      exact same (.v _ rfl)

theorem hid_all (x y : List (Nat × Blk)) : x.filter (fun p => !((fun _ => true : Nat → Bool) p.1)) = y.filter (fun p => !((fun _ => true : Nat → Bool) p.1)) := by
  rw [List.filter_eq_nil_iff.2 (by simp), List.filter_eq_nil_iff.2 (by simp)]
/-- An operation that writes rows of M, or makes such. -/
structure Wr (P : Program) (nt : NT) (ops : Array Oper) (M : Nat → Bool) (s : AS) (o : Oper) (r : AV) (bl' : List (Nat × Blk)) (nx' : Nat) : Prop where
  hid : bl'.filter (fun p => !M p.1) = s.bl.filter fun p => !M p.1
  run : ∀ (tm' : List (Nat × AV)), (∀ t ∈ o.looksAt ops, lk tm' t = lk s.tm t) → ∀ (C : Ctx) (a : Act) (w : World) (S : Nat → Prop) (Ow : Owners) (L : Names) (i : Nat) (Q : Exit → Act → World → Prop) (K : Act → World → Prop), C.nt = nt → ops[i]? = some o → RelX C ⟨tm', s.bl, s.nx⟩ a w S Ow L →
    (∀ a' w' S' Ow' L', RelX C (put ⟨tm', bl', nx'⟩ o.dst r) a' w' S' Ow' L' → K a' w') → wpOp P ops Q i K a w
inductive Kd3 | f | h | w | o
/-- What kind of operation number i is: o (told as 1000 + i in ws): writes, ordered with all others; w: writes; h: looks elsewhere; f: the rest. -/
def kind (ws hs : List Nat) (i : Nat) : Kd3 := if ws.contains (1000 + i) then .o else if ws.contains i then .w else if hs.contains i then .h else .f
def xS (P : Program) (nt : NT) (ops : Array Oper) (M : Nat → Bool) (k : Kd3) (o : Oper) (s s' : AS) : Prop :=
  match k with
  | .f => ∃ r, Step1 P nt ops s o r ∧ s' = put s o.dst r
  | .h => ∃ r, Step1 P nt ops (hide M s) o r ∧ s' = put s o.dst r
  | .w => ∃ r bl' nx', Wr P nt ops M s o r bl' nx' ∧ s' = put ⟨s.tm, bl', nx'⟩ o.dst r
  | .o => ∃ r bl' nx', Wr P nt ops (fun _ => true) s o r bl' nx' ∧ s' = put ⟨s.tm, bl', nx'⟩ o.dst r
theorem xS_wp {k : Kd3} {Q : Exit → Act → World → Prop} {K : Act → World → Prop} (h : RelX C s a w S Ow L) (hn : C.nt = nt) (ho : ops[i]? = some o) (hx : xS P nt ops M k o s s') (hK : ∀ a' w' S' Ow' L', RelX C s' a' w' S' Ow' L' → K a' w') : wpOp P ops Q i K a w := by
  cases k with
  | f =>
    obtain ⟨r, hs, rfl⟩ := hx
    exact step1_wp h hn ho hs fun u w' S' Ow' L' hR => hK _ _ _ _ _ hR
  | h =>
    obtain ⟨r, hs, rfl⟩ := hx
    exact calm_wp (h.hide M) hn ho hs fun u w' S' hb h1 h2 hu => hK _ _ _ _ _ ((h.more hb h1 h2).put o.dst (by rw [hn]; exact hs.d) hu)
  | w =>
    obtain ⟨r, bl', nx', hw, rfl⟩ := hx
    exact hw.run s.tm (fun _ _ => rfl) C a w S Ow L i Q K hn ho h hK
  | o =>
    obtain ⟨r, bl', nx', hw, rfl⟩ := hx
    exact hw.run s.tm (fun _ _ => rfl) C a w S Ow L i Q K hn ho h hK
theorem Eqv.hide (e : Eqv s s') : Eqv (En.hide M s) (En.hide M s') := ⟨e.1, by simp only [En.hide, e.2.1], e.2.2⟩
theorem Wr.tm {r : AV} {bl' : List (Nat × Blk)} {nx' : Nat} {s1 : AS} (h : Wr P nt ops M s o r bl' nx') (ht : ∀ t ∈ o.looksAt ops, lk s1.tm t = lk s.tm t) (hb : s1.bl = s.bl) (hx : s1.nx = s.nx) : Wr P nt ops M s1 o r bl' nx' :=
  ⟨by rw [hb]; exact h.hid, fun tm' h' C a w S Ow L i Q K hn ho hR hK => h.run tm' (fun t hm => (h' t hm).trans (ht t hm)) C a w S Ow L i Q K hn ho (by rw [hb, hx] at hR; exact hR) hK⟩
theorem xS.eqv {k : Kd3} (e : Eqv s t) (hx : xS P nt ops M k o s s') : ∃ t', Eqv s' t' ∧ xS P nt ops M k o t t' := by
  cases k with
  | f => obtain ⟨r, hs, rfl⟩ := hx; exact ⟨_, e.put _ _, r, hs.eqv e, rfl⟩
  | h => obtain ⟨r, hs, rfl⟩ := hx; exact ⟨_, e.put _ _, r, hs.eqv e.hide, rfl⟩
  | w =>
    obtain ⟨r, bl', nx', hw, rfl⟩ := hx
    refine ⟨_, ?_, r, bl', nx', hw.tm (fun t _ => (e.1 t).symm) e.2.1.symm e.2.2.symm, rfl⟩
    exact Eqv.put (⟨e.1, rfl, rfl⟩ : Eqv ⟨s.tm, bl', nx'⟩ ⟨t.tm, bl', nx'⟩) _ _
  | o =>
    obtain ⟨r, bl', nx', hw, rfl⟩ := hx
    refine ⟨_, ?_, r, bl', nx', hw.tm (fun t _ => (e.1 t).symm) e.2.1.symm e.2.2.symm, rfl⟩
    exact Eqv.put (⟨e.1, rfl, rfl⟩ : Eqv ⟨s.tm, bl', nx'⟩ ⟨t.tm, bl', nx'⟩) _ _
theorem hide_put {d : Option Nat} {x : AV} : hide M (put s d x) = put (hide M s) d x := by cases d <;> rfl
theorem eqv_put3 {tm : List (Nat × AV)} {bl : List (Nat × Blk)} {nx : Nat} {d e : Option Nat} (x y : AV) (h : ∀ t, d = some t → e ≠ some t) : Eqv (put ⟨(put ⟨tm, [], 0⟩ d x).tm, bl, nx⟩ e y) (put (put ⟨tm, bl, nx⟩ e y) d x) := by
  have e1 : (⟨(put ⟨tm, [], 0⟩ d x).tm, bl, nx⟩ : AS) = put ⟨tm, bl, nx⟩ d x := by cases d <;> rfl
  rw [e1]
  exact put_comm _ _ _ h
theorem put_tm {d : Option Nat} {x : AV} {bl : List (Nat × Blk)} {nx : Nat} : (put ⟨s.tm, bl, nx⟩ d x).tm = (put s d x).tm := by cases d <;> rfl
theorem put_tm' {d : Option Nat} {x : AV} {bl : List (Nat × Blk)} {nx : Nat} : (⟨(put s d x).tm, bl, nx⟩ : AS) = put ⟨s.tm, bl, nx⟩ d x := by cases d <;> rfl
theorem put_same {d : Option Nat} {x : AV} : (put s d x).bl = s.bl ∧ (put s d x).nx = s.nx := by cases d <;> exact ⟨rfl, rfl⟩

/-- Two steps that look at nothing of one another. -/
theorem xS.comm {ki kj : Kd3} {oi oj : Oper} (hk : (ki = .w → kj = .h) ∧ (kj = .w → ki = .h) ∧ ki ≠ .o ∧ kj ≠ .o) (a1 : ∀ d, oi.dst = some d → d ∉ oj.looksAt ops) (a2 : ∀ d, oi.dst = some d → oj.dst ≠ some d) (a3 : ∀ d, oj.dst = some d → d ∉ oi.looksAt ops)
    (h1 : xS P nt ops M ki oi s s1) (h2 : xS P nt ops M kj oj s1 s2) : ∃ t s2', xS P nt ops M kj oj s t ∧ xS P nt ops M ki oi t s2' ∧ Eqv s2 s2' := by
  have lk1 : ∀ {s0 : AS} {x : AV} {t : Nat}, t ∈ oj.looksAt ops → lk (put s0 oi.dst x).tm t = lk s0.tm t := fun {s0 x t} ht => put_lk fun e => a1 t e ht
  have lk3 : ∀ {s0 : AS} {x : AV} {t : Nat}, t ∈ oi.looksAt ops → lk (put s0 oj.dst x).tm t = lk s0.tm t := fun {s0 x t} ht => put_lk fun e => a3 t e ht
  cases ki with
  | o => exact absurd rfl hk.2.2.1
  | w =>
    obtain rfl := hk.1 rfl
    obtain ⟨r, bl', nx', hw, rfl⟩ := h1
    obtain ⟨r', hs, rfl⟩ := h2
    rw [hide_put] at hs
    have hs := hs.unput a1
    have e : hide M ⟨s.tm, bl', nx'⟩ = ⟨s.tm, s.bl.filter fun p => !M p.1, nx'⟩ := by simp only [hide]; rw [hw.hid]
    rw [e] at hs
    have hs' : Step1 P nt ops (hide M s) oj r' := Step1.congr (s := ⟨s.tm, s.bl.filter fun p => !M p.1, nx'⟩) (fun y _ => by cases y <;> rfl) (fun _ _ _ _ _ => rfl) rfl hs
    refine ⟨_, _, ⟨r', hs', rfl⟩, ⟨r, bl', nx', hw.tm (fun t ht => lk3 ht) put_same.1 put_same.2, rfl⟩, ?_⟩
    rw [put_tm']
    exact put_comm _ _ _ a2
  | f =>
    obtain ⟨r, hs, rfl⟩ := h1
    cases kj with
    | w => exact absurd (hk.2.1 rfl) (by intro h; cases h)
    | o => exact absurd rfl hk.2.2.2
    | f =>
      obtain ⟨r', hs', rfl⟩ := h2
      exact ⟨_, _, ⟨r', hs'.unput a1, rfl⟩, ⟨r, hs.put a3, rfl⟩, put_comm _ _ _ a2⟩
    | h =>
      obtain ⟨r', hs', rfl⟩ := h2
      rw [hide_put] at hs'
      exact ⟨_, _, ⟨r', hs'.unput a1, rfl⟩, ⟨r, hs.put a3, rfl⟩, put_comm _ _ _ a2⟩
  | h =>
    obtain ⟨r, hs, rfl⟩ := h1
    cases kj with
    | f =>
      obtain ⟨r', hs', rfl⟩ := h2
      exact ⟨_, _, ⟨r', hs'.unput a1, rfl⟩, ⟨r, by rw [hide_put]; exact hs.put a3, rfl⟩, put_comm _ _ _ a2⟩
    | h =>
      obtain ⟨r', hs', rfl⟩ := h2
      rw [hide_put] at hs'
      exact ⟨_, _, ⟨r', hs'.unput a1, rfl⟩, ⟨r, by rw [hide_put]; exact hs.put a3, rfl⟩, put_comm _ _ _ a2⟩
    | o => exact absurd rfl hk.2.2.2
    | w =>
      obtain ⟨r', bl', nx', hw, rfl⟩ := h2
      have hw' : Wr P nt ops M s oj r' bl' nx' := hw.tm (fun t ht => (lk1 ht).symm) put_same.1.symm put_same.2.symm
      refine ⟨_, _, ⟨r', bl', nx', hw', rfl⟩, ⟨r, ?_, rfl⟩, ?_⟩
      · rw [hide_put]
        refine Step1.put ?_ a3
        have e : hide M ⟨s.tm, bl', nx'⟩ = ⟨s.tm, s.bl.filter fun p => !M p.1, nx'⟩ := by simp only [hide]; rw [hw'.hid]
        rw [e]
        exact Step1.congr (s := hide M s) (fun y _ => by cases y <;> rfl) (fun _ _ _ _ _ => rfl) rfl hs
      · rw [put_tm']
        exact put_comm _ _ _ a2

def AnyX (P : Program) (nt : NT) (md : Region.Mode) (ops : Array Oper) (ws hs : List Nat) (M : Nat → Bool) (K : AS → Prop) : Nat → Array Bool → AS → Prop
  | 0, listed, s => Region.ready md ops listed = [] ∧ K s
  | fuel + 1, listed, s => (Region.ready md ops listed = [] → K s) ∧ ∀ i ∈ Region.ready md ops listed, ∃ o s', ops[i]? = some o ∧ xS P nt ops M (kind ws hs i) o s s' ∧ AnyX P nt md ops ws hs M K fuel (listed.setIfInBounds i true) s'
variable {ws hs : List Nat}
theorem AnyX.eqv (hK : ∀ s s', Eqv s s' → K s → K s') : ∀ (fuel : Nat) (listed : Array Bool) (s s' : AS), Eqv s s' → AnyX P nt md ops ws hs M K fuel listed s → AnyX P nt md ops ws hs M K fuel listed s'
  | 0, _, s, s', e, h => ⟨h.1, hK s s' e h.2⟩
  | fuel + 1, _, s, s', e, h => ⟨fun h0 => hK s s' e (h.1 h0), fun i hi => by
      obtain ⟨o, s1, ho, hx, hk⟩ := h.2 i hi
      obtain ⟨t', e', hx'⟩ := hx.eqv e
      exact ⟨o, t', ho, hx', AnyX.eqv hK fuel _ _ _ e' hk⟩⟩
theorem wpAny_of_anyX {Q : Exit → Act → World → Prop} (hQ : ∀ s a w S Ow L, K s → RelX C s a w S Ow L → Q .normal a w) (hn : C.nt = nt) : ∀ (fuel : Nat) (listed : Array Bool) (s : AS) (a : Act) (w : World) (S : Nat → Prop) (Ow : Owners) (L : Names), RelX C s a w S Ow L → AnyX P nt md ops ws hs M K fuel listed s → wpAny P md ops Q fuel listed a w
  | 0, _, s, a, w, S, Ow, L, hR, h => ⟨h.1, hQ s a w S Ow L h.2 hR⟩
  | fuel + 1, _, s, a, w, S, Ow, L, hR, h => ⟨fun h0 => hQ s a w S Ow L (h.1 h0) hR, fun i hi => by
      obtain ⟨o, s1, ho, hx, hk⟩ := h.2 i hi
      exact xS_wp hR hn ho hx fun a' w' S' Ow' L' hR' => wpAny_of_anyX hQ hn fuel _ _ _ _ _ _ _ hR' hk⟩

/-- What is listed has what it waits for listed. -/
def DC (md : Region.Mode) (ops : Array Oper) (listed : Array Bool) : Prop := ∀ j o, ops[j]? = some o → listed.getD j false = true → ∀ e ∈ o.after, Region.binds md e = true → listed.getD e.on false = true
theorem DC.set {listed : Array Bool} {j : Nat} (h : DC md ops listed) (hj : j ∈ Region.ready md ops listed) : DC md ops (listed.setIfInBounds j true) := by
  intro k o ho hk e he hb
  by_cases hjk : j = k
  · subst hjk
    obtain ⟨_, o', ho', hall⟩ := mem_ready.1 hj
    rw [ho] at ho'; cases ho'
    exact getD_set_true (hall e he hb)
  · rw [getD_set_ne false hjk] at hk
    exact getD_set_true (h k o ho hk e he hb)
def depB (md : Region.Mode) (ops : Array Oper) : Nat → Nat → Nat → Bool
  | 0, _, _ => false
  | f + 1, i, j => match ops[j]? with
    | none => false
    | some o => (o.after.toList.any fun e => Region.binds md e && e.on == i) || (o.after.toList.any fun e => Region.binds md e && depB md ops f i e.on)
theorem dep_not {listed : Array Bool} (hdc : DC md ops listed) (hi : listed.getD i false = false) : ∀ (f j : Nat), depB md ops f i j = true → listed.getD j false = false ∧ j ∉ Region.ready md ops listed := by
  intro f
  induction f with
  | zero => intro j h; cases h
  | succ f ih =>
    intro j h
    simp only [depB] at h
    split at h
    · cases h
    · rename_i o ho
      have key : ∃ e ∈ o.after, Region.binds md e = true ∧ listed.getD e.on false = false := by
        simp only [Bool.or_eq_true, List.any_eq_true, Bool.and_eq_true, beq_iff_eq] at h
        rcases h with ⟨e, he, hb, h⟩ | ⟨e, he, hb, h⟩
        · exact ⟨e, by simpa using he, hb, by rw [h]; exact hi⟩
        · exact ⟨e, by simpa using he, hb, (ih _ h).1⟩
      obtain ⟨e, he, hb, hl⟩ := key
      refine ⟨?_, fun hr => ?_⟩
      · cases g : listed.getD j false with
        | false => rfl
        | true => rw [hdc j o ho g e he hb] at hl; cases hl
      · obtain ⟨_, o', ho', hall⟩ := mem_ready.1 hr
        rw [ho] at ho'; cases ho'
        rw [hall e he hb] at hl; cases hl
/-- An operation that writes is ordered with all but those told as looking elsewhere. -/
def kapB (md : Region.Mode) (ops : Array Oper) (ws hs : List Nat) : Bool :=
  ws.all fun i => (List.range ops.size).all fun j => i == j || i == 1000 + j || (decide (i < 1000) && !ws.contains (1000 + j) && !ws.contains j && hs.contains j) || depB md ops ops.size (i % 1000) j || depB md ops ops.size j (i % 1000)
theorem kap_specO (hk : kapB md ops ws hs = true) {i j : Nat} (hi : kind ws hs i = .o) (hil : i < 1000) (hj : j < ops.size) (hjl : j < 1000) (hne : i ≠ j) : depB md ops ops.size i j = true ∨ depB md ops ops.size j i = true := by
  have hi' : ws.contains (1000 + i) = true := by
    unfold kind at hi
    split at hi
    · rename_i h; exact h
    · split at hi
      · cases hi
      · split at hi <;> cases hi
  simp only [kapB, List.all_eq_true] at hk
  have := hk (1000 + i) (by simpa using hi') j (List.mem_range.2 hj)
  simp only [Bool.or_eq_true, beq_iff_eq, Bool.and_eq_true, Bool.not_eq_true', decide_eq_true_eq] at this
  rw [show (1000 + i) % 1000 = i by omega] at this
  rcases this with (((h | h) | h) | h) | h
  · omega
  · omega
  · omega
  · exact .inl h
  · exact .inr h
theorem kap_spec (hk : kapB md ops ws hs = true) {i j : Nat} (hi : kind ws hs i = .w) (hil : i < 1000) (hj : j < ops.size) (hne : i ≠ j) : kind ws hs j = .h ∨ depB md ops ops.size i j = true ∨ depB md ops ops.size j i = true := by
  have hi' : ws.contains i = true := by
    unfold kind at hi
    split at hi
    · cases hi
    · split at hi
      · rename_i h; exact h
      · split at hi <;> cases hi
  simp only [kapB, List.all_eq_true] at hk
  have := hk i (by simpa using hi') j (List.mem_range.2 hj)
  simp only [Bool.or_eq_true, beq_iff_eq, Bool.and_eq_true, Bool.not_eq_true', decide_eq_true_eq] at this
  rw [Nat.mod_eq_of_lt hil] at this
  rcases this with (((h | h) | h) | h) | h
  · exact absurd h hne
  · omega
  · left
    simp only [kind, h.1.1.2, h.1.2, Bool.false_eq_true, if_false, h.2, if_true]
  · exact .inr (.inl h)
  · exact .inr (.inr h)
theorem ready_un {j : Nat} {listed : Array Bool} (h : j ∈ Region.ready md ops listed) : listed.getD j false = false := by
  obtain ⟨h0, _⟩ := mem_ready.1 h
  rcases Nat.lt_or_ge j listed.size with h' | h'
  · simp [h'] at h0 ⊢; exact h0
  · simp [Array.getElem?_eq_none h']
theorem anyX_first (hK : ∀ s s', Eqv s s' → K s → K s') (hsz : ops.size ≤ 1000) (hkap : kapB md ops ws hs = true) {i : Nat} {oi : Oper} (hi : ops[i]? = some oi) :
    ∀ (fuel : Nat) (listed : Array Bool) (s s1 : AS), DC md ops listed →
      (∀ j oj, ops[j]? = some oj → j ≠ i → listed.getD j true = false → (∀ e ∈ oj.after, Region.binds md e = true → e.on ≠ i) → oi.apart ops oj = true) →
      i ∈ Region.ready md ops listed → xS P nt ops M (kind ws hs i) oi s s1 → AnyX P nt md ops ws hs M K fuel (listed.setIfInBounds i true) s1 → AnyX P nt md ops ws hs M K (fuel + 1) listed s := by
  intro fuel
  induction fuel with
  | zero =>
    intro listed s s1 _ _ hr hy H
    refine ⟨fun h => (by rw [h] at hr; cases hr), fun j hj => ?_⟩
    by_cases hji : j = i
    · subst hji; exact ⟨oi, s1, hi, hy, H⟩
    · have := ready_mono hj hji
      rw [H.1] at this
      cases this
  | succ fuel ih =>
    intro listed s s1 hdc hfree hr hy H
    refine ⟨fun h => (by rw [h] at hr; cases hr), fun j hj => ?_⟩
    by_cases hji : j = i
    · subst hji; exact ⟨oi, s1, hi, hy, H⟩
    · obtain ⟨oj, s2, hoj, hsj, hkj⟩ := H.2 j (ready_mono hj hji)
      obtain ⟨hjun, oj', hoj', hall⟩ := mem_ready.1 hj
      rw [hoj] at hoj'
      cases hoj'
      have hnot : ∀ e ∈ oj.after, Region.binds md e = true → e.on ≠ i := fun e he hb heq => by
        have h1 := hall e he hb
        rw [heq, ready_un hr] at h1
        cases h1
      obtain ⟨a1, a2, a3⟩ := Oper.apart_spec (hfree j oj hoj hji hjun hnot)
      have hil : i < ops.size := (Array.getElem?_eq_some_iff.1 hi).1
      have hjl : j < ops.size := (Array.getElem?_eq_some_iff.1 hoj).1
      have kk : (kind ws hs i = .w → kind ws hs j = .h) ∧ (kind ws hs j = .w → kind ws hs i = .h) ∧ kind ws hs i ≠ .o ∧ kind ws hs j ≠ .o := by
        refine ⟨fun h => ?_, fun h => ?_, fun h => ?_, fun h => ?_⟩
        rotate_left 2
        · rcases kap_specO hkap h (by omega) hjl (by omega) (Ne.symm hji) with g | g
          · exact absurd hj (dep_not hdc (ready_un hr) _ _ g).2
          · exact absurd hr (dep_not hdc (ready_un hj) _ _ g).2
        · rcases kap_specO hkap h (by omega) hil (by omega) hji with g | g
          · exact absurd hr (dep_not hdc (ready_un hj) _ _ g).2
          · exact absurd hj (dep_not hdc (ready_un hr) _ _ g).2
        · rcases kap_spec hkap h (by omega) hjl (Ne.symm hji) with g | g | g
          · exact g
          · exact absurd hj (dep_not hdc (ready_un hr) _ _ g).2
          · exact absurd hr (dep_not hdc (ready_un hj) _ _ g).2
        · rcases kap_spec hkap h (by omega) hil hji with g | g | g
          · exact g
          · exact absurd hr (dep_not hdc (ready_un hj) _ _ g).2
          · exact absurd hj (dep_not hdc (ready_un hr) _ _ g).2
      obtain ⟨t, s2', g1, g2, g3⟩ := xS.comm kk a1 a2 a3 hy hsj
      refine ⟨oj, t, hoj, g1, ?_⟩
      have hfree' : ∀ k ok, ops[k]? = some ok → k ≠ i → (listed.setIfInBounds j true).getD k true = false →
          (∀ e ∈ ok.after, Region.binds md e = true → e.on ≠ i) → oi.apart ops ok = true := fun k ok hk hki hun hno => by
        refine hfree k ok hk hki ?_ hno
        by_cases hjk : j = k
        · subst hjk; exact hjun
        · rw [getD_set_ne true hjk] at hun; exact hun
      refine ih (listed.setIfInBounds j true) t s2' (hdc.set hj) hfree' (ready_mono hr (Ne.symm hji)) g2 ?_
      rw [Array.setIfInBounds_comm _ _ hji]
      exact AnyX.eqv hK _ _ _ _ g3 hkj

/-- The walk in the order of the text: k: the number of the first operation of l. -/
inductive Gx (P : Program) (nt : NT) (ops : Array Oper) (ws hs : List Nat) (M : Nat → Bool) (K : AS → Prop) : Nat → List Oper → AS → Prop
  | nil {k : Nat} {s : AS} (h : K s) : Gx P nt ops ws hs M K k [] s
  | step {k : Nat} {o : Oper} {l : List Oper} {s s' : AS} (hx : xS P nt ops M (kind ws hs k) o s s') (h : Gx P nt ops ws hs M K (k + 1) l s') : Gx P nt ops ws hs M K k (o :: l) s
  | eqv {k : Nat} {l : List Oper} {s s1 : AS} (he : Eqv s s1) (h : Gx P nt ops ws hs M K k l s1) : Gx P nt ops ws hs M K k l s
theorem anyX_lex (hK : ∀ s s', Eqv s s' → K s → K s') (hsz : ops.size ≤ 1000) (hkap : kapB md ops ws hs = true) {k : Nat} {l : List Oper} {s : AS} (h : Gx P nt ops ws hs M K k l s) : ∀ (listed : Array Bool), DC md ops listed → (∀ j, l[j]? = ops[k + j]?) → Region.lexFrom md ops l.length k listed = true → AnyX P nt md ops ws hs M K l.length listed s := by
  induction h with
  | nil h => intro listed _ _ hB; exact ⟨by simpa [Region.lexFrom] using hB, h⟩
  | eqv he _ ih => intro listed hdc hl hB; exact AnyX.eqv hK _ _ _ _ he.symm (ih listed hdc hl hB)
  | step hx _ ih =>
    rename_i k o l s s' _
    intro listed hdc hl hB
    have h0 : ops[k]? = some o := by simpa using (hl 0).symm
    simp only [List.length_cons, Region.lexFrom, Bool.and_eq_true] at hB
    obtain ⟨⟨hr, hf⟩, hB'⟩ := hB
    have hr' : k ∈ Region.ready md ops listed := by simpa using hr
    exact anyX_first hK hsz hkap h0 l.length listed s s' hdc (Region.free_spec h0 hf) hr' hx (ih _ (hdc.set hr') (fun j => by have := hl (j + 1); simpa [Nat.add_assoc, Nat.add_comm 1 j] using this) hB')
theorem Holds.anx {id : Nat} (ws hs : List Nat) (M : Nat → Bool) (hm : P.follows .mixedOrders = true) (hB : Region.lexB .any l.toArray = true) (hkap : (decide (l.length ≤ 1000) && kapB .any l.toArray ws hs) = true) (h : Gx P nt l.toArray ws hs M (fun s => Q .normal s) 0 l s) : Holds P nt (.region id l.toArray true) Q s := by
  intro C a w S Ow L hn hR
  have hK : ∀ s s' : AS, Eqv s s' → (∃ s1, Eqv s1 s ∧ Q .normal s1) → ∃ s1, Eqv s1 s' ∧ Q .normal s1 := fun s s' e ⟨s1, e1, q⟩ => ⟨s1, e1.trans e, q⟩
  have mono : ∀ {k : Nat} {l' : List Oper} {s : AS}, Gx P nt l.toArray ws hs M (fun s => Q .normal s) k l' s → Gx P nt l.toArray ws hs M (fun s => ∃ s1, Eqv s1 s ∧ Q .normal s1) k l' s := by
    intro k l' s h
    induction h with
    | nil h => exact .nil ⟨_, Eqv.refl _, h⟩
    | step hx _ ih => exact .step hx ih
    | eqv he _ ih => exact .eqv he ih
  simp only [Region.lexB, Bool.and_eq_true] at hB
  refine wp_region_any hm ?_
  simp only [Bool.and_eq_true, decide_eq_true_eq] at hkap
  have := anyX_lex (md := .any) hK (by simpa using hkap.1) hkap.2 (mono h) (Array.replicate l.toArray.size false) (fun j o _ hj => by
    have : (Array.replicate l.toArray.size false).getD j false = false := by
      simp only [Array.getD_eq_getD_getElem?, Array.getElem?_replicate]; split <;> rfl
    rw [this] at hj; cases hj) (by simp) (by simpa using hB.2)
  rw [List.size_toArray]
  refine wpAny_of_anyX (K := fun s => ∃ s1, Eqv s1 s ∧ Q .normal s1) (fun s' a w S Ow L hk hR => ?_) hn _ _ _ _ _ _ _ _ (hR.drawn (w' := { w with drawn := w.drawn + 1 }) rfl rfl rfl rfl) (by simpa using this)
  obtain ⟨s1, e, q⟩ := hk
  exact ⟨s1, S, Ow, L, q, hR.eqv e.symm⟩

/-! #### handy forms -/
variable {k : Nat} {r : AV}
theorem Gx.go (hk : kind ws hs k = .f) (hg : gd ops s o = some true) (ha : qput P nt s o = some s') (h : Gx P nt ops ws hs M K (k + 1) l s') : Gx P nt ops ws hs M K k (o :: l) s := by
  unfold qput at ha
  split at ha
  · rename_i hd
    simp only [Option.map_eq_some_iff] at ha
    obtain ⟨r, hr, rfl⟩ := ha
    exact .step (by rw [hk]; exact ⟨r, ⟨hd, .inr ⟨hg, .look hr⟩⟩, rfl⟩) h
  · cases ha
theorem Gx.skip (hk : kind ws hs k = .f) (hg : gd ops s o = some false) (hd : okd nt.n o.dst = true) (h : Gx P nt ops ws hs M K (k + 1) l (put s o.dst (.tu []))) : Gx P nt ops ws hs M K k (o :: l) s :=
  .step (by rw [hk]; exact ⟨_, ⟨hd, .inl ⟨hg, rfl⟩⟩, rfl⟩) h
theorem Gx.hid (hk : kind ws hs k = .h) (hg : gd ops (hide M s) o = some true) (hd : okd nt.n o.dst = true) (ha : qval P (hide M s) o.op = some r) (h : Gx P nt ops ws hs M K (k + 1) l (put s o.dst r)) : Gx P nt ops ws hs M K k (o :: l) s :=
  .step (by rw [hk]; exact ⟨r, ⟨hd, .inr ⟨hg, .look ha⟩⟩, rfl⟩) h
theorem Gx.skipH (hk : kind ws hs k = .h) (hg : gd ops s o = some false) (hd : okd nt.n o.dst = true) (h : Gx P nt ops ws hs M K (k + 1) l (put s o.dst (.tu []))) : Gx P nt ops ws hs M K k (o :: l) s :=
  .step (by rw [hk]; exact ⟨_, ⟨hd, .inl ⟨hg, rfl⟩⟩, rfl⟩) h
theorem Gx.skipW (hk : kind ws hs k = .w) (hg : gd ops s o = some false) (hd : okd nt.n o.dst = true) (h : Gx P nt ops ws hs M K (k + 1) l (put s o.dst (.tu []))) : Gx P nt ops ws hs M K k (o :: l) s := by
  refine .step ?_ h
  rw [hk]
  refine ⟨.tu [], s.bl, s.nx, ⟨rfl, fun tm' h' C a w S Ow L i Q K hn ho hR hK => ?_⟩, rfl⟩
  have hg' : gd ops (⟨tm', s.bl, s.nx⟩ : AS) o = some false := by
    rw [gd_congr (s := s) fun g b t e ht => h' t (List.mem_append_right _ (by simp [e, ht]))]; exact hg
  subst hn
  unfold wpOp
  simp only [ho]
  rw [gd_sound hR hg']
  exact hK _ _ _ _ _ (hR.skip hd)
theorem Gx.calm (hk : kind ws hs k = .f) (hg : gd ops s o = some true) (hd : okd nt.n o.dst = true) (hc : Calm P s o.op r) (h : Gx P nt ops ws hs M K (k + 1) l (put s o.dst r)) : Gx P nt ops ws hs M K k (o :: l) s :=
  .step (by rw [hk]; exact ⟨r, ⟨hd, .inr ⟨hg, hc⟩⟩, rfl⟩) h
theorem Gx.cc {c : Operand} {as : Array Operand} {ts : Array TypeId} {f : FuncId} {xs cap ys : List AV} (hp : Pure P f ys r) (hk : kind ws hs k = .f) (hop : o.op = .call ⟨.value c, as, ts⟩) (hg : gd ops s o = some true) (hd : okd nt.n o.dst = true)
    (hc : ev s c = some (.fn f cap)) (he : as.toList.mapM (ev s) = some xs) (hy : xs ++ cap = ys) (hcl : ys.all cl = true) (h : Gx P nt ops ws hs M K (k + 1) l (put s o.dst r)) : Gx P nt ops ws hs M K k (o :: l) s := by
  subst hy
  exact Gx.calm hk hg hd (.callC hop hc he hcl hp) h
theorem Gx.cd {c : Operand} {as : Array Operand} {ts : Array TypeId} {f : FuncId} {xs cap ys zs : List AV} (hp : Pure P f ys r) (hk : kind ws hs k = .f) (hop : o.op = .call ⟨.value c, as, ts⟩) (hg : gd ops s o = some true) (hd : okd nt.n o.dst = true)
    (hc : ev s c = some (.fn f cap)) (he : as.toList.mapM (ev s) = some xs) (hz : xs ++ cap = zs) (hf : FzL s.bl zs ys) (hr : dry r = true) (h : Gx P nt ops ws hs M K (k + 1) l (put s o.dst r)) : Gx P nt ops ws hs M K k (o :: l) s := by
  subst hz
  exact Gx.calm hk hg hd (.call hop hc he hf hp hr) h
theorem gd_tm {s1 : AS} (h : ∀ t ∈ o.looksAt ops, lk s1.tm t = lk s.tm t) : gd ops s1 o = gd ops s o :=
  gd_congr fun g b t e ht => h t (List.mem_append_right _ (by simp [e, ht]))
theorem ev_tm {s1 : AS} (h : ∀ t ∈ o.looksAt ops, lk s1.tm t = lk s.tm t) : ∀ y ∈ o.op.operands, ev s1 y = ev s y := fun y hy => by
  cases y with
  | tmp t => exact h t (List.mem_append_left _ (List.mem_filterMap.2 ⟨.tmp t, by simpa using hy, rfl⟩))
  | _ => rfl
theorem Wr.of {s' : AS} (hg : gd ops s o = some true) (ha : astep P nt s o = some s') (hM : s'.bl.filter (fun p => !M p.1) = s.bl.filter fun p => !M p.1) : ∃ r, Wr P nt ops M s o r s'.bl s'.nx ∧ s' = put ⟨s.tm, s'.bl, s'.nx⟩ o.dst r := by
  obtain ⟨r, e, _⟩ := astep_sw (tm := s.tm) (fun y _ => rfl) ha
  refine ⟨r, ⟨hM, fun tm' h' C a w S Ow L i Q K hn ho hR hK => ?_⟩, e⟩
  obtain ⟨r', e', ha'⟩ := astep_sw (tm := tm') (fun y hy => ev_tm (s1 := sw tm' s) h' y hy) ha
  have hr : o.dst = none ∨ r' = r := by
    cases hd : o.dst with
    | none => exact .inl rfl
    | some d =>
      rw [hd] at e e'
      rw [e'] at e
      simp only [put, AS.mk.injEq, List.cons.injEq, Prod.mk.injEq, true_and, and_true] at e
      exact .inr e
  have er : ∀ s0, put s0 o.dst r' = put s0 o.dst r := fun s0 => by
    rcases hr with h | h
    · rw [h]; rfl
    · rw [h]
  rw [er] at ha'
  subst hn
  unfold wpOp
  simp only [ho]
  rw [gd_sound hR (by rw [gd_tm (s := s) h']; exact hg)]
  simp only [if_true]
  left
  unfold Oper.wp
  obtain ⟨n, w', Ow', L', hrun, ⟨u, rfl, hR'⟩ | ⟨rfl, hR'⟩⟩ := astep_sound hR ha'
  · rw [hrun]; exact hK _ _ _ _ _ hR'
  · rw [hrun]; exact hK _ _ _ _ _ hR'
theorem Gx.wr (hk : kind ws hs k = .w) (hg : gd ops s o = some true) (ha : astep P nt s o = some s') (hM : s'.bl.filter (fun p => !M p.1) = s.bl.filter fun p => !M p.1) (h : Gx P nt ops ws hs M K (k + 1) l s') : Gx P nt ops ws hs M K k (o :: l) s := by
  obtain ⟨r, hw, e⟩ := Wr.of hg ha hM
  exact .step (by rw [hk]; exact ⟨r, _, _, hw, e⟩) h
theorem Gx.wo (hk : kind ws hs k = .o) (hg : gd ops s o = some true) (ha : astep P nt s o = some s') (h : Gx P nt ops ws hs M K (k + 1) l s') : Gx P nt ops ws hs M K k (o :: l) s := by
  obtain ⟨r, hw, e⟩ := Wr.of (M := fun _ => true) hg ha (hid_all _ _)
  exact .step (by rw [hk]; exact ⟨r, _, _, hw, e⟩) h
theorem Gx.skipO (hk : kind ws hs k = .o) (hg : gd ops s o = some false) (hd : okd nt.n o.dst = true) (h : Gx P nt ops ws hs M K (k + 1) l (put s o.dst (.tu []))) : Gx P nt ops ws hs M K k (o :: l) s := by
  refine .step ?_ h
  rw [hk]
  refine ⟨.tu [], s.bl, s.nx, ⟨rfl, fun tm' h' C a w S Ow L i Q K hn ho hR hK => ?_⟩, rfl⟩
  have hg' : gd ops (⟨tm', s.bl, s.nx⟩ : AS) o = some false := by
    rw [gd_congr (s := s) fun g b t e ht => h' t (List.mem_append_right _ (by simp [e, ht]))]; exact hg
  subst hn
  unfold wpOp
  simp only [ho]
  rw [gd_sound hR hg']
  exact hK _ _ _ _ _ (hR.skip hd)
theorem Wr.fn {c : Operand} {as : Array Operand} {ts : Array TypeId} {f : FuncId} {xs cap args : List AV} {q m : Nat} {ins outs bl' : List (Nat × Blk)} (ρ : Nat → Nat) (hp : Fn P f q args ins r m outs) (hop : o.op = .call ⟨.value c, as, ts⟩) (hg : gd ops s o = some true) (hd : okd nt.n o.dst = true)
    (hc : ev s c = some (.fn f cap)) (he : as.toList.mapM (ev s) = some xs) (hargs : xs ++ cap = args.map (En.ren ρ)) (hok : args.all (okr q) = true) (hins : (List.range q).all (fun n => (lb ins n).isSome) = true) (hb : ChkB ρ q s.bl ins) (hkm : q ≤ m) (hom : outs.all (fun p => decide (p.1 < m)) = true)
    (hr : okr m r = true) (hren : RenB (nme q s.nx ρ) m outs bl') (hM : (aft s q ρ m bl').bl.filter (fun p => !M p.1) = s.bl.filter fun p => !M p.1) : Wr P nt ops M s o (En.ren (nme q s.nx ρ) r) (aft s q ρ m bl').bl (aft s q ρ m bl').nx := by
  refine ⟨hM, fun tm' h' C a w S Ow L i Q K hn ho hR hK => ?_⟩
  have hev : ∀ y ∈ o.op.operands, ev ⟨tm', s.bl, s.nx⟩ y = ev s y := ev_tm (s1 := ⟨tm', s.bl, s.nx⟩) h'
  have hev' := hev
  rw [hop] at hev'
  simp only [Op.operands, Call.operands] at hev'
  exact fn_wp (s := ⟨tm', s.bl, s.nx⟩) ρ ho (by rw [gd_tm (s := s) h']; exact hg) hop hd (by rw [hev' _ (by simp)]; exact hc)
    (by rw [mapM_congr (g := ev s) fun y hy => hev' y (by simp at hy; simp [hy])]; exact he) hargs hok hins hb hkm hom hp hr hren hn hR hK
theorem Gx.fn {c : Operand} {as : Array Operand} {ts : Array TypeId} {f : FuncId} {xs cap args : List AV} {q m : Nat} {ins outs bl' : List (Nat × Blk)} (ρ : Nat → Nat) (hp : Fn P f q args ins r m outs) (hk : kind ws hs k = .w) (hop : o.op = .call ⟨.value c, as, ts⟩) (hg : gd ops s o = some true) (hd : okd nt.n o.dst = true)
    (hc : ev s c = some (.fn f cap)) (he : as.toList.mapM (ev s) = some xs) (hargs : xs ++ cap = args.map (En.ren ρ)) (hok : args.all (okr q) = true) (hins : (List.range q).all (fun n => (lb ins n).isSome) = true) (hb : ChkB ρ q s.bl ins) (hkm : q ≤ m) (hom : outs.all (fun p => decide (p.1 < m)) = true)
    (hr : okr m r = true) (hren : RenB (nme q s.nx ρ) m outs bl') (hM : (aft s q ρ m bl').bl.filter (fun p => !M p.1) = s.bl.filter fun p => !M p.1) (h : Gx P nt ops ws hs M K (k + 1) l (put (aft s q ρ m bl') o.dst (En.ren (nme q s.nx ρ) r))) : Gx P nt ops ws hs M K k (o :: l) s := by
  refine .step (s' := put (aft s q ρ m bl') o.dst (En.ren (nme q s.nx ρ) r)) ?_ h
  rw [hk]
  exact ⟨_, _, _, Wr.fn ρ hp hop hg hd hc he hargs hok hins hb hkm hom hr hren hM, rfl⟩
theorem Gx.fno {c : Operand} {as : Array Operand} {ts : Array TypeId} {f : FuncId} {xs cap args : List AV} {q m : Nat} {ins outs bl' : List (Nat × Blk)} (ρ : Nat → Nat) (hp : Fn P f q args ins r m outs) (hk : kind ws hs k = .o) (hop : o.op = .call ⟨.value c, as, ts⟩) (hg : gd ops s o = some true) (hd : okd nt.n o.dst = true)
    (hc : ev s c = some (.fn f cap)) (he : as.toList.mapM (ev s) = some xs) (hargs : xs ++ cap = args.map (En.ren ρ)) (hok : args.all (okr q) = true) (hins : (List.range q).all (fun n => (lb ins n).isSome) = true) (hb : ChkB ρ q s.bl ins) (hkm : q ≤ m) (hom : outs.all (fun p => decide (p.1 < m)) = true)
    (hr : okr m r = true) (hren : RenB (nme q s.nx ρ) m outs bl') (h : Gx P nt ops ws hs M K (k + 1) l (put (aft s q ρ m bl') o.dst (En.ren (nme q s.nx ρ) r))) : Gx P nt ops ws hs M K k (o :: l) s := by
  refine .step (s' := put (aft s q ρ m bl') o.dst (En.ren (nme q s.nx ρ) r)) ?_ h
  rw [hk]
  exact ⟨_, _, _, Wr.fn (M := fun _ => true) ρ hp hop hg hd hc he hargs hok hins hb hkm hom hr hren (hid_all _ _), rfl⟩
end
end Go.Proofs.Ytaiefncpgkoniaa.En
