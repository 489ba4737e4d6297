/- Own words, 10: code; calls of functions that write nothing that stood; what a function returns. -/
import Derived.Test.YtaiefncpgkoniaaEn9
import Derived.Deep.Quiet
import Derived.Tactics
namespace Go.Proofs.Ytaiefncpgkoniaa.En
open Go.RowKit
set_option linter.unusedSimpArgs false
set_option linter.unusedVariables false

/-- What holds at an exit. -/
def Post (C : Ctx) (Q : Exit → AS → Prop) (e : Exit) (a : Act) (w : World) : Prop := ∃ s S Ow L, Q e s ∧ RelX C s a w S Ow L
/-- The code c, begun in the state s, ends as Q says. -/
def Holds (P : Program) (nt : NT) (c : Code) (Q : Exit → AS → Prop) (s : AS) : Prop :=
  ∀ (C : Ctx) (a : Act) (w : World) (S : Nat → Prop) (Ow : Owners) (L : Names), C.nt = nt → RelX C s a w S Ow L → c.wp P (Post C Q) a w
def thenA (K : AS → Prop) (Q : Exit → AS → Prop) : Exit → AS → Prop
  | .normal, s => K s
  | e, s => Q e s
def inB (id : Nat) (Q : Exit → AS → Prop) : Exit → AS → Prop
  | .exit i, s => if i = id then Q .normal s else Q (.exit i) s
  | e, s => Q e s

section
variable {P : Program} {nt : NT} {Q Q' : Exit → AS → Prop} {s s' : AS}

theorem Holds.mono {c : Code} (h : Holds P nt c Q s) (hQ : ∀ e s, Q e s → Q' e s) : Holds P nt c Q' s :=
  fun C a w S Ow L hn hR => wp_mono (h C a w S Ow L hn hR) fun e a w ⟨s, S, Ow, L, q, r⟩ => ⟨s, S, Ow, L, hQ e s q, r⟩
/-- A state that says less. -/
theorem Holds.weak {c : Code} (hw : ∀ (C : Ctx) (a : Act) (w : World) (S : Nat → Prop) (Ow : Owners) (L : Names), RelX C s a w S Ow L → ∃ S' Ow' L', RelX C s' a w S' Ow' L') (h : Holds P nt c Q s') : Holds P nt c Q s :=
  fun C a w S Ow L hn hR => let ⟨S', Ow', L', hR'⟩ := hw C a w S Ow L hR; h C a w S' Ow' L' hn hR'
theorem Holds.seq {x y : Code} (h : Holds P nt x (thenA (Holds P nt y Q) Q) s) : Holds P nt (.seq x y) Q s := by
  intro C a w S Ow L hn hR
  refine wp_seq (wp_mono (h C a w S Ow L hn hR) ?_)
  rintro e a1 w1 ⟨s1, S1, Ow1, L1, q, r⟩
  cases e with
  | normal => exact q C a1 w1 S1 Ow1 L1 hn r
  | _ => exact ⟨s1, S1, Ow1, L1, q, r⟩
theorem Holds.block {id : Nat} {c : Code} (h : Holds P nt c (inB id Q) s) : Holds P nt (.block id c) Q s := by
  intro C a w S Ow L hn hR
  refine wp_block (wp_mono (h C a w S Ow L hn hR) ?_)
  rintro e a1 w1 ⟨s1, S1, Ow1, L1, q, r⟩
  cases e with
  | exit i =>
    simp only [inB] at q
    simp only [Exit.inBlock]
    split
    · rename_i hi; rw [if_pos hi] at q; exact ⟨s1, S1, Ow1, L1, q, r⟩
    · rename_i hi; rw [if_neg hi] at q; exact ⟨s1, S1, Ow1, L1, q, r⟩
  | _ => exact ⟨s1, S1, Ow1, L1, q, r⟩
theorem Holds.skip (h : Q .normal s) : Holds P nt .skip Q s := fun _ _ _ S Ow L _ hR => wp_skip ⟨s, S, Ow, L, h, hR⟩
theorem Holds.exit {id : Nat} (h : Q (.exit id) s) : Holds P nt (.exit id) Q s := fun _ _ _ S Ow L _ hR => wp_exit ⟨s, S, Ow, L, h, hR⟩
theorem Holds.ret (h : Q .ret s) : Holds P nt .ret Q s := fun _ _ _ S Ow L _ hR => wp_ret ⟨s, S, Ow, L, h, hR⟩
theorem Holds.cond {c : Operand} {x y : Code} {b : Bool} (hc : ev s c = some (.v (.bool b))) (h1 : b = true → Holds P nt x Q s) (h2 : b = false → Holds P nt y Q s) : Holds P nt (.cond c x y) Q s := by
  intro C a w S Ow L hn hR
  obtain ⟨e, _⟩ := (ev_rep hR hc).v_inv
  exact wp_cond_split e (fun hb => h1 hb C a w S Ow L hn hR) (fun hb => h2 hb C a w S Ow L hn hR)
theorem thenA_normal {K : AS → Prop} (h : K s) : thenA K Q .normal s := h
theorem thenA_exit {K : AS → Prop} {i : Nat} (h : Q (.exit i) s) : thenA K Q (.exit i) s := h
theorem thenA_ret {K : AS → Prop} (h : Q .ret s) : thenA K Q .ret s := h
theorem inB_normal {id : Nat} (h : Q .normal s) : inB id Q .normal s := h
theorem inB_ret {id : Nat} (h : Q .ret s) : inB id Q .ret s := h
theorem inB_here {id : Nat} (h : Q .normal s) : inB id Q (.exit id) s := by simpa [inB] using h
theorem inB_past {id i : Nat} (hi : (i == id) = false) (h : Q (.exit i) s) : inB id Q (.exit i) s := by
  have : i ≠ id := by simpa using hi
  simpa [inB, this] using h
theorem least (p : Nat → Prop) (h : ∃ n, p n) : ∃ n, p n ∧ ∀ m, p m → n ≤ m := by
  obtain ⟨n, hn⟩ := h
  induction n using Nat.strongRecOn with
  | _ n ih =>
    by_cases g : ∃ m, m < n ∧ p m
    · obtain ⟨m, hm, hp⟩ := g
      exact ih m hm hp
    · exact ⟨n, hn, fun m hm => Nat.le_of_not_lt fun hl => g ⟨m, hl, hm⟩⟩
/-- s0 says no more than s1. -/
def Cov (k : Nat) (s0 s1 : AS) : Prop := ∀ (C : Ctx) (a : Act) (w : World) (S : Nat → Prop) (Ow : Owners) (L : Names), C.nt.k = k → RelX C s1 a w S Ow L → ∃ S' Ow' L', RelX C s0 a w S' Ow' L'
theorem Cov.refl (k : Nat) (s : AS) : Cov k s s := fun _ _ _ S Ow L _ h => ⟨S, Ow, L, h⟩
theorem Cov.trans {n : Nat} {a b c : AS} (h : Cov n a b) (k : Cov n b c) : Cov n a c := fun C x w S Ow L e r => let ⟨S', Ow', L', r'⟩ := k C x w S Ow L e r; h C x w S' Ow' L' e r'
/-- A loop: I i: the states at its head. -/
theorem Holds.loop {c : Code} {ι : Type} (I : ι → AS) (V : ι → Prop) (μ : ι → Nat) (i0 : ι) (h0 : V i0) (hs : Cov nt.k (I i0) s)
    (round : ∀ i, V i → Holds P nt c (thenA (fun s1 => ∃ j, V j ∧ μ j < μ i ∧ Cov nt.k (I j) s1) Q) (I i)) : Holds P nt (.loop c) Q s := by
  intro C a w S Ow L hn hR
  obtain ⟨S0, Ow0, L0, hR0⟩ := hs C a w S Ow L (by rw [hn]) hR
  let J : Act → World → Nat → Prop := fun a w n => ∃ i, μ i = n ∧ V i ∧ ∃ S Ow L, RelX C (I i) a w S Ow L
  have hJ : ∀ a w, (∃ n, J a w n) → ∃ n, J a w n ∧ ∀ m, J a w m → n ≤ m := fun a w => least _
  let M : Act → World → Nat := fun a w => by
    classical exact if h : ∃ n, J a w n then Classical.choose (hJ a w h) else 0
  have hM : ∀ a w, (∃ n, J a w n) → J a w (M a w) ∧ ∀ m, J a w m → M a w ≤ m := fun a w h => by
    have := Classical.choose_spec (hJ a w h)
    simp only [M, dif_pos h]
    exact this
  refine wp_loop (fun a w => ∃ n, J a w n) M ⟨_, i0, rfl, h0, S0, Ow0, L0, hR0⟩ fun a1 w1 h1 => ?_
  obtain ⟨⟨i, hi, hV, S1, Ow1, L1, hR1⟩, _⟩ := hM a1 w1 h1
  refine wp_mono (round i hV C a1 w1 S1 Ow1 L1 hn hR1) ?_
  rintro e a2 w2 ⟨s2, S2, Ow2, L2, q, r⟩
  cases e with
  | normal =>
    obtain ⟨j, hVj, hlt, hc⟩ := q
    obtain ⟨S3, Ow3, L3, hR3⟩ := hc C a2 w2 S2 Ow2 L2 (by rw [hn]) r
    have hj : J a2 w2 (μ j) := ⟨j, rfl, hVj, S3, Ow3, L3, hR3⟩
    have := (hM a2 w2 ⟨_, hj⟩).2 _ hj
    exact ⟨⟨_, hj⟩, by omega⟩
  | _ => exact ⟨s2, S2, Ow2, L2, q, r⟩
theorem Holds.cov {c : Code} (hc : Cov nt.k s' s) (h : Holds P nt c Q s') : Holds P nt c Q s := fun C a w S Ow L hn hR => let ⟨S', Ow', L', hR'⟩ := hc C a w S Ow L (by rw [hn]) hR; h C a w S' Ow' L' hn hR'

/-! #### regions in the order of their text -/
def G (P : Program) (nt : NT) (ops : Array Oper) (K : AS → Prop) (l : List Nat) (s : AS) : Prop :=
  ∀ (C : Ctx) (a : Act) (w : World) (S : Nat → Prop) (Ow : Owners) (L : Names) (Q : Exit → Act → World → Prop), C.nt = nt → RelX C s a w S Ow L →
    (∀ s a w S Ow L, K s → RelX C s a w S Ow L → Q .normal a w) → wpOps P ops Q l a w
variable {ops : Array Oper} {K : AS → Prop} {l : List Nat} {i : Nat} {o : Oper}
theorem Holds.region {id : Nat} (h : G P nt ops (fun s => Q .normal s) (List.range ops.size) s) : Holds P nt (.region id ops false) Q s :=
  fun C a w S Ow L hn hR => wp_region (h C a w S Ow L _ hn hR fun s a w S Ow L q r => ⟨s, S, Ow, L, q, r⟩)
theorem G.nil (h : K s) : G P nt ops K [] s := fun _ _ _ _ _ _ _ _ hR hQ => hQ _ _ _ _ _ _ h hR
theorem G.step (ho : ops[i]? = some o) (hg : gd ops s o = some true) (ha : astep P nt s o = some s') (h : G P nt ops K l s') : G P nt ops K (i :: l) s := by
  intro C a w S Ow L Q hn hR hQ
  subst hn
  simp only [wpOps, ho, gd_sound hR hg, if_true]
  left
  obtain ⟨n, w', Ow', L', hr, ⟨u, rfl, hR'⟩ | ⟨rfl, hR'⟩⟩ := astep_sound hR ha
  · unfold Oper.wp; rw [hr]; exact h C _ _ _ _ _ Q rfl hR' hQ
  · unfold Oper.wp; rw [hr]; exact h C _ _ _ _ _ Q rfl hR' hQ
theorem G.skip (ho : ops[i]? = some o) (hg : gd ops s o = some false) (hd : okd nt.n o.dst = true) (h : G P nt ops K l (put s o.dst (.tu []))) : G P nt ops K (i :: l) s := by
  intro C a w S Ow L Q hn hR hQ
  subst hn
  simp only [wpOps, ho, gd_sound hR hg, Bool.false_eq_true, if_false]
  exact h C _ _ _ _ _ Q rfl (hR.skip hd) hQ
theorem G.guard {b : Bool} (ho : ops[i]? = some o) (hg : gd ops s o = some b) (h1 : b = true → G P nt ops K (i :: l) s) (h2 : b = false → G P nt ops K (i :: l) s) : G P nt ops K (i :: l) s := by
  cases b
  · exact h2 rfl
  · exact h1 rfl

/-! #### calls of functions that write nothing that stood -/
/-- The function has a body of Go code. -/
def Ent (P : Program) (f : FuncId) : Prop := ∃ fn, P.funcs[f]? = some fn ∧ (fn.name == "runtime.NumGoroutine") = false ∧ fn.body.isNone = false
def Pure (P : Program) (f : FuncId) (args : List AV) (r : AV) : Prop :=
  Ent P f ∧ ∀ (W : World) (S : Nat → Prop) (us : List Value), (∀ k, S k → k < W.heap.size) → us.length = args.length → (∀ (i : Nat) (x : AV) (u : Value), args[i]? = some x → us[i]? = some u → Rep W S noOwner noName [] x u) →
    Calls P f us.toArray W fun e w' => ∃ v, e = .returned v ∧ Below W.heap.size W w' ∧ ∃ S' : Nat → Prop, (∀ k, S k → S' k) ∧ (∀ k, S' k → k < w'.heap.size ∧ (S k ∨ W.heap.size ≤ k)) ∧ Rep w' S' noOwner noName [] r v
theorem run_call {P : Program} {f : FuncId} {args : Array Value} {w : World} (h : Ent P f) : (callFunc f args).run P w = .ok (.enter f args) w := by
  obtain ⟨fn, h1, h2, h3⟩ := h
  have h2' : ¬ fn.name = "runtime.NumGoroutine" := by simpa using h2
  have h3' : ¬ fn.body = none := by
    intro e
    rw [e] at h3
    cases h3
  simp [callFunc, h1, h2', h3']
theorem exec_call {a : Act} {c : Operand} {as : Array Operand} {ts : Array TypeId} {w : World} {f : FuncId} {us : List Value} (ho : o.op = .call ⟨.value c, as, ts⟩) (he : a.eval c = .func (.func f) #[] us.toArray) (h : Ent P f) :
    (execOp a.eval o).run P w = .ok (.enter f (as.toList.map a.eval ++ us).toArray) w := by
  unfold execOp
  have e : (as.toList.map a.eval ++ us).toArray = as.map a.eval ++ us.toArray := by simp
  simp [ho, resolve, Deferred.ofValue, he, invoke, run_call h, e]
/-- A value that looks at no memory. -/
def dry : AV → Bool
  | .v _ => true
  | .ag xs | .tu xs => xs.all fun x => match x with | .v _ => true | _ => false
  | _ => false
theorem Rep.dry {w w' : World} {S S' : Nat → Prop} {Ow Ow' : Owners} {L L' : Names} {p p' : Path} {x : AV} {u : Value} (h : Rep w S Ow L p x u) (hd : En.dry x = true) : Rep w' S' Ow' L' p' x u := by
  cases h with
  | v _ h => exact .v _ h
  | ag xs us hl hr =>
    refine .ag xs us hl fun i x u hx hu => ?_
    simp only [En.dry, List.all_eq_true] at hd
    have := hd x (List.mem_of_getElem? hx)
    cases x with
    | v y => obtain ⟨rfl, h1⟩ := (hr i _ u hx hu).v_inv; exact .v _ h1
    | _ => simp at this
  | tu xs us hl hr =>
    refine .tu xs us hl fun i x u hx hu => ?_
    simp only [En.dry, List.all_eq_true] at hd
    have := hd x (List.mem_of_getElem? hx)
    cases x with
    | v y => obtain ⟨rfl, h1⟩ := (hr i _ u hx hu).v_inv; exact .v _ h1
    | _ => simp at this
  | _ => simp [En.dry] at hd
/-- Values seen by someone who only looks, one by one. -/
inductive FzL (bl : List (Nat × Blk)) : List AV → List AV → Prop
  | nil : FzL bl [] []
  | cons {x y : AV} {xs ys : List AV} (h : Fz bl x y) (hr : FzL bl xs ys) : FzL bl (x :: xs) (y :: ys)
theorem FzL.len {bl : List (Nat × Blk)} {xs ys : List AV} (h : FzL bl xs ys) : ys.length = xs.length := by induction h <;> simp_all
theorem FzL.get {bl : List (Nat × Blk)} {xs ys : List AV} (h : FzL bl xs ys) : ∀ (i : Nat) (x y : AV), xs[i]? = some x → ys[i]? = some y → Fz bl x y := by
  induction h with
  | nil => intro i x y hx; simp at hx
  | cons h _ ih =>
    intro i x y hx hy
    cases i with
    | zero => simp at hx hy; subst hx hy; exact h
    | succ i => exact ih i x y (by simpa using hx) (by simpa using hy)
theorem args_rep {C : Ctx} {a : Act} {w : World} {S : Nat → Prop} {Ow : Owners} {L : Names} (h : RelX C s a w S Ow L) {as : Array Operand} {f : FuncId} {xs cap ys : List AV} {us : List Value} (he : as.toList.mapM (ev s) = some xs) (hc : Rep w S Ow L [0] (.fn f cap) (.func (.func f) #[] us.toArray)) (hf : FzL s.bl (xs ++ cap) ys) :
    (as.toList.map a.eval ++ us).length = ys.length ∧ ∀ (i : Nat) (y : AV) (u : Value), ys[i]? = some y → (as.toList.map a.eval ++ us)[i]? = some u → Rep w (lent S Ow) noOwner noName [] y u := by
  obtain ⟨us', e, hl, hr⟩ := hc.fn_inv
  simp only [Value.func.injEq, true_and] at e
  have e : us = us' := by simpa using e
  subst e
  have hxl : xs.length = as.toList.length := mapM_some_length he
  refine ⟨by rw [hf.len]; simp only [List.length_append, List.length_map, hl, hxl], fun i y u hy hu => ?_⟩
  obtain ⟨x, hx⟩ := get_of_len hf.len hy
  have hz := hf.get i x y hx hy
  by_cases hi : i < xs.length
  · rw [List.getElem?_append_left hi] at hx
    rw [List.getElem?_append_left (by simp only [List.length_map]; omega)] at hu
    simp only [List.getElem?_map, Option.map_eq_some_iff] at hu
    obtain ⟨op, hop, rfl⟩ := hu
    have := mapM_some_get he i op hop
    rw [hx] at this
    exact (ev_rep h this).fz h hz
  · rw [List.getElem?_append_right (by omega)] at hx
    rw [List.getElem?_append_right (by simp only [List.length_map]; omega)] at hu
    have e2 : (as.toList.map a.eval).length = xs.length := by simp only [List.length_map]; omega
    rw [e2] at hu
    exact (hr _ x u hx hu).fz h hz
theorem lent_lt {C : Ctx} {a : Act} {w : World} {S : Nat → Prop} {Ow : Owners} {L : Names} (h : RelX C s a w S Ow L) (k : Nat) (hk : lent S Ow k) : k < w.heap.size := by
  rcases hk with hk | hk
  · exact h.ltS k hk
  · cases e : Ow k with
    | none => exact absurd e hk
    | some p => exact (h.ow k p e).2
/-- A call that yields values that look at no memory: what is one's own is lent to it. -/
theorem G.call {c : Operand} {as : Array Operand} {ts : Array TypeId} {f : FuncId} {xs cap ys : List AV} {r : AV} (ho : ops[i]? = some o) (hg : gd ops s o = some true) (hop : o.op = .call ⟨.value c, as, ts⟩) (hd : okd nt.n o.dst = true)
    (hc : ev s c = some (.fn f cap)) (he : as.toList.mapM (ev s) = some xs) (hf : FzL s.bl (xs ++ cap) ys) (hp : Pure P f ys r) (hr : dry r = true) (h : G P nt ops K l (put s o.dst r)) : G P nt ops K (i :: l) s := by
  intro C a w S Ow L Q hn hR hQ
  subst hn
  simp only [wpOps, ho, gd_sound hR hg, if_true]
  left
  have hcr := ev_rep hR hc
  obtain ⟨us, e, _⟩ := hcr.fn_inv
  rw [e] at hcr
  obtain ⟨hl, hrep⟩ := args_rep hR he hcr hf
  unfold Oper.wp
  rw [exec_call hop e hp.1]
  refine Calls.mono (hp.2 w (lent S Ow) _ (lent_lt hR) hl hrep) fun e' w' => ?_
  rintro ⟨v, rfl, hb, S', _, _, hv⟩
  exact h C _ _ _ _ _ Q rfl ((hR.grown hb).put o.dst hd (hv.dry hr)) hQ

/-! #### regions that draw their order -/
def Gq (P : Program) (nt : NT) (ops : Array Oper) (K : AS → Prop) (l : List Oper) (s : AS) : Prop :=
  ∀ (C : Ctx) (a : Act) (w : World) (S : Nat → Prop) (Ow : Owners) (L : Names), C.nt = nt → RelX C s a w S Ow L →
    wpQuiet P ops (fun w' => Below w.heap.size w w') (fun a' => ∃ s' S' Ow' L', K s' ∧ RelX C s' a' w S' Ow' L') l a
variable {lo : List Oper}
theorem Holds.draw {id : Nat} (hm : P.follows .mixedOrders = true) (hB : Region.lexB .any ops = true) (h : Gq P nt ops (fun s => Q .normal s) ops.toList s) : Holds P nt (.region id ops true) Q s := by
  intro C a w S Ow L hn hR
  refine wp_region_quiet (C := fun w' => Below w.heap.size w w') hm hB (Below.drew (Below.refl _ w)) ?_
  have mono : ∀ (l : List Oper) (a : Act) {K K' : Act → Prop}, (∀ a, K a → K' a) → wpQuiet P ops (fun w' => Below w.heap.size w w') K l a → wpQuiet P ops (fun w' => Below w.heap.size w w') K' l a := by
    intro l
    induction l with
    | nil => intro a K K' hk h; exact hk a h
    | cons o l ih =>
      intro a K K' hk h
      simp only [wpQuiet] at h ⊢
      split
      · rename_i hw
        rw [if_pos hw] at h
        obtain ⟨v, h1, h2⟩ := h
        exact ⟨v, h1, ih _ hk h2⟩
      · rename_i hw
        rw [if_neg hw] at h
        exact ih _ hk h
  refine mono _ _ ?_ (h C a w S Ow L hn hR)
  rintro a' ⟨s', S', Ow', L', q, r⟩ w' hb
  exact ⟨s', S', Ow', L', q, r.grown hb⟩
theorem Gq.nil (h : K s) : Gq P nt ops K [] s := fun C a w S Ow L _ hR => ⟨s, S, Ow, L, h, hR⟩
theorem Gq.step (hg : gd ops s o = some true) (ha : qstep P nt s o = some s') (h : Gq P nt ops K lo s') : Gq P nt ops K (o :: lo) s := by
  intro C a w S Ow L hn hR
  subst hn
  simp only [wpQuiet, gd_sound hR hg, if_true]
  obtain ⟨u, Ow', L', hr, hR'⟩ := qstep_sound hR ha
  refine ⟨u, fun w' hb => ?_, h C _ w S Ow' L' rfl hR'⟩
  unfold Oper.quietAt
  rw [hr w' hb]
  exact ⟨rfl, rfl⟩
theorem Gq.skip (hg : gd ops s o = some false) (hd : okd nt.n o.dst = true) (h : Gq P nt ops K lo (put s o.dst (.tu []))) : Gq P nt ops K (o :: lo) s := by
  intro C a w S Ow L hn hR
  subst hn
  simp only [wpQuiet, gd_sound hR hg, Bool.false_eq_true, if_false]
  exact h C _ w S Ow L rfl (hR.skip hd)
theorem Gq.guard {b : Bool} (hg : gd ops s o = some b) (h1 : b = true → Gq P nt ops K (o :: lo) s) (h2 : b = false → Gq P nt ops K (o :: lo) s) : Gq P nt ops K (o :: lo) s := by
  cases b
  · exact h2 rfl
  · exact h1 rfl
theorem Gq.call {c : Operand} {as : Array Operand} {ts : Array TypeId} {f : FuncId} {xs cap ys : List AV} {x : Value} (hg : gd ops s o = some true) (hop : o.op = .call ⟨.value c, as, ts⟩) (hd : okd nt.n o.dst = true)
    (hc : ev s c = some (.fn f cap)) (he : as.toList.mapM (ev s) = some xs) (hf : FzL s.bl (xs ++ cap) ys) (hp : Pure P f ys (.v x)) (h1 : x.oneCell' = true) (h : Gq P nt ops K lo (put s o.dst (.v x))) : Gq P nt ops K (o :: lo) s := by
  intro C a w S Ow L hn hR
  subst hn
  simp only [wpQuiet, gd_sound hR hg, if_true]
  have hcr := ev_rep hR hc
  obtain ⟨us, e, _⟩ := hcr.fn_inv
  rw [e] at hcr
  obtain ⟨hl, hrep⟩ := args_rep hR he hcr hf
  refine ⟨x, fun w' hb => ?_, h C _ w S Ow L rfl (hR.put o.dst hd (.v x h1))⟩
  unfold Oper.quietAt
  rw [exec_call hop e hp.1]
  refine ⟨rfl, Calls.mono (hp.2 w' (lent S Ow) _ (fun k hk => Nat.lt_of_lt_of_le (lent_lt hR k hk) hb.size) hl fun i y u hy hu => (hrep i y u hy hu).world hb.size (fun _ h => h) (fun k hk => hb.block k (lent_lt hR k hk)) (fun k q hk => by cases hk)) fun e' w2 => ?_⟩
  rintro ⟨v, rfl, hb2, S', _, _, hv⟩
  obtain ⟨rfl, _⟩ := hv.v_inv
  exact ⟨rfl, hb.trans ⟨hb2.os, hb2.tape, hb2.output, hb2.size, fun k hk => hb2.block k (Nat.lt_of_lt_of_le hk hb.size)⟩⟩

/-! #### a function's own contract -/
def sl : Nat → List AV → List (Nat × AV)
  | _, [] => []
  | k, x :: r => (k, x) :: sl (k + 1) r
theorem lk_sl (xs : List AV) : ∀ (k t : Nat) (x : AV), lk (sl k xs) t = some x → k ≤ t ∧ xs[t - k]? = some x := by
  induction xs with
  | nil => intro k t x h; simp [sl, lk] at h
  | cons y r ih =>
    intro k t x h
    simp only [sl, lk] at h
    split at h
    · rename_i e; cases h; subst e; simp
    · rename_i e
      obtain ⟨h1, h2⟩ := ih (k + 1) t x h
      refine ⟨by omega, ?_⟩
      rw [show t - k = (t - (k + 1)) + 1 by omega]
      simpa using h2
/-- What a function returns out of its slots. -/
def Ret (ts : List Nat) (r : AV) (e : Exit) (s : AS) : Prop :=
  (e = .normal ∨ e = .ret) ∧ match ts with
    | [t] => ∃ x, lk s.tm t = some x ∧ Fz s.bl x r
    | ts => ∃ xs, ts.mapM (lk s.tm) = some xs ∧ Fz s.bl (.tu xs) r
theorem Ret.one {t : Nat} {r x : AV} {e : Exit} {s : AS} (hx : lk s.tm t = some x) (hf : Fz s.bl x r) (he : e = .normal ∨ e = .ret) : Ret [t] r e s := ⟨he, x, hx, hf⟩
theorem Ret.many {t u : Nat} {ts : List Nat} {r : AV} {xs : List AV} {e : Exit} {s : AS} (hx : (t :: u :: ts).mapM (lk s.tm) = some xs) (hf : Fz s.bl (.tu xs) r) (he : e = .normal ∨ e = .ret) : Ret (t :: u :: ts) r e s := ⟨he, xs, hx, hf⟩
theorem Ret.none {r : AV} {e : Exit} {s : AS} (hf : Fz s.bl (.tu []) r) (he : e = .normal ∨ e = .ret) : Ret [] r e s := ⟨he, [], rfl, hf⟩
def rv (tmps : Array Value) : List Nat → Value
  | [t] => tmps.getD t undef
  | ts => .tuple (ts.map fun t => tmps.getD t undef).toArray
theorem mapM_tmp (f : ResultVar → Sem Value) (g : Nat → Value) (hf : ∀ t, f (.tmp t) = pure (g t)) : ∀ ts : List Nat, (ts.map ResultVar.tmp).mapM f = pure (ts.map g)
  | [] => rfl
  | t :: r => by rw [List.map_cons, List.mapM_cons, mapM_tmp f g hf r, hf]; rfl
theorem results_of (fn : Func) (ts : List Nat) (hr : fn.results = (ts.map ResultVar.tmp).toArray) (tmps : Array Value) (P : Program) (w : World) :
    (results fn tmps).run P w = .ok (rv tmps ts) w := by
  unfold results
  simp only [hr, List.mapM_toArray]
  rw [mapM_tmp _ (fun t => tmps.getD t undef) (fun t => rfl)]
  clear hr
  match ts with
  | [] => rfl
  | [t] => rfl
  | t :: u :: r => simp [rv]
theorem Pure.of {f : FuncId} {fn : Func} {c : Code} {args : List AV} {ts : List Nat} {r : AV} (hf : P.funcs[f]? = some fn) (hn : (fn.name == "runtime.NumGoroutine") = false) (hb : fn.body = some c) (hr : fn.results = (ts.map ResultVar.tmp).toArray) (hnt : args.length ≤ fn.ntmps)
    (h : Holds P ⟨fn.ntmps, 0⟩ c (Ret ts r) ⟨sl 0 args, [], 0⟩) : Pure P f args r := by
  refine ⟨⟨fn, hf, hn, by rw [hb]; rfl⟩, fun W S us hS hl hrep => calls_of_wp hf hb ?_⟩
  have hsz : us.toArray.size = args.length := by simpa using hl
  have hR : RelX ⟨W, fun _ => False, S, ⟨fn.ntmps, 0⟩, fun _ => none⟩ ⟨sl 0 args, [], 0⟩ { tmps := us.toArray ++ Array.replicate (fn.ntmps - us.toArray.size) undef, defers := [] } W S noOwner noName := by
    refine { fix := fun n loc hn => (by cases hn), keep := Keep.refl W _, inS := fun k hk => hk, upS := fun k hk => .inl hk, ltS := hS, owS := fun k _ => rfl, ow := fun k p hk => (by cases hk), ow0 := fun k q hk => (by cases hk), blk := fun n k hk => (by simp [lb] at hk), fresh := fun n _ => rfl, named := fun n hn => absurd hn (Nat.not_lt_zero n), freshO := fun k n q hk => (by cases hk), slot := fun t x hx => ?_, size := ?_, defers := rfl }
    · obtain ⟨_, hx⟩ := lk_sl args 0 t x hx
      rw [Nat.sub_zero] at hx
      have hlt : t < us.length := by have := (List.getElem?_eq_some_iff.1 hx).1; omega
      have hu : us[t]? = some us[t] := List.getElem?_eq_getElem hlt
      refine ⟨us[t], ?_, (hrep t x _ hx hu).any⟩
      rw [Array.getElem?_append_left (by simpa using hlt)]
      simp [hlt]
    · simp; omega
  refine wp_mono (h _ _ _ _ _ _ rfl hR) ?_
  rintro e a w ⟨s, S1, Ow, L, ⟨he, hq⟩, hR1⟩
  have key : ∀ v, (results fn a.tmps).run P w = .ok v w → (∃ x, Rep w S1 Ow L [0] x v ∧ Fz s.bl x r) → a.defers = [] ∧ ∃ v, (results fn a.tmps).run P w = .ok v w ∧ ∃ v', Ending.returned v = .returned v' ∧ Below W.heap.size W w ∧ ∃ S' : Nat → Prop, (∀ k, S k → S' k) ∧ (∀ k, S' k → k < w.heap.size ∧ (S k ∨ W.heap.size ≤ k)) ∧ Rep w S' noOwner noName [] r v' := by
    rintro v hv ⟨x, hx, hz⟩
    refine ⟨hR1.defers, v, hv, v, rfl, hR1.keep.below, lent S1 Ow, fun k hk => .inl (hR1.inS k hk), fun k hk => ⟨lent_lt hR1 k hk, ?_⟩, hx.fz hR1 hz⟩
    rcases hk with hk | hk
    · rcases hR1.upS k hk with g | g | g
      · exact .inl g
      · exact .inr g
      · exact g.elim
    · cases e : Ow k with
      | none => exact absurd e hk
      | some p => exact .inr ((hR1.ow k p e).1.resolve_right fun g => g)
  have slot : ∀ t x, lk s.tm t = some x → Rep w S1 Ow L [0] x (a.tmps.getD t undef) := fun t x hx => by
    obtain ⟨u, hu, hr⟩ := hR1.slot t x hx
    simpa [Array.getD_eq_getD_getElem?, hu] using hr
  have hres := results_of fn ts hr a.tmps P w
  have fin : a.defers = [] ∧ ∃ v, (results fn a.tmps).run P w = .ok v w ∧ ∃ v', Ending.returned v = .returned v' ∧ Below W.heap.size W w ∧ ∃ S' : Nat → Prop, (∀ k, S k → S' k) ∧ (∀ k, S' k → k < w.heap.size ∧ (S k ∨ W.heap.size ≤ k)) ∧ Rep w S' noOwner noName [] r v' := by
    have many : (∃ xs, ts.mapM (lk s.tm) = some xs ∧ Fz s.bl (.tu xs) r) → (results fn a.tmps).run P w = .ok (.tuple (ts.map fun t => a.tmps.getD t undef).toArray) w → _ := fun ⟨xs, hx, hz⟩ hres => key _ hres ⟨.tu xs, by
      have hlen : xs.length = ts.length := mapM_some_length hx
      refine .tu xs _ (by simp [hlen]) fun i x u hxi hu => ?_
      simp only [List.getElem?_map, Option.map_eq_some_iff] at hu
      obtain ⟨t, ht, rfl⟩ := hu
      have := mapM_some_get hx i t ht
      rw [hxi] at this
      exact (slot t x this).names (fun _ => .inr (.inl rfl)) (fun b q hq => absurd hq (hR1.ow0 b _)), hz⟩
    match ts, hq, hres, many with
    | [], hq, hres, many => exact many hq hres
    | [t], ⟨x, hx, hz⟩, hres, _ => exact key _ hres ⟨x, slot t x hx, hz⟩
    | t :: u :: r, hq, hres, many => exact many hq hres
  rcases he with rfl | rfl
  · exact fin
  · exact fin
end
attribute [irreducible] G Gq Holds thenA inB Pure Ret
end Go.Proofs.Ytaiefncpgkoniaa.En
