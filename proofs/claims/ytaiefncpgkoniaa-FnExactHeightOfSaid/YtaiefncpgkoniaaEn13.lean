/- Own words, 13: calls whose results look at memory; regions that draw their order. -/
import Derived.Test.YtaiefncpgkoniaaEy
namespace Go.Proofs.Ytaiefncpgkoniaa.En
open Go.RowKit
set_option linter.unusedSimpArgs false
set_option linter.unusedVariables false
section
attribute [local semireducible] G Gq Holds GS Pure
variable {P : Program} {nt : NT} {Q : Exit → AS → Prop} {s s' : AS} {ops : Array Oper} {K : AS → Prop} {i : Nat} {o : Oper} {l : List Oper} {C : Ctx} {a : Act} {w : World} {S : Nat → Prop} {Ow : Owners} {L : Names}

/-- More that nobody writes. -/
theorem RelX.more (h : RelX C s a w S Ow L) {w' : World} {S' : Nat → Prop} (hb : Below w.heap.size w w') (hS : ∀ k, S k → S' k) (hS' : ∀ k, S' k → k < w'.heap.size ∧ (S k ∨ w.heap.size ≤ k)) : RelX C s a w' S' Ow L := by
  have h' := h.grown hb
  refine { fix := h'.fix, keep := h'.keep, inS := fun k hk => hS k (h'.inS k hk), upS := fun k hk => ?_, ltS := fun k hk => (hS' k hk).1, owS := fun k hk => ?_, ow := h'.ow, ow0 := h'.ow0, blk := fun n k hn => ?_, fresh := h'.fresh, named := h'.named, freshO := h'.freshO, slot := fun t x hx => ?_, size := h'.size, defers := h'.defers }
  · rcases (hS' k hk).2 with g | g
    · exact h.upS k g
    · exact .inr (.inl (Nat.le_trans h.keep.size g))
  · rcases (hS' k hk).2 with g | g
    · exact h.owS k g
    · cases e : Ow k with
      | none => rfl
      | some p => have := (h.ow k p e).2; omega
  · obtain ⟨loc, hl, hB⟩ := h'.blk n k hn
    refine ⟨loc, hl, ?_⟩
    cases loc with
    | none => exact hB
    | some p =>
      obtain ⟨h1, cs, us, h2, h3, h4, h5, h6, h7⟩ := hB
      exact ⟨h1, cs, us, h2, h3, h4, h5, h6, fun j row i x hj hi => (h7 j row i x hj hi).world (Nat.le_refl _) hS (fun _ _ => rfl) (fun _ _ _ => rfl)⟩
  · obtain ⟨u, hu, hR⟩ := h'.slot t x hx
    exact ⟨u, hu, hR.world (Nat.le_refl _) hS (fun _ _ => rfl) (fun _ _ _ => rfl)⟩

/-- A value that bears no name and owns nothing. -/
def cl1 : AV → Bool
  | .v _ | .im _ _ | .pi _ => true
  | _ => false
def cl : AV → Bool
  | .ag xs | .tu xs | .fn _ xs => xs.all cl1
  | x => cl1 x
theorem Rep.cl1 {p p' : Path} {x : AV} {u : Value} (h : Rep w S Ow L p x u) (hk : En.cl1 x = true) : Rep w S noOwner noName p' x u := by
  cases h with
  | v _ h => exact .v _ h
  | im sz xs A c ad us hc ha hS hz hcell hr => exact .im sz xs A c ad us hc ha hS hz hcell hr
  | pi xs ad us hS hcell hr => exact .pi xs ad us hS hcell hr
  | _ => simp [En.cl1] at hk
theorem Rep.cl {p p' : Path} {x : AV} {u : Value} (h : Rep w S Ow L p x u) (hk : En.cl x = true) : Rep w S noOwner noName p' x u := by
  cases h with
  | ag xs us hl hr =>
    simp only [En.cl, List.all_eq_true] at hk
    exact .ag xs us hl fun i x u hx hu => (hr i x u hx hu).cl1 (hk x (List.mem_of_getElem? hx))
  | tu xs us hl hr =>
    simp only [En.cl, List.all_eq_true] at hk
    exact .tu xs us hl fun i x u hx hu => (hr i x u hx hu).cl1 (hk x (List.mem_of_getElem? hx))
  | fn g xs us hl hr =>
    simp only [En.cl, List.all_eq_true] at hk
    exact .fn g xs us hl fun i x u hx hu => (hr i x u hx hu).cl1 (hk x (List.mem_of_getElem? hx))
  | v _ h => exact .v _ h
  | im sz xs A c ad us hc ha hS hz hcell hr => exact .im sz xs A c ad us hc ha hS hz hcell hr
  | pi xs ad us hS hcell hr => exact .pi xs ad us hS hcell hr
  | _ => simp [En.cl, En.cl1] at hk
theorem args_cl (h : RelX C s a w S Ow L) {as : Array Operand} {f : FuncId} {xs cap : List AV} {us : List Value} (he : as.toList.mapM (ev s) = some xs) (hc : Rep w S Ow L [0] (.fn f cap) (.func (.func f) #[] us.toArray)) (hcl : (xs ++ cap).all cl = true) :
    (as.toList.map a.eval ++ us).length = (xs ++ cap).length ∧ ∀ (i : Nat) (y : AV) (u : Value), (xs ++ cap)[i]? = some y → (as.toList.map a.eval ++ us)[i]? = some u → Rep w S noOwner noName [] y u := by
  obtain ⟨us', e, hl, hr⟩ := hc.fn_inv
  simp only [Value.func.injEq, true_and] at e
  have e : us = us' := by simpa using e
  subst e
  have hxl : xs.length = as.toList.length := mapM_some_length he
  refine ⟨by simp only [List.length_append, List.length_map, hl, hxl], fun i y u hy hu => ?_⟩
  rw [List.all_eq_true] at hcl
  have hcy := hcl y (List.mem_of_getElem? hy)
  by_cases hi : i < xs.length
  · rw [List.getElem?_append_left hi] at hy
    rw [List.getElem?_append_left (by simp only [List.length_map]; omega)] at hu
    simp only [List.getElem?_map, Option.map_eq_some_iff] at hu
    obtain ⟨op, hop, rfl⟩ := hu
    have := mapM_some_get he i op hop
    rw [hy] at this
    exact (ev_rep h this).cl hcy
  · rw [List.getElem?_append_right (by omega)] at hy
    rw [List.getElem?_append_right (by simp only [List.length_map]; omega)] at hu
    have e2 : (as.toList.map a.eval).length = xs.length := by simp only [List.length_map]; omega
    rw [e2] at hu
    exact (hr _ y u hy hu).cl hcy

/-! #### an operation that leaves memory as it is, or calls -/
def qload (P : Program) (s : AS) (t : TypeId) (x : Operand) : Option AV :=
  match ev s x, ti P t with
  | some (.pb n sz j i), some k => match lb s.bl n with
    | some b => if b.sz = sz then match b.xs[j]? with
      | some row => if k.agg then (if ((row.drop i).take k.sz).all flat ∧ i + k.sz ≤ sz then some (.ag ((row.drop i).take k.sz)) else none) else match row[i]? with
        | some (.ow _ _ _) => none
        | some y => if flat y then some y else none
        | none => none
      | none => none
      else none
    | none => none
  | some (.pi xs), some k => if k.agg then (if k.sz ≤ xs.length then some (.ag (xs.take k.sz)) else none) else xs[0]?
  | _, _ => none
theorem qload_aload {t : TypeId} {x : Operand} {v : AV} (h : qload P s t x = some v) : aload P s t x = some (v, s) := by
  unfold qload at h
  unfold aload
  split at h
  · rename_i n sz j i k hx hi
    simp only [hx, hi]
    split at h
    · rename_i b hb
      simp only [hb]
      split at h
      · rename_i hsz
        rw [if_pos hsz]
        split at h
        · rename_i row hrow
          simp only [hrow]
          split at h
          · rename_i hag
            rw [if_pos hag]
            split at h
            · rename_i hc; rw [if_pos hc]; cases h; rfl
            · cases h
          · rename_i hag
            rw [if_neg hag]
            unfold loadOne
            split at h
            · cases h
            · rename_i y hne hy
              split at h
              · rename_i hf
                cases h
                rw [hy]
                split
                · rename_i hy2; cases hy2; simp [flat] at hf
                · rename_i y2 _ hy2; cases hy2; rw [if_pos hf]
                · rename_i hy2; cases hy2
              · cases h
            · cases h
        · cases h
      · cases h
    · cases h
  · rename_i xs k hx hi
    simp only [hx, hi]
    split at h
    · rename_i hag
      rw [if_pos hag]
      split at h
      · rename_i hc; rw [if_pos hc]; cases h; rfl
      · cases h
    · rename_i hag
      rw [if_neg hag, h]; rfl
  · cases h
def qval (P : Program) (s : AS) : Op → Option AV
  | .load t p => qload P s t p
  | op => aval P s op
theorem qval_sound (h : RelX C s a w S Ow L) {r : AV} (hx : qval P s o.op = some r) : ∃ u Ow' L', (execOp a.eval o).run P w = .ok (.value u) w ∧ RelX C s a w S Ow' L' ∧ Rep w S Ow' L' [0] r u := by
  unfold qval at hx
  split at hx
  · rename_i t p hop
    obtain ⟨u, Ow', L', hr, hR, hu⟩ := aload_sound h hop (qload_aload hx)
    exact ⟨u, Ow', L', hr w fun _ _ => rfl, hR, hu⟩
  · obtain ⟨u, hr, hu⟩ := aval_sound (w := w) h hx
    exact ⟨u, Ow, L, hr w, h, hu⟩

/-- What an operation that leaves memory alone but for calls yields. -/
inductive Calm (P : Program) (s : AS) (op : Op) (r : AV) : Prop
  | look (h : qval P s op = some r)
  | call {c : Operand} {as : Array Operand} {ts : Array TypeId} {f : FuncId} {xs cap ys : List AV} (hop : op = .call ⟨.value c, as, ts⟩) (hc : ev s c = some (.fn f cap)) (he : as.toList.mapM (ev s) = some xs) (hf : FzL s.bl (xs ++ cap) ys) (hp : Pure P f ys r) (hd : dry r = true)
  | callC {c : Operand} {as : Array Operand} {ts : Array TypeId} {f : FuncId} {xs cap : List AV} (hop : op = .call ⟨.value c, as, ts⟩) (hc : ev s c = some (.fn f cap)) (he : as.toList.mapM (ev s) = some xs) (hcl : (xs ++ cap).all cl = true) (hp : Pure P f (xs ++ cap) r)
  | eqS {t : TypeId} {x y : Operand} {t' : TypeId} {n : Nat} {xs ys : List Int} (hop : op = .binOp .eql t x y t') (ht : EqT P t n) (hx : ev s x = some (.ag (xs.map fun n => .v (.int .i64 n)))) (hy : ev s y = some (.ag (ys.map fun n => .v (.int .i64 n)))) (hlx : xs.length = n) (hly : ys.length = n) (hr : r = .v (.bool (decide (xs = ys))))
  | neS {t : TypeId} {x y : Operand} {t' : TypeId} {n : Nat} {xs ys : List Int} (hop : op = .binOp .neq t x y t') (ht : EqT P t n) (hx : ev s x = some (.ag (xs.map fun n => .v (.int .i64 n)))) (hy : ev s y = some (.ag (ys.map fun n => .v (.int .i64 n)))) (hlx : xs.length = n) (hly : ys.length = n) (hr : r = .v (.bool (!decide (xs = ys))))
theorem Rep.nums {p : Path} {xs : List Int} {u : Value} (h : Rep w S Ow L p (.ag (xs.map fun n => .v (.int .i64 n))) u) : u = .agg (En.nums xs) := by
  obtain ⟨us, rfl, hl, hr⟩ := h.ag_inv
  simp only [List.length_map] at hl
  have : us = xs.map (Value.int .i64) := by
    apply List.ext_getElem?
    intro i
    by_cases hi : i < xs.length
    · have hu : us[i]? = some us[i] := List.getElem?_eq_getElem (by omega)
      obtain ⟨e, _⟩ := (hr i (.v (.int .i64 xs[i])) us[i] (by simp [hi]) hu).v_inv
      rw [hu, e]; simp [hi]
    · rw [List.getElem?_eq_none (by omega), List.getElem?_eq_none (by simp; omega)]
  rw [this]; rfl
structure Step1 (P : Program) (nt : NT) (ops : Array Oper) (s : AS) (o : Oper) (r : AV) : Prop where
  d : okd nt.n o.dst = true
  g : (gd ops s o = some false ∧ r = .tu []) ∨ (gd ops s o = some true ∧ Calm P s o.op r)
theorem step1_wp {Q : Exit → Act → World → Prop} {K : Act → World → Prop} {r : AV} (h : RelX C s a w S Ow L) (hn : C.nt = nt) (ho : ops[i]? = some o) (hs : Step1 P nt ops s o r) (hK : ∀ u w' S' Ow' L', RelX C (put s o.dst r) (a.put o.dst u) w' S' Ow' L' → K (a.put o.dst u) w') : wpOp P ops Q i K a w := by
  subst hn
  unfold wpOp
  simp only [ho]
  rcases hs.g with ⟨hg, rfl⟩ | ⟨hg, hc⟩
  · rw [gd_sound h hg]
    exact hK _ _ _ _ _ (h.skip hs.d)
  · rw [gd_sound h hg]
    simp only [if_true]
    left
    unfold Oper.wp
    cases hc with
    | look hq =>
      obtain ⟨u, Ow', L', hr, hR, hu⟩ := qval_sound h hq
      rw [hr]
      exact hK _ _ _ _ _ (hR.put o.dst hs.d hu)
    | call hop hc he hf hp hd =>
      have hcr := ev_rep h hc
      obtain ⟨us, e, _⟩ := hcr.fn_inv
      rw [e] at hcr
      obtain ⟨hl, hrep⟩ := args_rep h he hcr hf
      rw [exec_call hop e hp.1]
      refine Calls.mono (hp.2 w (lent S Ow) _ (lent_lt h) hl hrep) fun e' w' => ?_
      rintro ⟨v, rfl, hb, S', _, _, hv⟩
      exact hK _ _ _ _ _ ((h.grown hb).put o.dst hs.d (hv.dry hd))
    | callC hop hc he hcl hp =>
      have hcr := ev_rep h hc
      obtain ⟨us, e, _⟩ := hcr.fn_inv
      rw [e] at hcr
      obtain ⟨hl, hrep⟩ := args_cl h he hcr hcl
      rw [exec_call hop e hp.1]
      refine Calls.mono (hp.2 w S _ h.ltS hl hrep) fun e' w' => ?_
      rintro ⟨v, rfl, hb, S', h1, h2, hv⟩
      exact hK _ _ _ _ _ ((h.more hb h1 h2).put o.dst hs.d hv.any)
    | @eqS t x y t' n xs ys hop ht hx hy hlx hly hr =>
      subst hr
      have ex := (ev_rep h hx).nums
      have ey := (ev_rep h hy).nums
      have hrun : (execOp a.eval o).run P w = .ok (.value (.bool (decide (xs = ys)))) w := by
        unfold execOp
        simp only [hop, ex, ey, Sem.run_bind, run_eqGuard_agg w _ _ _ _ _ _ ht.g, Result.andThen_ok, run_eql_struct, ht.e _ _ w hlx hly, Sem.run_pure]
      rw [hrun]
      exact hK _ _ _ _ _ (h.put o.dst hs.d (.v _ rfl))
    | @neS t x y t' n xs ys hop ht hx hy hlx hly hr =>
      subst hr
      have ex := (ev_rep h hx).nums
      have ey := (ev_rep h hy).nums
      have hrun : (execOp a.eval o).run P w = .ok (.value (.bool (!decide (xs = ys)))) w := by
        unfold execOp
        simp only [hop, ex, ey, Sem.run_bind, run_eqGuard_agg w _ _ _ _ _ _ ht.g, Result.andThen_ok, run_neq_struct, ht.e _ _ w hlx hly, Sem.run_pure]
      rw [hrun]
      exact hK _ _ _ _ _ (h.put o.dst hs.d (.v _ rfl))
theorem GS.calm {r : AV} (hs : Step1 P nt ops s o r) (h : GS P nt ops K l (i + 1) (put s o.dst r)) : GS P nt ops K (o :: l) i s :=
  GS.cons (fun ho r' hr' => fun C a w S Ow L Q hn hR hQ => by
    rw [wpOps_cons]
    exact step1_wp hR hn ho hs fun u w' S' Ow' L' hR' => hr' C _ _ _ _ _ Q hn hR' hQ) h
theorem GS.callC {c : Operand} {as : Array Operand} {ts : Array TypeId} {f : FuncId} {xs cap : List AV} {r : AV} (hop : o.op = .call ⟨.value c, as, ts⟩) (hg : gd ops s o = some true) (hd : okd nt.n o.dst = true)
    (hc : ev s c = some (.fn f cap)) (he : as.toList.mapM (ev s) = some xs) (hcl : (xs ++ cap).all cl = true) (hp : Pure P f (xs ++ cap) r) (h : GS P nt ops K l (i + 1) (put s o.dst r)) : GS P nt ops K (o :: l) i s :=
  GS.calm ⟨hd, .inr ⟨hg, .callC hop hc he hcl hp⟩⟩ h

/-! #### states that say the same -/
def Eqv (s s' : AS) : Prop := (∀ t, lk s.tm t = lk s'.tm t) ∧ s.bl = s'.bl ∧ s.nx = s'.nx
theorem Eqv.refl (s : AS) : Eqv s s := ⟨fun _ => rfl, rfl, rfl⟩
theorem Eqv.symm (h : Eqv s s') : Eqv s' s := ⟨fun t => (h.1 t).symm, h.2.1.symm, h.2.2.symm⟩
theorem Eqv.trans {a b c : AS} (h : Eqv a b) (k : Eqv b c) : Eqv a c := ⟨fun t => (h.1 t).trans (k.1 t), h.2.1.trans k.2.1, h.2.2.trans k.2.2⟩
theorem RelX.eqv (h : RelX C s a w S Ow L) (e : Eqv s s') : RelX C s' a w S Ow L :=
  { fix := h.fix, keep := h.keep, inS := h.inS, upS := h.upS, ltS := h.ltS, owS := h.owS, ow := h.ow, ow0 := h.ow0, blk := e.2.1 ▸ h.blk, fresh := e.2.2 ▸ h.fresh, named := e.2.2 ▸ h.named, freshO := e.2.2 ▸ h.freshO, slot := fun t x hx => h.slot t x (by rw [e.1 t]; exact hx), size := h.size, defers := h.defers }
theorem Eqv.put (h : Eqv s s') (d : Option Nat) (x : AV) : Eqv (put s d x) (put s' d x) := by
  cases d with
  | none => exact h
  | some t =>
    refine ⟨fun t' => ?_, h.2.1, h.2.2⟩
    simp only [En.put, lk]
    split
    · rfl
    · exact h.1 t'
theorem put_comm (s : AS) {d e : Option Nat} (x y : AV) (h : ∀ t, d = some t → e ≠ some t) : Eqv (put (put s d x) e y) (put (put s e y) d x) := by
  cases d with
  | none => exact Eqv.refl _
  | some t =>
    cases e with
    | none => exact Eqv.refl _
    | some t' =>
      have hne : t ≠ t' := fun g => h t rfl (g ▸ rfl)
      refine ⟨fun q => ?_, rfl, rfl⟩
      simp only [put, lk]
      by_cases h1 : t = q
      · subst h1; simp [Ne.symm hne]
      · simp [h1]
theorem ev_congr {s' : AS} (h : ∀ t, lk s.tm t = lk s'.tm t) (y : Operand) : ev s' y = ev s y := by cases y <;> simp [ev, h]
theorem mapM_congr {f g : Operand → Option AV} : ∀ {l : List Operand}, (∀ y ∈ l, f y = g y) → l.mapM f = l.mapM g
  | [], _ => rfl
  | x :: l, h => by rw [List.mapM_cons, List.mapM_cons, h x (.head _), mapM_congr fun y hy => h y (.tail _ hy)]
theorem aval_congr {op : Op} (h : ∀ y ∈ op.operands, ev s' y = ev s y) (hb : s'.bl = s.bl) : aval P s' op = aval P s op := by
  cases op with
  | call c =>
    obtain ⟨callee, args, ts⟩ := c
    simp only [aval]
    cases callee with
    | builtin b =>
      have hx : ∀ x, args.toList = [x] → ev s' x = ev s x := fun x e => h x (by
        simp only [Op.operands, Call.operands]
        have : x ∈ args := by rw [← Array.mem_toList_iff, e]; exact .head _
        simpa using this)
      generalize args.toList = al at hx
      generalize ts.toList = tl
      cases b <;> try rfl
      match al, tl, hx with
      | [x], [t], hx => simp only [hx x rfl, hb]
      | [], _, _ => rfl
      | [_], [], _ => rfl
      | [_], _ :: _ :: _, _ => rfl
      | _ :: _ :: _, _, _ => rfl
    | _ => rfl
  | makeFunc f first captured =>
    cases f with
    | func g =>
      simp only [aval]
      rw [mapM_congr (l := captured.toList) (f := fun x => ev s' x) (g := fun x => ev s x) fun y hy => h y (by simp only [Op.operands]; simp at hy; simp [hy])]
    | _ => rfl
  | _ => first
    | (simp only [aval]; done)
    | rfl
    | (simp only [Op.operands] at h; simp only [aval, hb]; simp_all; done)
end
end Go.Proofs.Ytaiefncpgkoniaa.En
