/- Own words and walks of this claim, part 2: what the program's functions compute, for all the arguments that are named; no further conditions. -/
import Derived.Test.YtejpklajfcngbaaM1
import Derived.ChangeArms
import Derived.DataReads
import Derived.DataElems
import Derived.OpenShut
import Derived.SizedLaws
import Derived.WideMake
section
namespace Go.Proofs.Ytejpklajfcngbaa.En
open Go.RowKit
set_option linter.unusedSimpArgs false
set_option linter.unusedVariables false
def nums (xs : List Int) : Array Value := (xs.map (Value.int .i64)).toArray
structure EqT (P : Program) (t : TypeId) (n : Nat) : Prop where
  made ::
  g : P.eqGuardType P.depth t = false
  e : ∀ (xs ys : List Int) (w : World), xs.length = n → ys.length = n → (Op.equalIn 10000 t (.agg (nums xs)) (.agg (nums ys))).run P w = .ok (decide (xs = ys)) w
theorem part_num {P : Program} {w : World} {t : TypeId} {xs : List Int} {k : Nat} {n : Int} (hu : P.underlying t = some (.int .i64)) (hx : xs[k]? = some n) : (part t (nums xs) k).run P w = .ok (.int .i64 n) w := by
  have hlt : k < xs.length := (List.getElem?_eq_some_iff.1 hx).1
  have e : (nums xs)[k]? = some (.int .i64 n) := by simp [nums, hx]
  unfold part isAgg
  simp [run_underlying hu, e]
theorem eqFields_nums {P : Program} {d : Nat} {xs ys : List Int} : ∀ (fs : List Field) (k : Nat) (w : World), (∀ f ∈ fs, (f.name != "_") = true ∧ P.underlying f.type = some (.int .i64)) → (∀ (i : Nat) (f : Field), fs[i]? = some f → f.offset = k + i) → xs.length = k + fs.length → ys.length = k + fs.length →
    (Op.eqFields (d + 1) (nums xs) (nums ys) fs).run P w = .ok (decide (xs.drop k = ys.drop k)) w
  | [], k, w, _, _, hx, hy => by
    have e1 : xs.drop k = [] := List.drop_eq_nil_of_le (by simp at hx; omega)
    have e2 : ys.drop k = [] := List.drop_eq_nil_of_le (by simp at hy; omega)
    simp [Op.eqFields, e1, e2]
  | f :: fs, k, w, hf, ho, hx, hy => by
    obtain ⟨h1, h2⟩ := hf f (.head _)
    have h1 : f.name ≠ "_" := by simpa using h1
    have h0 : f.offset = k := by simpa using ho 0 f rfl
    simp only [List.length_cons] at hx hy
    have hkx : k < xs.length := by omega
    have hky : k < ys.length := by omega
    have px := part_num (P := P) (w := w) h2 (List.getElem?_eq_getElem hkx)
    have py := part_num (P := P) (w := w) h2 (List.getElem?_eq_getElem hky)
    have ih := eqFields_nums (P := P) (d := d) (xs := xs) (ys := ys) fs (k + 1) w (fun g hg => hf g (.tail _ hg)) (fun i g hg => by have := ho (i + 1) g (by simpa using hg); omega) (by omega) (by omega)
    have ex := List.drop_eq_getElem_cons hkx
    have ey := List.drop_eq_getElem_cons hky
    by_cases he : xs[k] = ys[k]
    · simp [Op.eqFields, h1, h0, px, py, run_equalIn_int w d f.type .i64 .i64 _ _ h2, he, ih]
      rw [ex, ey, he]
      exact ⟨fun h => by rw [h], fun h => (List.cons.inj h).2⟩
    · simp [Op.eqFields, h1, h0, px, py, run_equalIn_int w d f.type .i64 .i64 _ _ h2, he]
      rw [ex, ey]
      exact fun h => he (List.cons.inj h).1
theorem EqT.mk' {P : Program} {t : TypeId} {n : Nat} {fs : List Field} (hg : P.eqGuardType P.depth t = false) (hu : P.underlying t = some (.struct (P.fieldsOf t))) (hp : P.stoodInHeld t = false) (hfs : (P.fieldsOf t).toList = fs) (hn : fs.length = n)
    (hf : ∀ f ∈ fs, (f.name != "_") = true ∧ P.underlying f.type = some (.int .i64)) (ho : ∀ (i : Nat) (f : Field), fs[i]? = some f → f.offset = i) : EqT P t n := by
  refine .made hg fun xs ys w hx hy => ?_
  rw [show (10000 : Nat) = 9999 + 1 from rfl, run_equalIn_agg w 9999 t _ _ hu hp, hfs, show (9999 : Nat) = 9998 + 1 from rfl, eqFields_nums fs 0 w hf (fun i f h => by rw [ho i f h]; omega) (by omega) (by omega)]
  simp
def isI64 (P : Program) (t : TypeId) : Bool := match P.underlying t with | some (.int .i64) => true | _ => false
theorem EqT.mk {P : Program} {t : TypeId} {n : Nat} (hg : P.eqGuardType P.depth t = false) (hu : P.underlying t = some (.struct (P.fieldsOf t))) (hp : P.stoodInHeld t = false)
    (hf : ((P.fieldsOf t).toList.all fun f => f.name != "_" && isI64 P f.type) = true) (ho : (P.fieldsOf t).toList.map (·.offset) = List.range n) : EqT P t n := by
  have hn : (P.fieldsOf t).toList.length = n := by have := congrArg List.length ho; simpa using this
  refine EqT.mk' hg hu hp rfl hn (fun f h => ?_) (fun i f h => ?_)
  · rw [List.all_eq_true] at hf
    have := hf f h
    simp only [Bool.and_eq_true] at this
    refine ⟨this.1, ?_⟩
    have h2 := this.2
    unfold isI64 at h2
    split at h2
    · assumption
    · cases h2
  · have h2 : ((P.fieldsOf t).toList.map (·.offset))[i]? = some f.offset := by rw [List.getElem?_map, h]; rfl
    rw [ho] at h2
    have := List.getElem?_eq_some_iff.1 h2
    obtain ⟨_, e⟩ := this
    simpa using e.symm
def boolA (xs : List Bool) : Array Value := (xs.map Value.bool).toArray
structure EqBs (P : Program) (t : TypeId) (n : Nat) : Prop where
  made ::
  g : P.eqGuardType P.depth t = false
  e : ∀ (xs ys : List Bool) (w : World), xs.length = n → ys.length = n → (Op.equalIn 10000 t (.agg (boolA xs)) (.agg (boolA ys))).run P w = .ok (decide (xs = ys)) w
end Go.Proofs.Ytejpklajfcngbaa.En
end
section
namespace Go.Proofs.Ytejpklajfcngbaa.En
open Go.RowKit
set_option linter.unusedSimpArgs false
set_option linter.unusedVariables false
section
attribute [local semireducible] G Gq Holds GS Pure
variable {P : Program} {nt : NT} {Q : Exit → AS → Prop} {s s' : AS} {ops : Array Oper} {K : AS → Prop} {i : Nat} {o : Oper} {l : List Oper} {C : Ctx} {a : Act} {w : World} {S : Nat → Prop} {Ow : Owners} {L : Names}

theorem RelX.more (h : RelX C s a w S Ow L) {w' : World} {S' : Nat → Prop} (hb : BelowD w.heap.size w w') (hS : ∀ k, S k → S' k) (hS' : ∀ k, S' k → k < w'.heap.size ∧ (S k ∨ w.heap.size ≤ k)) : RelX C s a w' S' Ow L := by
  have h' := h.grown hb
  refine { fix := h'.fix, keep := h'.keep, inS := fun k hk => hS k (h'.inS k hk), upS := fun k hk => ?_, ltS := fun k hk => (hS' k hk).1, owS := fun k hk => ?_, ow := h'.ow, ow0 := h'.ow0, blk := fun n k hn => ?_, fresh := h'.fresh, named := h'.named, freshO := h'.freshO, slot := fun t x hx => ?_, size := h'.size, defers := h'.defers }
  · rcases (hS' k hk).2 with g | g
    · exact h.upS k g
    · exact .inr (.inl (Nat.le_trans h.keep.size g))
  · rcases (hS' k hk).2 with g | g
    · exact h.owS k g
    · cases e : Ow k with
      | none => rfl
      | some p => have := (h.ow k p e).2; omega
  · obtain ⟨loc, hl, hB⟩ := h'.blk n k hn
    refine ⟨loc, hl, ?_⟩
    cases loc with
    | none => exact hB
    | some p =>
      obtain ⟨h1, cs, us, h2, h3, h4, h5, h6, h7⟩ := hB
      exact ⟨h1, cs, us, h2, h3, h4, h5, h6, fun j row i x hj hi => (h7 j row i x hj hi).world (Nat.le_refl _) hS (fun _ _ => rfl) (fun _ _ _ => rfl)⟩
  · obtain ⟨u, hu, hR⟩ := h'.slot t x hx
    exact ⟨u, hu, hR.world (Nat.le_refl _) hS (fun _ _ => rfl) (fun _ _ _ => rfl)⟩

def cl1 : AV → Bool
  | .v _ | .im _ _ | .pi _ => true
  | _ => false
def cl : AV → Bool
  | .ag xs | .tu xs | .fn _ xs => xs.all cl1
  | x => cl1 x
theorem Rep.cl1 {p p' : Path} {x : AV} {u : Value} (h : Rep w S Ow L p x u) (hk : En.cl1 x = true) : Rep w S noOwner noName p' x u := by
  cases h with
  | v _ h => exact .v _ h
  | im sz xs A c ad us hc ha hS hz hcell hr => exact .im sz xs A c ad us hc ha hS hz hcell hr
  | pi xs ad us hS hcell hr => exact .pi xs ad us hS hcell hr
  | _ => simp [En.cl1] at hk
theorem Rep.cl {p p' : Path} {x : AV} {u : Value} (h : Rep w S Ow L p x u) (hk : En.cl x = true) : Rep w S noOwner noName p' x u := by
  cases h with
  | ag xs us hl hr =>
    simp only [En.cl, List.all_eq_true] at hk
    exact .ag xs us hl fun i x u hx hu => (hr i x u hx hu).cl1 (hk x (List.mem_of_getElem? hx))
  | tu xs us hl hr =>
    simp only [En.cl, List.all_eq_true] at hk
    exact .tu xs us hl fun i x u hx hu => (hr i x u hx hu).cl1 (hk x (List.mem_of_getElem? hx))
  | fn g xs us hl hr =>
    simp only [En.cl, List.all_eq_true] at hk
    exact .fn g xs us hl fun i x u hx hu => (hr i x u hx hu).cl1 (hk x (List.mem_of_getElem? hx))
  | v _ h => exact .v _ h
  | im sz xs A c ad us hc ha hS hz hcell hr => exact .im sz xs A c ad us hc ha hS hz hcell hr
  | pi xs ad us hS hcell hr => exact .pi xs ad us hS hcell hr
  | _ => simp [En.cl, En.cl1] at hk
theorem args_cl (h : RelX C s a w S Ow L) {aas : Array Operand} {f : FuncId} {xs cap : List AV} {us : List Value} (he : aas.toList.mapM (ev s) = some xs) (hc : Rep w S Ow L [0] (.fn f cap) (.func (.func f) #[] us.toArray)) (hcl : (xs ++ cap).all cl = true) :
    (aas.toList.map a.eval ++ us).length = (xs ++ cap).length ∧ ∀ (i : Nat) (y : AV) (u : Value), (xs ++ cap)[i]? = some y → (aas.toList.map a.eval ++ us)[i]? = some u → Rep w S noOwner noName [] y u := by
  obtain ⟨us', e, hl, hr⟩ := hc.fn_inv
  simp only [Value.func.injEq, true_and] at e
  have e : us = us' := by simpa using e
  subst e
  have hxl : xs.length = aas.toList.length := mapM_some_length he
  refine ⟨by simp only [List.length_append, List.length_map, hl, hxl], fun i y u hy hu => ?_⟩
  rw [List.all_eq_true] at hcl
  have hcy := hcl y (List.mem_of_getElem? hy)
  by_cases hi : i < xs.length
  · rw [List.getElem?_append_left hi] at hy
    rw [List.getElem?_append_left (by simp only [List.length_map]; omega)] at hu
    simp only [List.getElem?_map, Option.map_eq_some_iff] at hu
    obtain ⟨op, hop, rfl⟩ := hu
    have := mapM_some_get he i op hop
    rw [hy] at this
    exact (ev_rep h this).cl hcy
  · rw [List.getElem?_append_right (by omega)] at hy
    rw [List.getElem?_append_right (by simp only [List.length_map]; omega)] at hu
    have e2 : (aas.toList.map a.eval).length = xs.length := by simp only [List.length_map]; omega
    rw [e2] at hu
    exact (hr _ y u hy hu).cl hcy

/-! #### an operation that leaves memory as it is, or calls -/
def qload (P : Program) (s : AS) (t : TypeId) (x : Operand) : Option AV :=
  match ev s x, ti P t with
  | some (.pb n sz j i), some k => match lb s.bl n with
    | some b => if b.sz = sz then match b.xs[j]? with
      | some row => if k.agg then (if ((row.drop i).take k.sz).all flat ∧ i + k.sz ≤ sz then some (.ag ((row.drop i).take k.sz)) else none) else match row[i]? with
        | some (.ow _ _ _) => none
        | some y => if flat y then some y else none
        | none => none
      | none => none
      else none
    | none => none
  | some (.pi xs), some k => if k.agg then (if k.sz ≤ xs.length then some (.ag (xs.take k.sz)) else none) else xs[0]?
  | _, _ => none
theorem qload_aload {t : TypeId} {x : Operand} {v : AV} (h : qload P s t x = some v) : aload P s t x = some (v, s) := by
  unfold qload at h
  unfold aload
  split at h
  · rename_i n sz j i k hx hi
    simp only [hx, hi]
    split at h
    · rename_i b hb
      simp only [hb]
      split at h
      · rename_i hsz
        rw [if_pos hsz]
        split at h
        · rename_i row hrow
          simp only [hrow]
          split at h
          · rename_i hag
            rw [if_pos hag]
            split at h
            · rename_i hc; rw [if_pos hc]; cases h; rfl
            · cases h
          · rename_i hag
            rw [if_neg hag]
            unfold loadOne
            split at h
            · cases h
            · rename_i y hne hy
              split at h
              · rename_i hf
                cases h
                rw [hy]
                split
                · rename_i hy2; cases hy2; simp [flat] at hf
                · rename_i y2 _ hy2; cases hy2; rw [if_pos hf]
                · rename_i hy2; cases hy2
              · cases h
            · cases h
        · cases h
      · cases h
    · cases h
  · rename_i xs k hx hi
    simp only [hx, hi]
    split at h
    · rename_i hag
      rw [if_pos hag]
      split at h
      · rename_i hc; rw [if_pos hc]; cases h; rfl
      · cases h
    · rename_i hag
      rw [if_neg hag, h]; rfl
  · cases h
def qval (P : Program) (s : AS) : Op → Option AV
  | .load t p => qload P s t p
  | .slice t x lo hi none => aslice P s t x lo hi
  | op => aval P s op
theorem qval_sound (h : RelX C s a w S Ow L) {r : AV} (hx : qval P s o.op = some r) : ∃ u Ow' L', (execOp a.eval o).run P w = .ok (.value u) w ∧ RelX C s a w S Ow' L' ∧ Rep w S Ow' L' [0] r u := by
  unfold qval at hx
  split at hx
  · rename_i t p hop
    obtain ⟨u, Ow', L', hr, hR, hu⟩ := aload_sound h hop (qload_aload hx)
    exact ⟨u, Ow', L', hr w fun _ _ => rfl, hR, hu⟩
  · rename_i t x lo hi hop
    obtain ⟨u, hr, hu⟩ := aslice_sound h hop hx
    exact ⟨u, Ow, L, hr, h, hu⟩
  · obtain ⟨u, hr, hu⟩ := aval_sound (w := w) h hx
    exact ⟨u, Ow, L, hr w, h, hu⟩

inductive Calm (P : Program) (s : AS) (op : Op) (r : AV) : Prop
  | look (h : qval P s op = some r)
  | call {c : Operand} {aas : Array Operand} {ts : Array TypeId} {f : FuncId} {xs cap ys : List AV} (hop : op = .call ⟨.value c, aas, ts⟩) (hc : ev s c = some (.fn f cap)) (he : aas.toList.mapM (ev s) = some xs) (hf : FzL s.bl (xs ++ cap) ys) (hp : Pure P f ys r) (hd : dry r = true)
  | callC {c : Operand} {aas : Array Operand} {ts : Array TypeId} {f : FuncId} {xs cap : List AV} (hop : op = .call ⟨.value c, aas, ts⟩) (hc : ev s c = some (.fn f cap)) (he : aas.toList.mapM (ev s) = some xs) (hcl : (xs ++ cap).all cl = true) (hp : Pure P f (xs ++ cap) r)
  | eqS {t : TypeId} {x y : Operand} {t' : TypeId} {n : Nat} {xs ys : List Int} (hop : op = .binOp .eql t x y t') (ht : EqT P t n) (hx : ev s x = some (.ag (xs.map fun n => .v (.int .i64 n)))) (hy : ev s y = some (.ag (ys.map fun n => .v (.int .i64 n)))) (hlx : xs.length = n) (hly : ys.length = n) (hr : r = .v (.bool (decide (xs = ys))))
  | neS {t : TypeId} {x y : Operand} {t' : TypeId} {n : Nat} {xs ys : List Int} (hop : op = .binOp .neq t x y t') (ht : EqT P t n) (hx : ev s x = some (.ag (xs.map fun n => .v (.int .i64 n)))) (hy : ev s y = some (.ag (ys.map fun n => .v (.int .i64 n)))) (hlx : xs.length = n) (hly : ys.length = n) (hr : r = .v (.bool (!decide (xs = ys))))
  | neB {t : TypeId} {x y : Operand} {t' : TypeId} {n : Nat} {xs ys : List Bool} (hop : op = .binOp .neq t x y t') (ht : EqBs P t n) (hx : ev s x = some (.ag (xs.map fun b => .v (.bool b)))) (hy : ev s y = some (.ag (ys.map fun b => .v (.bool b)))) (hlx : xs.length = n) (hly : ys.length = n) (hr : r = .v (.bool (!decide (xs = ys))))
  | val {v : Value} (h1 : v.oneCell' = true) (hr : r = .v v) (h : ∀ s' : AS, (∀ y ∈ op.operands, ev s' y = ev s y) → s'.bl = s.bl → ∀ (o : Oper) (C : Ctx) (a : Act) (w : World) (S : Nat → Prop) (Ow : Owners) (L : Names), o.op = op → RelX C s' a w S Ow L → (execOp a.eval o).run P w = .ok (.value v) w)
theorem Rep.nums {p : Path} {xs : List Int} {u : Value} (h : Rep w S Ow L p (.ag (xs.map fun n => .v (.int .i64 n))) u) : u = .agg (En.nums xs) := by
  obtain ⟨us, rfl, hl, hr⟩ := h.ag_inv
  simp only [List.length_map] at hl
  have : us = xs.map (Value.int .i64) := by
    apply List.ext_getElem?
    intro i
    by_cases hi : i < xs.length
    · have hu : us[i]? = some us[i] := List.getElem?_eq_getElem (by omega)
      obtain ⟨e, _⟩ := (hr i (.v (.int .i64 xs[i])) us[i] (by simp [hi]) hu).v_inv
      rw [hu, e]; simp [hi]
    · rw [List.getElem?_eq_none (by omega), List.getElem?_eq_none (by simp; omega)]
  rw [this]; rfl
theorem Rep.boolA {p : Path} {xs : List Bool} {u : Value} (h : Rep w S Ow L p (.ag (xs.map fun b => .v (.bool b))) u) : u = .agg (En.boolA xs) := by
  obtain ⟨us, rfl, hl, hr⟩ := h.ag_inv
  simp only [List.length_map] at hl
  have : us = xs.map (Value.bool) := by
    apply List.ext_getElem?
    intro i
    by_cases hi : i < xs.length
    · have hu : us[i]? = some us[i] := List.getElem?_eq_getElem (by omega)
      obtain ⟨e, _⟩ := (hr i (.v (.bool xs[i])) us[i] (by simp [hi]) hu).v_inv
      rw [hu, e]; simp [hi]
    · rw [List.getElem?_eq_none (by omega), List.getElem?_eq_none (by simp; omega)]
  rw [this]; rfl
structure Step1 (P : Program) (nt : NT) (ops : Array Oper) (s : AS) (o : Oper) (r : AV) : Prop where
  d : okd nt.n o.dst = true
  g : (gd ops s o = some false ∧ r = .tu []) ∨ (gd ops s o = some true ∧ Calm P s o.op r)
theorem step1_wp {Q : Exit → Act → World → Prop} {K : Act → World → Prop} {r : AV} (h : RelX C s a w S Ow L) (hn : C.nt = nt) (ho : ops[i]? = some o) (hs : Step1 P nt ops s o r) (hK : ∀ u w' S' Ow' L', RelX C (put s o.dst r) (a.put o.dst u) w' S' Ow' L' → K (a.put o.dst u) w') : wpOp P ops Q i K a w := by
  subst hn
  unfold wpOp
  simp only [ho]
  rcases hs.g with ⟨hg, rfl⟩ | ⟨hg, hc⟩
  · rw [gd_sound h hg]
    exact hK _ _ _ _ _ (h.skip hs.d)
  · rw [gd_sound h hg]
    simp only [if_true]
    left
    unfold Oper.wp
    cases hc with
    | look hq =>
      obtain ⟨u, Ow', L', hr, hR, hu⟩ := qval_sound h hq
      rw [hr]
      exact hK _ _ _ _ _ (hR.put o.dst hs.d hu)
    | call hop hc he hf hp hd =>
      have hcr := ev_rep h hc
      obtain ⟨us, e, _⟩ := hcr.fn_inv
      rw [e] at hcr
      obtain ⟨hl, hrep⟩ := args_rep h he hcr hf
      rw [exec_call hop e hp.1]
      refine Calls.mono (hp.2 w (lent S Ow) _ (lent_lt h) hl hrep) fun e' w' => ?_
      rintro ⟨v, rfl, hb, S', _, _, hv⟩
      exact hK _ _ _ _ _ ((h.grown hb).put o.dst hs.d (hv.dry hd))
    | callC hop hc he hcl hp =>
      have hcr := ev_rep h hc
      obtain ⟨us, e, _⟩ := hcr.fn_inv
      rw [e] at hcr
      obtain ⟨hl, hrep⟩ := args_cl h he hcr hcl
      rw [exec_call hop e hp.1]
      refine Calls.mono (hp.2 w S _ h.ltS hl hrep) fun e' w' => ?_
      rintro ⟨v, rfl, hb, S', h1, h2, hv⟩
      exact hK _ _ _ _ _ ((h.more hb h1 h2).put o.dst hs.d hv.any)
    | @eqS t x y t' n xs ys hop ht hx hy hlx hly hr =>
      subst hr
      have ex := (ev_rep h hx).nums
      have ey := (ev_rep h hy).nums
      have hrun : (execOp a.eval o).run P w = .ok (.value (.bool (decide (xs = ys)))) w := by
        unfold execOp
        simp only [hop, ex, ey, Sem.run_bind, run_eqGuard_agg w _ _ _ _ _ _ ht.g, Result.andThen_ok, run_eql_struct, ht.e _ _ w hlx hly, Sem.run_pure]
      rw [hrun]
      exact hK _ _ _ _ _ (h.put o.dst hs.d (.v _ rfl))
    | @neS t x y t' n xs ys hop ht hx hy hlx hly hr =>
      subst hr
      have ex := (ev_rep h hx).nums
      have ey := (ev_rep h hy).nums
      have hrun : (execOp a.eval o).run P w = .ok (.value (.bool (!decide (xs = ys)))) w := by
        unfold execOp
        simp only [hop, ex, ey, Sem.run_bind, run_eqGuard_agg w _ _ _ _ _ _ ht.g, Result.andThen_ok, run_neq_struct, ht.e _ _ w hlx hly, Sem.run_pure]
      rw [hrun]
      exact hK _ _ _ _ _ (h.put o.dst hs.d (.v _ rfl))
    | @neB t x y t' n xs ys hop ht hx hy hlx hly hr =>
      subst hr
      have ex := (ev_rep h hx).boolA
      have ey := (ev_rep h hy).boolA
      have hrun : (execOp a.eval o).run P w = .ok (.value (.bool (!decide (xs = ys)))) w := by
        unfold execOp
        simp only [hop, ex, ey, Sem.run_bind, run_eqGuard_agg w _ _ _ _ _ _ ht.g, Result.andThen_ok, run_neq_struct, ht.e _ _ w hlx hly, Sem.run_pure]
      rw [hrun]
      exact hK _ _ _ _ _ (h.put o.dst hs.d (.v _ rfl))
    | val h1 hr hv =>
      subst hr
      rw [hv s (fun _ _ => rfl) rfl o C a w S Ow L rfl h]
      exact hK _ _ _ _ _ (h.put o.dst hs.d (.v _ h1))
theorem GS.calm {r : AV} (hs : Step1 P nt ops s o r) (h : GS P nt ops K l (i + 1) (put s o.dst r)) : GS P nt ops K (o :: l) i s :=
  GS.cons (fun ho r' hr' => fun C a w S Ow L Q hn hR hQ => by
    rw [wpOps_cons]
    exact step1_wp hR hn ho hs fun u w' S' Ow' L' hR' => hr' C _ _ _ _ _ Q hn hR' hQ) h
theorem GS.callC {c : Operand} {aas : Array Operand} {ts : Array TypeId} {f : FuncId} {xs cap : List AV} {r : AV} (hop : o.op = .call ⟨.value c, aas, ts⟩) (hg : gd ops s o = some true) (hd : okd nt.n o.dst = true)
    (hc : ev s c = some (.fn f cap)) (he : aas.toList.mapM (ev s) = some xs) (hcl : (xs ++ cap).all cl = true) (hp : Pure P f (xs ++ cap) r) (h : GS P nt ops K l (i + 1) (put s o.dst r)) : GS P nt ops K (o :: l) i s :=
  GS.calm ⟨hd, .inr ⟨hg, .callC hop hc he hcl hp⟩⟩ h

/-! #### states that say the same -/
def Eqv (s s' : AS) : Prop := (∀ t, lk s.tm t = lk s'.tm t) ∧ s.bl = s'.bl ∧ s.nx = s'.nx
theorem Eqv.refl (s : AS) : Eqv s s := ⟨fun _ => rfl, rfl, rfl⟩
theorem Eqv.symm (h : Eqv s s') : Eqv s' s := ⟨fun t => (h.1 t).symm, h.2.1.symm, h.2.2.symm⟩
theorem Eqv.trans {a b c : AS} (h : Eqv a b) (k : Eqv b c) : Eqv a c := ⟨fun t => (h.1 t).trans (k.1 t), h.2.1.trans k.2.1, h.2.2.trans k.2.2⟩
theorem RelX.eqv (h : RelX C s a w S Ow L) (e : Eqv s s') : RelX C s' a w S Ow L :=
  { fix := h.fix, keep := h.keep, inS := h.inS, upS := h.upS, ltS := h.ltS, owS := h.owS, ow := h.ow, ow0 := h.ow0, blk := e.2.1 ▸ h.blk, fresh := e.2.2 ▸ h.fresh, named := e.2.2 ▸ h.named, freshO := e.2.2 ▸ h.freshO, slot := fun t x hx => h.slot t x (by rw [e.1 t]; exact hx), size := h.size, defers := h.defers }
theorem Eqv.put (h : Eqv s s') (d : Option Nat) (x : AV) : Eqv (put s d x) (put s' d x) := by
  cases d with
  | none => exact h
  | some t =>
    refine ⟨fun t' => ?_, h.2.1, h.2.2⟩
    simp only [En.put, lk]
    split
    · rfl
    · exact h.1 t'
theorem put_comm (s : AS) {d e : Option Nat} (x y : AV) (h : ∀ t, d = some t → e ≠ some t) : Eqv (put (put s d x) e y) (put (put s e y) d x) := by
  cases d with
  | none => exact Eqv.refl _
  | some t =>
    cases e with
    | none => exact Eqv.refl _
    | some t' =>
      have hne : t ≠ t' := fun g => h t rfl (g ▸ rfl)
      refine ⟨fun q => ?_, rfl, rfl⟩
      simp only [put, lk]
      by_cases h1 : t = q
      · subst h1; simp [Ne.symm hne]
      · simp [h1]
theorem ev_congr {s' : AS} (h : ∀ t, lk s.tm t = lk s'.tm t) (y : Operand) : ev s' y = ev s y := by cases y <;> simp [ev, h]
theorem mapM_congr {f g : Operand → Option AV} : ∀ {l : List Operand}, (∀ y ∈ l, f y = g y) → l.mapM f = l.mapM g
  | [], _ => rfl
  | x :: l, h => by rw [List.mapM_cons, List.mapM_cons, h x (.head _), mapM_congr fun y hy => h y (.tail _ hy)]
theorem aval_congr {op : Op} (h : ∀ y ∈ op.operands, ev s' y = ev s y) (hb : s'.bl = s.bl) : aval P s' op = aval P s op := by
  cases op with
  | call c =>
    obtain ⟨callee, args, ts⟩ := c
    simp only [aval]
    cases callee with
    | builtin b =>
      have hx : ∀ x, args.toList = [x] → ev s' x = ev s x := fun x e => h x (by
        simp only [Op.operands, Call.operands]
        have : x ∈ args := by rw [← Array.mem_toList_iff, e]; exact .head _
        simpa using this)
      generalize args.toList = al at hx
      generalize ts.toList = tl
      cases b <;> try rfl
      match al, tl, hx with
      | [x], [t], hx => simp only [hx x rfl, hb]
      | [], _, _ => rfl
      | [_], [], _ => rfl
      | [_], _ :: _ :: _, _ => rfl
      | _ :: _ :: _, _, _ => rfl
    | _ => rfl
  | makeFunc f first captured =>
    cases f with
    | func g =>
      simp only [aval]
      rw [mapM_congr (l := captured.toList) (f := fun x => ev s' x) (g := fun x => ev s x) fun y hy => h y (by simp only [Op.operands]; simp at hy; simp [hy])]
    | _ => rfl
  | _ => first
    | (simp only [aval]; done)
    | rfl
    | (simp only [Op.operands] at h; simp only [aval, hb]; simp_all; done)
end
end Go.Proofs.Ytejpklajfcngbaa.En
end
section
namespace Go.Proofs.Ytejpklajfcngbaa.En
open Go.RowKit
set_option linter.unusedSimpArgs false
set_option linter.unusedVariables false
section
attribute [local semireducible] G Gq Holds GS Pure
variable {P : Program} {nt : NT} {Q : Exit → AS → Prop} {s s' : AS} {ops : Array Oper} {K : AS → Prop} {i : Nat} {o : Oper} {l : List Oper} {C : Ctx} {a : Act} {w : World} {S : Nat → Prop} {Ow : Owners} {L : Names} {md : Region.Mode}

theorem qval_congr {op : Op} (h : ∀ y ∈ op.operands, ev s' y = ev s y) (hb : s'.bl = s.bl) : qval P s' op = qval P s op := by
  unfold qval
  cases op with
  | load t p =>
    have := h p (by simp [Op.operands])
    simp only [qload, this, hb]
  | slice t x lo hi mx =>
    cases mx with
    | none =>
      have h0 := h x (by simp [Op.operands])
      have h1 : bnd s' lo = bnd s lo := funext fun d => by cases lo with | none => rfl | some y => simp only [bnd, h y (by simp [Op.operands])]
      have h2 : bnd s' hi = bnd s hi := funext fun d => by cases hi with | none => rfl | some y => simp only [bnd, h y (by simp [Op.operands])]
      simp only [aslice, h0, h1, h2, hb]
    | some m => exact aval_congr h hb
  | _ => exact aval_congr h hb
theorem Calm.congr {op : Op} {r : AV} (h : ∀ y ∈ op.operands, ev s' y = ev s y) (hb : s'.bl = s.bl) (hc : Calm P s op r) : Calm P s' op r := by
  cases hc with
  | look hq => exact .look (by rw [qval_congr h hb]; exact hq)
  | call hop hc he hf hp hd =>
    subst hop
    simp only [Op.operands, Call.operands] at h
    refine .call rfl (by rw [h _ (by simp)]; exact hc) (by rw [mapM_congr (g := ev s) fun y hy => h y (by simp at hy; simp [hy])]; exact he) (by rw [hb]; exact hf) hp hd
  | callC hop hc he hcl hp =>
    subst hop
    simp only [Op.operands, Call.operands] at h
    exact .callC rfl (by rw [h _ (by simp)]; exact hc) (by rw [mapM_congr (g := ev s) fun y hy => h y (by simp at hy; simp [hy])]; exact he) hcl hp
  | eqS hop ht hx hy hlx hly hr =>
    subst hop
    simp only [Op.operands] at h
    exact .eqS rfl ht (by rw [h _ (by simp)]; exact hx) (by rw [h _ (by simp)]; exact hy) hlx hly hr
  | neS hop ht hx hy hlx hly hr =>
    subst hop
    simp only [Op.operands] at h
    exact .neS rfl ht (by rw [h _ (by simp)]; exact hx) (by rw [h _ (by simp)]; exact hy) hlx hly hr
  | neB hop ht hx hy hlx hly hr =>
    subst hop
    simp only [Op.operands] at h
    exact .neB rfl ht (by rw [h _ (by simp)]; exact hx) (by rw [h _ (by simp)]; exact hy) hlx hly hr
  | val h1 hr hv => exact .val h1 hr fun s'' hs'' hb'' => hv s'' (fun y hy => (hs'' y hy).trans (h y hy)) (hb''.trans hb)
theorem gd_congr {s' : AS} (h : ∀ g b t, o.guard = some (g, b) → (ops[g]?).bind (·.dst) = some t → lk s'.tm t = lk s.tm t) : gd ops s' o = gd ops s o := by
  unfold gd
  split
  · rfl
  · rename_i g b e
    split
    · rename_i t ht; rw [h g b t e ht]
    · rfl
theorem Step1.congr {r : AV} (ho : ∀ y ∈ o.op.operands, ev s' y = ev s y) (hg : ∀ g b t, o.guard = some (g, b) → (ops[g]?).bind (·.dst) = some t → lk s'.tm t = lk s.tm t) (hb : s'.bl = s.bl) (h : Step1 P nt ops s o r) : Step1 P nt ops s' o r := by
  refine ⟨h.d, ?_⟩
  rw [gd_congr hg]
  rcases h.g with g | ⟨g, hc⟩
  · exact .inl g
  · exact .inr ⟨g, hc.congr ho hb⟩
theorem Step1.eqv {r : AV} (h : Step1 P nt ops s o r) (e : Eqv s s') : Step1 P nt ops s' o r :=
  h.congr (fun y _ => ev_congr e.1 y) (fun _ _ t _ _ => (e.1 t).symm) e.2.1.symm
theorem put_lk {d : Option Nat} {x : AV} {t : Nat} (h : d ≠ some t) : lk (put s d x).tm t = lk s.tm t := by
  cases d with
  | none => rfl
  | some k => simp only [put, lk]; rw [if_neg fun e => h (by rw [e])]
theorem put_ev {d : Option Nat} {x : AV} {y : Operand} (h : ∀ t, d = some t → y ≠ .tmp t) : ev (put s d x) y = ev s y := by
  cases y with
  | tmp t => exact put_lk fun e => h t e rfl
  | _ => rfl
theorem put_bl {d : Option Nat} {x : AV} : (put s d x).bl = s.bl := by cases d <;> rfl
theorem Step1.put {r x : AV} {d : Option Nat} (h : Step1 P nt ops s o r) (hd : ∀ t, d = some t → t ∉ o.looksAt ops) : Step1 P nt ops (put s d x) o r := by
  refine h.congr (fun y hy => put_ev fun t e g => ?_) (fun g b t e ht => put_lk fun e2 => ?_) put_bl
  · subst g
    exact hd t e (List.mem_append_left _ (List.mem_filterMap.2 ⟨.tmp t, by simpa using hy, rfl⟩))
  · exact hd t e2 (List.mem_append_right _ (by simp [e, ht]))
theorem Step1.unput {r x : AV} {d : Option Nat} (h : Step1 P nt ops (En.put s d x) o r) (hd : ∀ t, d = some t → t ∉ o.looksAt ops) : Step1 P nt ops s o r := by
  refine h.congr (fun y hy => (put_ev fun t e g => ?_).symm) (fun g b t e ht => (put_lk fun e2 => ?_).symm) put_bl.symm
  · subst g
    exact hd t e (List.mem_append_left _ (List.mem_filterMap.2 ⟨.tmp t, by simpa using hy, rfl⟩))
  · exact hd t e2 (List.mem_append_right _ (by simp [e, ht]))

def aOp (P : Program) (nt : NT) (ops : Array Oper) (i : Nat) (K : AS → Prop) (s : AS) : Prop := ∃ o r, ops[i]? = some o ∧ Step1 P nt ops s o r ∧ K (put s o.dst r)
def AnyA (P : Program) (nt : NT) (md : Region.Mode) (ops : Array Oper) (K : AS → Prop) : Nat → Array Bool → AS → Prop
  | 0, listed, s => Region.ready md ops listed = [] ∧ K s
  | fuel + 1, listed, s => (Region.ready md ops listed = [] → K s) ∧ ∀ i ∈ Region.ready md ops listed, aOp P nt ops i (AnyA P nt md ops K fuel (listed.setIfInBounds i true)) s
theorem AnyA.eqv (hK : ∀ s s', Eqv s s' → K s → K s') : ∀ (fuel : Nat) (listed : Array Bool) (s s' : AS), Eqv s s' → AnyA P nt md ops K fuel listed s → AnyA P nt md ops K fuel listed s'
  | 0, _, s, s', e, h => ⟨h.1, hK s s' e h.2⟩
  | fuel + 1, _, s, s', e, h => ⟨fun h0 => hK s s' e (h.1 h0), fun i hi => by
      obtain ⟨o, r, ho, hs, hk⟩ := h.2 i hi
      exact ⟨o, r, ho, hs.eqv e, AnyA.eqv hK fuel _ _ _ (e.put _ _) hk⟩⟩
theorem wpAny_of_anyA {Q : Exit → Act → World → Prop} (hQ : ∀ s a w S Ow L, K s → RelX C s a w S Ow L → Q .normal a w) (hn : C.nt = nt) : ∀ (fuel : Nat) (listed : Array Bool) (s : AS) (a : Act) (w : World) (S : Nat → Prop) (Ow : Owners) (L : Names), RelX C s a w S Ow L → AnyA P nt md ops K fuel listed s → wpAny P md ops Q fuel listed a w
  | 0, _, s, a, w, S, Ow, L, hR, h => ⟨h.1, hQ s a w S Ow L h.2 hR⟩
  | fuel + 1, _, s, a, w, S, Ow, L, hR, h => ⟨fun h0 => hQ s a w S Ow L (h.1 h0) hR, fun i hi => by
      obtain ⟨o, r, ho, hs, hk⟩ := h.2 i hi
      exact step1_wp hR hn ho hs fun u w' S' Ow' L' hR' => wpAny_of_anyA hQ hn fuel _ _ _ _ _ _ _ hR' hk⟩

theorem anyA_first (hK : ∀ s s', Eqv s s' → K s → K s') {i : Nat} {oi : Oper} {r : AV} (hi : ops[i]? = some oi) :
    ∀ (fuel : Nat) (listed : Array Bool) (s : AS),
      (∀ j oj, ops[j]? = some oj → j ≠ i → listed.getD j true = false → (∀ e ∈ oj.after, Region.binds md e = true → e.on ≠ i) → oi.apart ops oj = true) →
      i ∈ Region.ready md ops listed → Step1 P nt ops s oi r → AnyA P nt md ops K fuel (listed.setIfInBounds i true) (put s oi.dst r) → AnyA P nt md ops K (fuel + 1) listed s := by
  intro fuel
  induction fuel with
  | zero =>
    intro listed s _ hr hy H
    refine ⟨fun h => (by rw [h] at hr; cases hr), fun j hj => ?_⟩
    by_cases hji : j = i
    · subst hji; exact ⟨oi, r, hi, hy, H⟩
    · have := ready_mono hj hji
      rw [H.1] at this
      cases this
  | succ fuel ih =>
    intro listed s hfree hr hy H
    refine ⟨fun h => (by rw [h] at hr; cases hr), fun j hj => ?_⟩
    by_cases hji : j = i
    · subst hji; exact ⟨oi, r, hi, hy, H⟩
    · obtain ⟨oj, rj, hoj, hsj, hkj⟩ := H.2 j (ready_mono hj hji)
      obtain ⟨hjun, oj', hoj', hall⟩ := mem_ready.1 hj
      rw [hoj] at hoj'
      cases hoj'
      have hnot : ∀ e ∈ oj.after, Region.binds md e = true → e.on ≠ i := fun e he hb heq => by
        have h1 := hall e he hb
        have h0 := (mem_ready.1 hr).1
        rw [heq] at h1
        rcases Nat.lt_or_ge i listed.size with h' | h'
        · simp [h'] at h0 h1; rw [h0] at h1; cases h1
        · simp [Array.getElem?_eq_none h'] at h1
      obtain ⟨a1, a2, a3⟩ := Oper.apart_spec (hfree j oj hoj hji hjun hnot)
      refine ⟨oj, rj, hoj, hsj.unput a1, ?_⟩
      have hfree' : ∀ k ok, ops[k]? = some ok → k ≠ i → (listed.setIfInBounds j true).getD k true = false →
          (∀ e ∈ ok.after, Region.binds md e = true → e.on ≠ i) → oi.apart ops ok = true := fun k ok hk hki hun hno => by
        refine hfree k ok hk hki ?_ hno
        by_cases hjk : j = k
        · subst hjk; exact hjun
        · rw [getD_set_ne true hjk] at hun; exact hun
      refine ih (listed.setIfInBounds j true) _ hfree' (ready_mono hr (Ne.symm hji)) (hy.put a3) ?_
      rw [Array.setIfInBounds_comm _ _ hji]
      exact AnyA.eqv hK _ _ _ _ (put_comm s r rj a2) hkj

inductive Gd (P : Program) (nt : NT) (ops : Array Oper) (K : AS → Prop) : List Oper → AS → Prop
  | nil {s : AS} (h : K s) : Gd P nt ops K [] s
  | step {o : Oper} {l : List Oper} {s : AS} {r : AV} (hs : Step1 P nt ops s o r) (h : Gd P nt ops K l (En.put s o.dst r)) : Gd P nt ops K (o :: l) s
  | eqv {l : List Oper} {s s1 : AS} (he : Eqv s s1) (h : Gd P nt ops K l s1) : Gd P nt ops K l s
theorem anyA_lex (hK : ∀ s s', Eqv s s' → K s → K s') {l : List Oper} {s : AS} (h : Gd P nt ops K l s) : ∀ (k : Nat) (listed : Array Bool), (∀ j, l[j]? = ops[k + j]?) → Region.lexFrom md ops l.length k listed = true → AnyA P nt md ops K l.length listed s := by
  induction h with
  | nil h => intro k listed _ hB; exact ⟨by simpa [Region.lexFrom] using hB, h⟩
  | eqv he _ ih => intro k listed hl hB; exact AnyA.eqv hK _ _ _ _ he.symm (ih k listed hl hB)
  | step hs _ ih =>
    rename_i o l s r _
    intro k listed hl hB
    have h0 : ops[k]? = some o := by simpa using (hl 0).symm
    simp only [List.length_cons, Region.lexFrom, Bool.and_eq_true] at hB
    obtain ⟨⟨hr, hf⟩, hB'⟩ := hB
    exact anyA_first hK h0 l.length listed s (Region.free_spec h0 hf) (by simpa using hr) hs (ih (k + 1) _ (fun j => by have := hl (j + 1); simpa [Nat.add_assoc, Nat.add_comm 1 j] using this) hB')
theorem Holds.any {id : Nat} (hm : P.follows .mixedOrders = true) (hB : Region.lexB .any l.toArray = true) (h : Gd P nt l.toArray (fun s => Q .normal s) l s) : Holds P nt (.region id l.toArray true) Q s := by
  intro C a w S Ow L hn hR
  have hK : ∀ s s' : AS, Eqv s s' → (∃ s1, Eqv s1 s ∧ Q .normal s1) → ∃ s1, Eqv s1 s' ∧ Q .normal s1 := fun s s' e ⟨s1, e1, q⟩ => ⟨s1, e1.trans e, q⟩
  have mono : ∀ {l' : List Oper} {s : AS}, Gd P nt l.toArray (fun s => Q .normal s) l' s → Gd P nt l.toArray (fun s => ∃ s1, Eqv s1 s ∧ Q .normal s1) l' s := by
    intro l' s h
    induction h with
    | nil h => exact .nil ⟨_, Eqv.refl _, h⟩
    | step hs _ ih => exact .step hs ih
    | eqv he _ ih => exact .eqv he ih
  simp only [Region.lexB, Bool.and_eq_true] at hB
  refine wp_region_any hm ?_
  have := anyA_lex (md := .any) hK (mono h) 0 (Array.replicate l.toArray.size false) (by simp) (by simpa using hB.2)
  rw [List.size_toArray]
  refine wpAny_of_anyA (K := fun s => ∃ s1, Eqv s1 s ∧ Q .normal s1) (fun s' a w S Ow L hk hR => ?_) hn _ _ _ _ _ _ _ _ (hR.drawn (w' := { w with drawn := w.drawn + 1 }) rfl rfl rfl rfl) (by simpa using this)
  obtain ⟨s1, e, q⟩ := hk
  exact ⟨s1, S, Ow, L, q, hR.eqv e.symm⟩
theorem Gd.look {r : AV} (hg : gd ops s o = some true) (hd : okd nt.n o.dst = true) (hq : qval P s o.op = some r) (h : Gd P nt ops K l (put s o.dst r)) : Gd P nt ops K (o :: l) s := .step ⟨hd, .inr ⟨hg, .look hq⟩⟩ h
theorem Gd.skip (hg : gd ops s o = some false) (hd : okd nt.n o.dst = true) (h : Gd P nt ops K l (put s o.dst (.tu []))) : Gd P nt ops K (o :: l) s := .step ⟨hd, .inl ⟨hg, rfl⟩⟩ h
theorem Gd.call {c : Operand} {aas : Array Operand} {ts : Array TypeId} {f : FuncId} {xs cap ys : List AV} {r : AV} (hop : o.op = .call ⟨.value c, aas, ts⟩) (hg : gd ops s o = some true) (hd : okd nt.n o.dst = true)
    (hc : ev s c = some (.fn f cap)) (he : aas.toList.mapM (ev s) = some xs) (hf : FzL s.bl (xs ++ cap) ys) (hp : Pure P f ys r) (hr : dry r = true) (h : Gd P nt ops K l (put s o.dst r)) : Gd P nt ops K (o :: l) s :=
  .step ⟨hd, .inr ⟨hg, .call hop hc he hf hp hr⟩⟩ h
theorem Gd.callC {c : Operand} {aas : Array Operand} {ts : Array TypeId} {f : FuncId} {xs cap : List AV} {r : AV} (hop : o.op = .call ⟨.value c, aas, ts⟩) (hg : gd ops s o = some true) (hd : okd nt.n o.dst = true)
    (hc : ev s c = some (.fn f cap)) (he : aas.toList.mapM (ev s) = some xs) (hcl : (xs ++ cap).all cl = true) (hp : Pure P f (xs ++ cap) r) (h : Gd P nt ops K l (put s o.dst r)) : Gd P nt ops K (o :: l) s :=
  .step ⟨hd, .inr ⟨hg, .callC hop hc he hcl hp⟩⟩ h
theorem Gd.guard {c : Bool} {t : Nat} (hl : lk s.tm t = some (.v (.bool c))) (h1 : c = true → Gd P nt ops K l (again s t (.v (.bool true)))) (h2 : c = false → Gd P nt ops K l (again s t (.v (.bool false)))) : Gd P nt ops K l s := by
  have e : ∀ x, lk s.tm t = some x → Eqv s (again s t x) := fun x hx => ⟨fun t' => by
    simp only [again, lk]
    split
    · rename_i g; rw [← g]; exact hx
    · rfl, rfl, rfl⟩
  cases c with
  | true => exact .eqv (e _ hl) (h1 rfl)
  | false => exact .eqv (e _ hl) (h2 rfl)
end
attribute [go_sem] qval qload cl cl1
end Go.Proofs.Ytejpklajfcngbaa.En
end
section
namespace Go.Proofs.Ytejpklajfcngbaa.En
open Go.RowKit
set_option linter.unusedSimpArgs false
set_option linter.unusedVariables false
section
variable {P : Program} {nt : NT} {Q : Exit → AS → Prop} {s s' : AS} {ops : Array Oper} {K : AS → Prop} {i : Nat} {o : Oper} {l : List Oper} {bl : List (Nat × Blk)}
theorem GS.cc {c : Operand} {aas : Array Operand} {ts : Array TypeId} {f : FuncId} {xs cap ys : List AV} {r : AV} (hp : Pure P f ys r) (hop : o.op = .call ⟨.value c, aas, ts⟩) (hg : gd ops s o = some true) (hd : okd nt.n o.dst = true)
    (hc : ev s c = some (.fn f cap)) (he : aas.toList.mapM (ev s) = some xs) (hy : xs ++ cap = ys) (hcl : ys.all cl = true) (h : GS P nt ops K l (i + 1) (put s o.dst r)) : GS P nt ops K (o :: l) i s := by
  subst hy
  exact GS.callC hop hg hd hc he hcl hp h
theorem Gd.cc {c : Operand} {aas : Array Operand} {ts : Array TypeId} {f : FuncId} {xs cap ys : List AV} {r : AV} (hp : Pure P f ys r) (hop : o.op = .call ⟨.value c, aas, ts⟩) (hg : gd ops s o = some true) (hd : okd nt.n o.dst = true)
    (hc : ev s c = some (.fn f cap)) (he : aas.toList.mapM (ev s) = some xs) (hy : xs ++ cap = ys) (hcl : ys.all cl = true) (h : Gd P nt ops K l (put s o.dst r)) : Gd P nt ops K (o :: l) s := by
  subst hy
  exact Gd.callC hop hg hd hc he hcl hp h
theorem GS.cd {c : Operand} {aas : Array Operand} {ts : Array TypeId} {f : FuncId} {xs cap ys zs : List AV} {r : AV} (hp : Pure P f ys r) (hop : o.op = .call ⟨.value c, aas, ts⟩) (hg : gd ops s o = some true) (hd : okd nt.n o.dst = true)
    (hc : ev s c = some (.fn f cap)) (he : aas.toList.mapM (ev s) = some xs) (hz : xs ++ cap = zs) (hf : FzL s.bl zs ys) (hr : dry r = true) (h : GS P nt ops K l (i + 1) (put s o.dst r)) : GS P nt ops K (o :: l) i s := by
  subst hz
  exact GS.call hop hg hd hc he hf hp hr h
theorem Gd.cd {c : Operand} {aas : Array Operand} {ts : Array TypeId} {f : FuncId} {xs cap ys zs : List AV} {r : AV} (hp : Pure P f ys r) (hop : o.op = .call ⟨.value c, aas, ts⟩) (hg : gd ops s o = some true) (hd : okd nt.n o.dst = true)
    (hc : ev s c = some (.fn f cap)) (he : aas.toList.mapM (ev s) = some xs) (hz : xs ++ cap = zs) (hf : FzL s.bl zs ys) (hr : dry r = true) (h : Gd P nt ops K l (put s o.dst r)) : Gd P nt ops K (o :: l) s := by
  subst hz
  exact Gd.call hop hg hd hc he hf hp hr h
def qput (P : Program) (nt : NT) (s : AS) (o : Oper) : Option AS := if okd nt.n o.dst then (qval P s o.op).map fun v => put s o.dst v else none
theorem Gd.go (hg : gd ops s o = some true) (ha : qput P nt s o = some s') (h : Gd P nt ops K l s') : Gd P nt ops K (o :: l) s := by
  unfold qput at ha
  split at ha
  · rename_i hd
    simp only [Option.map_eq_some_iff] at ha
    obtain ⟨r, hr, rfl⟩ := ha
    exact .look hg hd hr h
  · cases ha
theorem Gd.calm {r : AV} (hg : gd ops s o = some true) (hd : okd nt.n o.dst = true) (hc : Calm P s o.op r) (h : Gd P nt ops K l (put s o.dst r)) : Gd P nt ops K (o :: l) s := .step ⟨hd, .inr ⟨hg, hc⟩⟩ h
theorem GS.calm1 {r : AV} (hg : gd ops s o = some true) (hd : okd nt.n o.dst = true) (hc : Calm P s o.op r) (h : GS P nt ops K l (i + 1) (put s o.dst r)) : GS P nt ops K (o :: l) i s := GS.calm ⟨hd, .inr ⟨hg, hc⟩⟩ h
theorem Fz.cl1 {x : AV} (h : En.cl1 x = true) : Fz bl x x := by
  cases x with
  | v x => exact .v x
  | im sz xs => exact .im sz xs
  | pi xs => exact .pi xs
  | _ => simp [En.cl1] at h
theorem Fz.cl {x : AV} (h : En.cl x = true) : Fz bl x x := by
  have at' : ∀ xs : List AV, xs.all En.cl1 = true → ∀ (i : Nat) (x y : AV), xs[i]? = some x → xs[i]? = some y → Fz bl x y := fun xs h i x y hx hy => by
    rw [hx] at hy; cases hy
    rw [List.all_eq_true] at h
    exact .cl1 (h x (List.mem_of_getElem? hx))
  cases x with
  | v x => exact .v x
  | im sz xs => exact .im sz xs
  | pi xs => exact .pi xs
  | ag xs => exact .ag xs xs rfl (at' xs h)
  | tu xs => exact .tu xs xs rfl (at' xs h)
  | fn g xs => exact .fn g xs xs rfl (at' xs h)
  | _ => simp [En.cl, En.cl1] at h
theorem Fz.agL {xs ys : List AV} (h : FzL bl xs ys) : Fz bl (.ag xs) (.ag ys) := .ag xs ys h.len h.get
theorem Fz.tuL {xs ys : List AV} (h : FzL bl xs ys) : Fz bl (.tu xs) (.tu ys) := .tu xs ys h.len h.get
theorem Fz.fnL {g : FuncId} {xs ys : List AV} (h : FzL bl xs ys) : Fz bl (.fn g xs) (.fn g ys) := .fn g xs ys h.len h.get
theorem Fz.row {n sz off len : Nat} {k : Blk} {zs : List (List AV)} (hk : lb bl n = some k) (hz : k.sz = sz) (hn : ∀ row ∈ k.xs, ∀ x ∈ row, En.cl1 x = true) (hl : off + len ≤ k.xs.length) (he : zs = (k.xs.drop off).take len) : Fz bl (.own n sz off len) (.im sz zs) := by
  subst hz
  refine .own n off len k k.xs zs hk rfl (fun j r r' h1 h2 => by rw [h1] at h2; cases h2; rfl) (fun j r r' i x y h1 h2 h3 h4 => ?_) hl he
  rw [h1] at h2; cases h2
  rw [h3] at h4; cases h4
  exact .cl1 (hn r (List.mem_of_getElem? h1) x (List.mem_of_getElem? h3))
theorem Fz.all {n sz len : Nat} {k : Blk} {zs : List (List AV)} (hk : lb bl n = some k) (hz : k.sz = sz) (hl : len = k.xs.length) (he : zs = k.xs) (hn : ∀ row ∈ zs, ∀ x ∈ row, En.cl1 x = true) : Fz bl (.own n sz 0 len) (.im sz zs) := by
  subst he
  exact .row hk hz hn (by omega) (by subst hl; simp)
theorem wr64_id {n : Int} (h0 : -9223372036854775808 ≤ n) (h1 : n ≤ 9223372036854775807) : wr64 n = n := wr64_in h0 h1
theorem Cov.same (ρ : Nat → Nat) {s0 s : AS} (ht : ChkT ρ s0.nx s.tm s0.tm) (hb : ChkB ρ s0.nx s.bl s0.bl) : Cov 0 s0 s := Cov.of ρ ht hb
end

attribute [go_sem] qput
end Go.Proofs.Ytejpklajfcngbaa.En
end
section
namespace Go.Proofs.Ytejpklajfcngbaa.En
open Go.RowKit
set_option linter.unusedSimpArgs false
set_option linter.unusedVariables false
section
attribute [local semireducible] Holds Pure
variable {P : Program} {nt : NT} {s s' : AS} {C : Ctx} {a : Act} {w : World} {S : Nat → Prop} {Ow : Owners} {L : Names}

theorem qload_sound (h : RelX C s a w S Ow L) {t : TypeId} {p : Operand} {x : AV} (hx : qload P s t p = some x) : ∃ ad u, a.eval p = .pointer (some ad) ∧ (loadVar t ad).run P w = .ok u w ∧ Rep w S Ow L [0] x u := by
  unfold qload at hx
  split at hx
  · rename_i n sz j i k hp hi
    split at hx
    · rename_i b hb
      split at hx
      · rename_i hsz
        split at hx
        · rename_i row hrow
          obtain ⟨b', o', cap, hl, eu⟩ := pb_known h hb (ev_rep h hp)
          obtain ⟨loc, hl', hB⟩ := h.blk n b hb
          rw [hl] at hl'
          cases hl'
          obtain ⟨_, _, _, _, e1, hob, hrl, cs, us, hh, hfit, hcell, hrep⟩ := blk_row hB hrow
          cases e1
          subst hsz
          have hc : ∀ q y, row[q]? = some y → w.cell? ⟨b', (o' + j) * b.sz + q, none⟩ = some (us q) := fun q y hq => by
            rw [cell_of_row w b' _ cs b.e (0, 0) hh]; exact hcell q y hq
          split at hx
          · rename_i hag
            split at hx
            · rename_i hall
              cases hx
              have hlen : ((row.drop i).take k.sz).length = k.sz := by rw [List.length_take, List.length_drop]; omega
              refine ⟨_, .agg ((List.range k.sz).map fun q => us (i + q)).toArray, eu, load_cells t k hi hag _ _ (by simp) (fun q v hq => ?_), ?_⟩
              · have hlt : q < k.sz := by have := (List.getElem?_eq_some_iff.1 hq).1; simpa using this
                simp only [List.getElem?_map, List.getElem?_range hlt, Option.map_some, Option.some.injEq] at hq
                subst hq
                rw [Addr.add_lit, Nat.add_assoc]
                exact hc (i + q) row[i + q] (List.getElem?_eq_getElem (by omega))
              · refine .ag _ _ (by simp [hlen]) (fun q y v hy hv => ?_)
                rw [List.getElem?_take] at hy
                split at hy
                · rename_i hq
                  rw [List.getElem?_drop] at hy
                  simp only [List.getElem?_map, List.getElem?_range hq, Option.map_some, Option.some.injEq] at hv
                  subst hv
                  refine (hrep _ y hy).flat ?_
                  have := hall.1
                  rw [List.all_eq_true] at this
                  exact this y (List.mem_of_getElem? (i := q) (by rw [List.getElem?_take, if_pos hq, List.getElem?_drop]; exact hy))
                · cases hy
            · cases hx
          · rename_i hag
            have hag : k.agg = false := by simpa using hag
            split at hx
            · cases hx
            · rename_i y _ hy
              split at hx
              · rename_i hf
                cases hx
                exact ⟨_, us i, eu, load_cell t k hi hag _ _ (hc i _ hy), (hrep i _ hy).flat hf⟩
              · cases hx
            · cases hx
        · cases hx
      · cases hx
    · cases hx
  · rename_i xs k hp hi
    obtain ⟨ad, eu, hI⟩ := (ev_rep h hp).pi_inv
    obtain ⟨hS, us, hcell, hrep⟩ := hI
    have hadd : ∀ q, ad.add q = ⟨ad.block, ad.off + q, none⟩ := fun q => by
      obtain ⟨bb, oo, sp⟩ := ad
      have : sp = none := hS.2.2
      subst this
      simp [Addr.add_lit]
    split at hx
    · rename_i hag
      split at hx
      · rename_i hall
        cases hx
        have hlen : (xs.take k.sz).length = k.sz := by rw [List.length_take]; omega
        refine ⟨_, .agg ((List.range k.sz).map us).toArray, eu, load_cells t k hi hag _ _ (by simp) (fun q v hq => ?_), ?_⟩
        · have hlt : q < k.sz := by have := (List.getElem?_eq_some_iff.1 hq).1; simpa using this
          simp only [List.getElem?_map, List.getElem?_range hlt, Option.map_some, Option.some.injEq] at hq
          subst hq
          rw [hadd]
          exact hcell q xs[q] (List.getElem?_eq_getElem (by omega))
        · refine .ag _ _ (by simp [hlen]) (fun q y v hy hv => ?_)
          rw [List.getElem?_take] at hy
          split at hy
          · rename_i hq
            simp only [List.getElem?_map, List.getElem?_range hq, Option.map_some, Option.some.injEq] at hv
            subst hv
            exact (hrep _ y hy).any
          · cases hy
      · cases hx
    · rename_i hag
      have hag : k.agg = false := by simpa using hag
      refine ⟨_, us 0, eu, load_cell t k hi hag _ _ ?_, (hrep 0 x hx).any⟩
      have := hcell 0 x hx
      rwa [← hadd, Addr.add_zero'] at this
  · cases hx

def rval (P : Program) (s : AS) : ResultVar → Option AV
  | .tmp t => lk s.tm t
  | .cell a t => qload P s t (.tmp a)
def pack : List AV → AV
  | [x] => x
  | xs => .tu xs
def Out (P : Program) (rs : List ResultVar) (r : AV) (e : Exit) (s : AS) : Prop := (e = .normal ∨ e = .ret) ∧ ∃ xs, rs.mapM (rval P s) = some xs ∧ Fz s.bl (pack xs) r
theorem Out.mk {rs : List ResultVar} {r : AV} {e : Exit} {xs : List AV} (hx : rs.mapM (rval P s) = some xs) (hf : Fz s.bl (pack xs) r) (he : e = .normal ∨ e = .ret) : Out P rs r e s := ⟨he, xs, hx, hf⟩
def rrun (tmps : Array Value) : ResultVar → Sem Value
  | .tmp t => pure (tmps.getD t undef)
  | .cell a t => do loadVar t (← asAddr (tmps.getD a undef))
theorem rval_run (h : RelX C s a w S Ow L) {v : ResultVar} {x : AV} (hx : rval P s v = some x) : ∃ u, (rrun a.tmps v).run P w = .ok u w ∧ Rep w S Ow L [0] x u := by
  cases v with
  | tmp t =>
    obtain ⟨u, hu, hr⟩ := h.slot t x hx
    exact ⟨u, by simp [rrun, hu], hr⟩
  | cell b t =>
    obtain ⟨ad, u, e, hr, hR⟩ := qload_sound h hx
    have e' : a.tmps.getD b undef = .pointer (some ad) := e
    have e2 : (a.tmps[b]?).getD undef = .pointer (some ad) := by rw [← e']; simp [Array.getD_eq_getD_getElem?]
    exact ⟨u, by simp [rrun, e2, asAddr, hr], hR⟩
theorem rvals_run (h : RelX C s a w S Ow L) : ∀ {rs : List ResultVar} {xs : List AV}, rs.mapM (rval P s) = some xs → ∃ us : List Value, (rs.mapM (rrun a.tmps)).run P w = .ok us w ∧ us.length = xs.length ∧ ∀ (i : Nat) (x : AV) (u : Value), xs[i]? = some x → us[i]? = some u → Rep w S Ow L [0] x u
  | [], xs, hx => by
    simp at hx
    subst hx
    exact ⟨[], by simp, rfl, fun i x u h1 => by simp at h1⟩
  | v :: rs, xs, hx => by
    rw [List.mapM_cons] at hx
    simp only [bind, Option.bind_eq_some_iff, pure, Option.some.injEq] at hx
    obtain ⟨x, hx1, ys, hy, rfl⟩ := hx
    obtain ⟨u, hu, hr⟩ := rval_run h hx1
    obtain ⟨us, hus, hl, hR⟩ := rvals_run h hy
    refine ⟨u :: us, by rw [List.mapM_cons]; simp [hu, hus], by simp [hl], fun i x' u' h1 h2 => ?_⟩
    cases i with
    | zero => simp at h1 h2; subst h1 h2; exact hr
    | succ i => exact hR i x' u' (by simpa using h1) (by simpa using h2)
theorem results_run (h : RelX C s a w S Ow L) (fn : Func) {rs : List ResultVar} (hr : fn.results = rs.toArray) {xs : List AV} (hx : rs.mapM (rval P s) = some xs) : ∃ v, (results fn a.tmps).run P w = .ok v w ∧ Rep w S Ow L [0] (pack xs) v := by
  obtain ⟨us, hus, hl, hR⟩ := rvals_run h hx
  have e : ∀ f : ResultVar → Sem Value, (∀ v, f v = rrun a.tmps v) → rs.mapM f = rs.mapM (rrun a.tmps) := fun f hf => by rw [show f = rrun a.tmps from funext hf]
  unfold results
  simp only [hr, List.mapM_toArray]
  rw [e _ (fun v => by cases v <;> rfl)]
  have tup : Rep w S Ow L [0] (.tu xs) (.tuple us.toArray) := .tu xs us hl fun i x u h1 h2 => (hR i x u h1 h2).names (fun _ => .inr (.inl rfl)) fun b q hq => absurd hq (h.ow0 b _)
  match xs, us, hl, hus, hR, tup with
  | [], [], _, hus, _, tup => exact ⟨_, by simp [hus], tup⟩
  | [x], [u], _, hus, hR, _ => exact ⟨u, by simp [hus], hR 0 x u rfl rfl⟩
  | x :: y :: xs, u :: v :: us, _, hus, _, tup => exact ⟨_, by simp [hus], tup⟩

theorem Pure.mk {f : FuncId} {fn : Func} {c : Code} {args : List AV} {rs : List ResultVar} {r : AV} {nt : Nat} (hf : P.funcs[f]? = some fn) (hn : (fn.name == "runtime.NumGoroutine") = false) (hb : fn.body = some c) (hr : fn.results = rs.toArray) (hnt : fn.ntmps = nt) (hle : args.length ≤ nt)
    (h : Holds P ⟨nt, 0⟩ c (Out P rs r) ⟨sl 0 args, [], 0⟩) : Pure P f args r := by
  subst hnt
  refine ⟨⟨fn, hf, hn, by rw [hb]; rfl⟩, fun W S us hS hl hrep => calls_of_wp hf hb ?_⟩
  have hsz : us.toArray.size = args.length := by simpa using hl
  have hR : RelX ⟨W, fun _ => False, S, ⟨fn.ntmps, 0⟩, fun _ => none⟩ ⟨sl 0 args, [], 0⟩ { tmps := us.toArray ++ Array.replicate (fn.ntmps - us.toArray.size) undef, defers := [] } W S noOwner noName := by
    refine { fix := fun n loc hn => (by cases hn), keep := Keep.refl W _, inS := fun k hk => hk, upS := fun k hk => .inl hk, ltS := hS, owS := fun k _ => rfl, ow := fun k p hk => (by cases hk), ow0 := fun k q hk => (by cases hk), blk := fun n k hk => (by simp [lb] at hk), fresh := fun n _ => rfl, named := fun n hn => absurd hn (Nat.not_lt_zero n), freshO := fun k n q hk => (by cases hk), slot := fun t x hx => ?_, size := ?_, defers := rfl }
    · obtain ⟨_, hx⟩ := lk_sl args 0 t x hx
      rw [Nat.sub_zero] at hx
      have hlt : t < us.length := by have := (List.getElem?_eq_some_iff.1 hx).1; omega
      have hu : us[t]? = some us[t] := List.getElem?_eq_getElem hlt
      refine ⟨us[t], ?_, (hrep t x _ hx hu).any⟩
      rw [Array.getElem?_append_left (by simpa using hlt)]
      simp [hlt]
    · simp; omega
  refine wp_mono (h _ _ _ _ _ _ rfl hR) ?_
  rintro e a w ⟨s, S1, Ow, L, ⟨he, xs, hx, hz⟩, hR1⟩
  obtain ⟨v, hv, hrv⟩ := results_run hR1 fn hr hx
  have fin : a.defers = [] ∧ ∃ v, (results fn a.tmps).run P w = .ok v w ∧ ∃ v', Ending.returned v = .returned v' ∧ BelowD W.heap.size W w ∧ ∃ S' : Nat → Prop, (∀ k, S k → S' k) ∧ (∀ k, S' k → k < w.heap.size ∧ (S k ∨ W.heap.size ≤ k)) ∧ Rep w S' noOwner noName [] r v' := by
    refine ⟨hR1.defers, v, hv, v, rfl, hR1.keep.below, lent S1 Ow, fun k hk => .inl (hR1.inS k hk), fun k hk => ⟨lent_lt hR1 k hk, ?_⟩, hrv.fz hR1 hz⟩
    rcases hk with hk | hk
    · rcases hR1.upS k hk with g | g | g
      · exact .inl g
      · exact .inr g
      · exact g.elim
    · cases e : Ow k with
      | none => exact absurd e hk
      | some p => exact .inr ((hR1.ow k p e).1.resolve_right fun g => g)
  rcases he with rfl | rfl
  · exact fin
  · exact fin
end
attribute [go_sem] rval pack
attribute [irreducible] Out
end Go.Proofs.Ytejpklajfcngbaa.En
end
section
namespace Go.Proofs.Ytejpklajfcngbaa.En
open Go.RowKit Go.WideShapes
set_option linter.unusedSimpArgs false
set_option linter.unusedVariables false

def there (w : World) : Nat → Prop := fun k => k < w.heap.size
def CellsOf (w : World) (cs : List Value) (row : List AV) : Prop := cs.length = row.length ∧ ∀ (i : Nat) (x : AV) (u : Value), row[i]? = some x → cs[i]? = some u → Rep w (there w) noOwner noName [] x u
theorem CellsOf.one {w : World} {u : Value} {x : AV} (h : Rep w (there w) noOwner noName [] x u) : CellsOf w [u] [x] := by
  refine ⟨rfl, fun i y v hy hv => ?_⟩
  cases i with
  | zero => simp at hy hv; subst hy hv; exact h
  | succ i => simp at hy
def OpA {α : Type} (P : Program) (t : TypeId) (sz : Nat) (enc : α → List AV) (Q : α → Prop) : Prop :=
  (∀ a, (enc a).length = sz) ∧ ∀ (H : Type) (en : TypeId × Value → H) (w : World) (spare : Nat → Bool) (held : Bool) (fuel : Nat) (cs : List Value) (x : DataW H × List MemPlace),
    DataW.trod en P w 0 spare held fuel t cs = some x → (∀ n ∈ x.1.weights P t, n ≤ reachBytes) → ∃ a, CellsOf w cs (enc a) ∧ Q a
def WfB (n : Int) : Prop := 0 ≤ n ∧ n ≤ 255
theorem opa_u8 {P : Program} {t : TypeId} (h : P.underlying t = some (.int .u8)) : OpA P t 1 (fun n : Int => [.v (.int .u8 n)]) WfB := by
  refine ⟨fun _ => rfl, fun H en w spare held fuel cs x hx _ => ?_⟩
  obtain ⟨n, rfl, _, hw⟩ := DataW.trod_int h hx
  refine ⟨n, .one (.v _ rfl), ?_⟩
  simp only [Lit.wf, IntKind.min, IntKind.max, IntKind.signed, IntKind.bits, Bool.and_eq_true, decide_eq_true_eq, Bool.false_eq_true, if_false] at hw
  unfold WfB; omega
theorem choose_rows {α : Type} {n : Nat} {p : Nat → α → Prop} (h : ∀ i, i < n → ∃ a, p i a) : ∃ xs : List α, xs.length = n ∧ ∀ i a, xs[i]? = some a → p i a := by
  induction n with
  | zero => exact ⟨[], rfl, fun i a h => by simp at h⟩
  | succ n ih =>
    obtain ⟨xs, hl, hx⟩ := ih (fun i hi => h i (by omega))
    obtain ⟨a, ha⟩ := h n (by omega)
    refine ⟨xs ++ [a], by simp [hl], fun i b hb => ?_⟩
    by_cases hi : i < n
    · rw [List.getElem?_append_left (by omega)] at hb
      exact hx i b hb
    · have hlt := (List.getElem?_eq_some_iff.1 hb).1
      simp at hlt
      obtain rfl : i = n := by omega
      rw [List.getElem?_append_right (by omega), hl, Nat.sub_self] at hb
      simp at hb
      exact hb ▸ ha
theorem weightsAll_mem {H : Type} {P : Program} {e : TypeId} : ∀ {l : List (DataW H)} {d : DataW H}, d ∈ l → ∀ n ∈ d.weights P e, n ∈ DataW.weightsAll P e l
  | [], d, h, _, _ => by cases h
  | y :: l, d, h, n, hn => by
    unfold DataW.weightsAll
    rcases List.mem_cons.1 h with rfl | h
    · exact List.mem_append_left _ hn
    · exact List.mem_append_right _ (weightsAll_mem h n hn)
def RowQ {α : Type} (b : Nat) (Q : α → Prop) (xs : List α) : Prop := xs.length * b ≤ 140737488351232 ∧ ∀ x ∈ xs, Q x
theorem cell_lt {w : World} {a : Addr} {u : Value} (h : w.cell? a = some u) : a.block < w.heap.size ∧ a.spot = none := by
  unfold World.cell? at h
  split at h
  · rename_i c _ _ hh
    refine ⟨(Array.getElem?_eq_some_iff.1 hh).1, ?_⟩
    split at h
    · cases h
    · rename_i hs; simpa using hs
  · cases h
theorem opa_slice {α : Type} {P : Program} {t e : TypeId} {sz b : Nat} {enc : α → List AV} {Q : α → Prop} (h : P.underlying t = some (.slice e)) (hs : P.cellsOf e = sz) (hb : P.bytesOf e = b) (hp : 0 < sz) (he : OpA P e sz enc Q) : OpA P t 1 (fun xs : List α => [.im sz (xs.map enc)]) (RowQ b Q) := by
  refine ⟨fun _ => rfl, fun H en w spare held fuel cs x hx hwt => ?_⟩
  rcases DataW.trod_slice h hx with ⟨rfl, _⟩ | ⟨a, len, cap, elems, rest, n, rfl, rfl, rfl, hba, hlc, hcm, hel, hat, _, _⟩
  · exact ⟨[], .one (.im sz [] none 0 ⟨0, 0, none⟩ (fun _ _ => undef) (Nat.le_refl 0) (fun hx => absurd rfl hx) (fun hx => absurd rfl hx) (fun j row hj => by simp at hj) (fun j row i y hj => by simp at hj) (fun j row i y hj => by simp at hj)), by simp, fun x hx => by cases hx⟩
  · have hw0 : (elems.length + rest.length) * b ≤ reachBytes := by
      have := hwt ((elems.length + rest.length) * b) (by unfold DataW.weights; rw [h]; simp [hb])
      exact this
    have each : ∀ i, i < len → ∃ y, (∃ c, CellsOf w c (enc y) ∧ ∀ j, j < sz → w.cell? (a.add (i * sz + j)) = c[j]?) ∧ Q y := by
      intro i hi
      have hi' : i < elems.length := by omega
      have hy := hat i hi
      rw [List.getElem?_eq_getElem hi', Option.bind_eq_some_iff] at hy
      obtain ⟨c, hc, ht⟩ := hy
      obtain ⟨_, hn, hce⟩ := World.cells?_some hc
      obtain ⟨y, hK, hQ⟩ := he.2 H en w spare held n c _ ht (fun k hk => hwt k (by
        unfold DataW.weights; rw [h]
        refine List.mem_cons_of_mem _ (List.mem_append_left _ (weightsAll_mem (List.mem_map_of_mem (List.getElem_mem hi')) k hk))))
      refine ⟨y, ⟨c, hK, fun j hj => ?_⟩, hQ⟩
      have := hce j (by omega)
      rw [← this, hs, Addr.add_add]
    obtain ⟨ys, hl, hys⟩ := choose_rows each
    subst hl
    have first : ys ≠ [] → a.block < w.heap.size ∧ a.spot = none := fun hne => by
      have hlt : 0 < ys.length := List.length_pos_iff.2 hne
      obtain ⟨⟨c, hK, hc⟩, _⟩ := hys 0 ys[0] (List.getElem?_eq_getElem hlt)
      have h0 := hc 0 hp
      have hcl : 0 < c.length := by rw [hK.1, he.1]; exact hp
      rw [List.getElem?_eq_getElem hcl] at h0
      simpa [Addr.add] using cell_lt h0
    have ad : ∀ k, a.spot = none → a.add k = ⟨a.block, a.off + k, none⟩ := fun k hk => by
      obtain ⟨bb, oo, sp⟩ := a
      simp only at hk
      subst hk
      simp [Addr.add_lit]
    refine ⟨ys, .one ?_, by unfold reachBytes at hw0; exact Nat.le_trans (Nat.mul_le_mul_right b (by omega)) hw0, fun y hy => ?_⟩
    · have := Rep.im (w := w) (S := there w) (Ow := noOwner) (L := noName) (p := []) sz (ys.map enc) (some a) cap a (fun j i => (w.cell? ⟨a.block, a.off + (j * sz + i), none⟩).getD undef) (by simpa using hlc) (fun _ => rfl) (fun hne => ?_) (fun j row hj => ?_) (fun j row i y hj hi => ?_) (fun j row i y hj hi => ?_)
      · simpa using this
      · obtain ⟨h1, h2⟩ := first (by intro e; exact hne (by simp [e]))
        exact ⟨h1, h1, h2⟩
      · simp only [List.getElem?_map, Option.map_eq_some_iff] at hj
        obtain ⟨z, _, rfl⟩ := hj
        exact he.1 z
      · simp only [List.getElem?_map, Option.map_eq_some_iff] at hj
        obtain ⟨z, hz, rfl⟩ := hj
        obtain ⟨⟨c, hK, hc⟩, _⟩ := hys j z hz
        have hi' : i < sz := by rw [← he.1 z]; exact (List.getElem?_eq_some_iff.1 hi).1
        have h1 := hc i hi'
        have hcl : i < c.length := by rw [hK.1, he.1]; exact hi'
        rw [ad _ (first (by intro e; subst e; simp at hz)).2, List.getElem?_eq_getElem hcl] at h1
        rw [h1]; rfl
      · simp only [List.getElem?_map, Option.map_eq_some_iff] at hj
        obtain ⟨z, hz, rfl⟩ := hj
        obtain ⟨⟨c, hK, hc⟩, _⟩ := hys j z hz
        have hi' : i < sz := by rw [← he.1 z]; exact (List.getElem?_eq_some_iff.1 hi).1
        have h1 := hc i hi'
        have hcl : i < c.length := by rw [hK.1, he.1]; exact hi'
        rw [ad _ (first (by intro e; subst e; simp at hz)).2, List.getElem?_eq_getElem hcl] at h1
        rw [h1]
        exact hK.2 i y _ hi (List.getElem?_eq_getElem hcl)
    · obtain ⟨i, hi⟩ := List.getElem?_of_mem hy
      exact (hys i y hi).2

theorem opened_cell {α H : Type} {en : TypeId × Value → H} {P : Program} {W : World} {spare : Nat → Bool} {held : Bool} {t : TypeId} {e : α → AV} {Q : α → Prop} (ho : OpA P t 1 (fun a => [e a]) Q) {v : Value} (hv : v.cells = #[v])
    {y : DataW H} {ps : List MemPlace} (h : DataW.Trod en P W 0 spare held t v y ps) (hw : ∀ n ∈ y.weights P t, n ≤ reachBytes) : ∃ a, Rep W (there W) noOwner noName [] (e a) v ∧ Q a := by
  obtain ⟨fuel, hf⟩ := h
  obtain ⟨a, hK, hQ⟩ := ho.2 H en W spare held fuel _ _ hf hw
  rw [hv] at hK
  exact ⟨a, hK.2 0 _ v rfl rfl, hQ⟩
theorem pure_calls {P : Program} {f : FuncId} {args : List AV} {x : Value} (h : Pure P f args (.v x)) (W : World) (us : List Value) (hl : us.length = args.length) (hr : ∀ (i : Nat) (x : AV) (u : Value), args[i]? = some x → us[i]? = some u → Rep W (there W) noOwner noName [] x u) :
    Calls P f us.toArray W fun e w' => e = .returned x ∧ Below W.heap.size W w' := by
  unfold Pure at h
  refine Calls.mono (h.2 W (there W) us (fun k hk => hk) hl hr) fun e w' => ?_
  rintro ⟨v, rfl, hb, S', _, _, hv⟩
  obtain ⟨rfl, _⟩ := hv.v_inv
  exact ⟨rfl, hb.toBelow⟩
theorem weights_arg {H : Type} {P : Program} {ts : List TypeId} {ds : List (DataW H)} (h : (DataW.weightsEach P ts ds).all (· ≤ reachBytes) = true) {j : Nat} {t : TypeId} {d : DataW H} (ht : ts[j]? = some t) (hd : ds[j]? = some d) : ∀ n ∈ d.weights P t, n ≤ reachBytes := fun n hn => by
  rw [List.all_eq_true] at h
  simpa using h n (DataW.weights_mem_each ht hd n hn)
end Go.Proofs.Ytejpklajfcngbaa.En
end
section
namespace Go.Proofs.Ytejpklajfcngbaa.En
open Go.RowKit
set_option linter.unusedSimpArgs false
set_option linter.unusedVariables false
section
attribute [local semireducible] G Gq Holds GS Pure Out
variable {P : Program} {nt : NT} {Q : Exit → AS → Prop} {s s' s0 : AS} {ops : Array Oper} {K : AS → Prop} {i : Nat} {o : Oper} {l : List Oper} {C : Ctx} {a : Act} {w : World} {S : Nat → Prop} {Ow : Owners} {L : Names}

/-! #### freezing -/
theorem lb_filter (bl : List (Nat × Blk)) (f : Nat → Bool) (n : Nat) : lb (bl.filter fun p => f p.1) n = if f n then lb bl n else none := by
  induction bl with
  | nil => simp [lb]
  | cons h r ih =>
    obtain ⟨k, x⟩ := h
    by_cases hk : f k = true
    · simp only [List.filter_cons, hk, if_true, lb]
      by_cases e : k = n
      · subst e; simp [hk]
      · simp [e, ih]
    · simp only [List.filter_cons, hk, if_false, lb]
      by_cases e : k = n
      · subst e; simp [hk, ih]
      · simp [e, ih]
inductive FzT (tm : List (Nat × AV)) (bl : List (Nat × Blk)) : List (Nat × AV) → Prop
  | nil : FzT tm bl []
  | cons {t : Nat} {x y : AV} {r : List (Nat × AV)} (hx : lk tm t = some x) (hf : Fz bl x y) (hr : FzT tm bl r) : FzT tm bl ((t, y) :: r)
theorem FzT.get {tm : List (Nat × AV)} {bl : List (Nat × Blk)} {ts : List (Nat × AV)} (h : FzT tm bl ts) {t : Nat} {y : AV} (hy : lk (ts ++ tm) t = some y) : lk tm t = some y ∨ ∃ x, lk tm t = some x ∧ Fz bl x y := by
  induction h with
  | nil => exact .inl hy
  | cons hx hf _ ih =>
    simp only [List.cons_append, lk] at hy
    split at hy
    · rename_i e; cases hy; subst e; exact .inr ⟨_, hx, hf⟩
    · exact ih hy
def frz (s : AS) (N : List Nat) (ts : List (Nat × AV)) : AS := ⟨ts ++ s.tm, s.bl.filter fun p => !N.contains p.1, s.nx⟩
theorem RelX.freeze (h : RelX C s a w S Ow L) {N : List Nat} {ts : List (Nat × AV)} (hf : FzT s.tm (s.bl.filter fun p => N.contains p.1) ts) :
    ∃ S' Ow' L', RelX C (frz s N ts) a w S' Ow' L' := by
  have hNb : ∀ n k, lb (s.bl.filter fun p => N.contains p.1) n = some k → N.contains n = true ∧ lb s.bl n = some k := fun n k hk => by
    rw [lb_filter s.bl (fun n => N.contains n)] at hk
    split at hk
    · rename_i g; exact ⟨g, hk⟩
    · cases hk
  let Nn : Nat → Prop := fun n => N.contains n = true
  let Ow' : Owners := fun b => (Ow b).bind fun p => match p with
    | (n + 1) :: q => if N.contains n = true then none else some ((n + 1) :: q)
    | p => some p
  let L' : Names := fun n => if N.contains n = true then (L n).kill else L n
  have hO : ∀ b p, Ow' b = some p → Ow b = some p := fun b p hb => by
    simp only [Ow', Option.bind_eq_some_iff] at hb
    obtain ⟨p0, h0, h1⟩ := hb
    split at h1
    · split at h1
      · cases h1
      · cases h1; exact h0
    · cases h1; exact h0
  have hO2 : ∀ b n q, Ow b = some ((n + 1) :: q) → N.contains n = false → Ow' b = some ((n + 1) :: q) := fun b n q hb hn => by
    simp [Ow', hb]
    intro hc
    have hnn : ¬ (N.contains n = true) := by rw [hn]; simp
    exact absurd (by simpa using hc) hnn
  have hS : ∀ k, S k → lentN Nn S Ow k := fun k hk => .inl hk
  have hLn : ∀ m, L m = .free ∨ L' m = L m ∨ L' m = .gone := fun m => by
    by_cases e : N.contains m = true
    · simp only [L', if_pos e]; cases L m <;> simp [NL.kill]
    · exact .inr (.inl (if_neg e))
  have free_iff : ∀ m, L' m = .free ↔ L m = .free := fun m => by
    by_cases e : N.contains m = true
    · simp only [L', if_pos e]; cases L m <;> simp [NL.kill]
    · simp only [L', if_neg e]
  have up : ∀ p x u, (∀ b q, Ow b = some (p ++ q) → Ow' b = some (p ++ q)) → Rep w S Ow L p x u → Rep w (lentN Nn S Ow) Ow' L' p x u := fun p x u hp hx =>
    (hx.world (Nat.le_refl _) hS (fun _ _ => rfl) (fun _ _ _ => rfl)).names hLn hp
  refine ⟨lentN Nn S Ow, Ow', L', ?_⟩
  refine { fix := fix_of h.fix hLn, keep := h.keep, inS := fun k hk => .inl (h.inS k hk), upS := fun k hk => ?_, ltS := fun k hk => lent_lt h k (lentN_lent hk), owS := fun k hk => ?_, ow := fun k p hk => h.ow k p (hO k p hk), ow0 := fun k q hk => h.ow0 k q (hO _ _ hk), blk := fun n k hn => ?_, fresh := fun n hn => (free_iff n).2 (h.fresh n hn), named := fun n hn he => h.named n hn ((free_iff n).1 he), freshO := fun k n q hk => h.freshO k n q (hO _ _ hk), slot := fun t y hy => ?_, size := h.size, defers := h.defers }
  · rcases hk with hk | ⟨n, q, _, hk⟩
    · exact h.upS k hk
    · exact .inr (h.ow k _ hk).1
  · rcases hk with hk | ⟨n, q, hn, hk⟩
    · simp [Ow', h.owS k hk]
    · simp only [Ow', hk, Option.bind_some]
      exact if_pos hn
  · rw [show (frz s N ts).bl = s.bl.filter fun p => !N.contains p.1 from rfl, lb_filter s.bl (fun n => !N.contains n)] at hn
    split at hn
    · rename_i g
      have g' : N.contains n = false := by simpa using g
      obtain ⟨loc, hl, hB⟩ := h.blk n k hn
      refine ⟨loc, by simp only [L', g', Bool.false_eq_true, if_false]; exact hl, ?_⟩
      cases loc with
      | none => exact hB
      | some p =>
        obtain ⟨h1, cs, us, h2, h3, h4, h5, h6, h7⟩ := hB
        exact ⟨hO2 _ _ _ h1 g', cs, us, h2, h3, h4, h5, h6, fun j row i x hj hi => up _ x _ (fun b q hb => hO2 b _ _ hb g') (h7 j row i x hj hi)⟩
    · cases hn
  · rcases hf.get hy with hy | ⟨x, hx, hz⟩
    · obtain ⟨u, hu, hR⟩ := h.slot t y hy
      exact ⟨u, hu, up _ y u (fun b q hb => absurd hb (h.ow0 b q)) hR⟩
    · obtain ⟨u, hu, hR⟩ := h.slot t x hx
      exact ⟨u, hu, (Rep.fzN h (N := Nn) hNb hz (fun b q hq => absurd hq (h.ow0 b q)) (fun _ => .inl rfl) hR : Rep w _ noOwner noName [] y u).any⟩
theorem Cov.freeze {k : Nat} (N : List Nat) {ts : List (Nat × AV)} (hf : FzT s.tm (s.bl.filter fun p => N.contains p.1) ts) : Cov k (frz s N ts) s := fun _ _ _ _ _ _ _ h => h.freeze hf
theorem GS.cov (hc : Cov nt.k s' s) (h : GS P nt ops K l i s') : GS P nt ops K l i s := fun hd C a w S Ow L Q hn hR hQ => let ⟨S', Ow', L', hR'⟩ := hc C a w S Ow L (by rw [hn]) hR; h hd C a w S' Ow' L' Q hn hR' hQ
theorem GS.frz (N : List Nat) (ts : List (Nat × AV)) (hf : FzT s.tm (s.bl.filter fun p => N.contains p.1) ts) (h : GS P nt ops K l i (En.frz s N ts)) : GS P nt ops K l i s := GS.cov (Cov.freeze N hf) h
theorem Holds.frz {c : Code} (N : List Nat) (ts : List (Nat × AV)) (hf : FzT s.tm (s.bl.filter fun p => N.contains p.1) ts) (h : Holds P nt c Q (En.frz s N ts)) : Holds P nt c Q s := Holds.cov (Cov.freeze N hf) h

/-! #### nil as a row of one's own -/
def niw (s : AS) (t : Nat) (e : TypeId) (sz : Nat) : AS := ⟨(t, .own s.nx sz 0 0) :: s.tm, (s.nx, ⟨e, sz, []⟩) :: s.bl, s.nx + 1⟩
theorem Cov.niw {k t : Nat} (e : TypeId) (sz : Nat) (hx : lk s.tm t = some (.v (.slice none 0 0))) : Cov k (En.niw s t e sz) s := by
  intro C a w S Ow L _ h
  obtain ⟨L', hR, hL, hup⟩ := h.allocNil ⟨e, sz, []⟩ rfl
  refine ⟨S, Ow, L', { fix := hR.fix, keep := hR.keep, inS := hR.inS, upS := hR.upS, ltS := hR.ltS, owS := hR.owS, ow := hR.ow, ow0 := hR.ow0, blk := hR.blk, fresh := hR.fresh, named := hR.named, freshO := hR.freshO, size := hR.size, defers := hR.defers, slot := fun t' y hy => ?_ }⟩
  by_cases e : t = t'
  · subst e
    simp only [En.niw, lk, if_true, Option.some.injEq] at hy
    subst hy
    obtain ⟨u, hu, hr⟩ := h.slot t _ hx
    obtain ⟨rfl, _⟩ := hr.v_inv
    exact ⟨_, hu, .own_nil _ _ none hL⟩
  · simp only [En.niw, lk, if_neg e] at hy
    exact hR.slot t' y hy
theorem Holds.niw {c : Code} (t : Nat) (e : TypeId) (sz : Nat) (hx : lk s.tm t = some (.v (.slice none 0 0))) (h : Holds P nt c Q (En.niw s t e sz)) : Holds P nt c Q s := Holds.cov (Cov.niw e sz hx) h
theorem GS.niw (t : Nat) (e : TypeId) (sz : Nat) (hx : lk s.tm t = some (.v (.slice none 0 0))) (h : GS P nt ops K l i (En.niw s t e sz)) : GS P nt ops K l i s := GS.cov (Cov.niw e sz hx) h
/-! #### names forward -/
theorem Rep.fwd1 {ρ : Nat → Nat} {m : Nat} {Ow2 : Owners} {L2 : Names} (hL : ∀ n, n < m → L2 (ρ n) = L n) {x : AV} {p p' : Path} {u : Value} (hO : ∀ k q, Ow k = some (p ++ q) → Ow2 k = some (p' ++ q)) (hx : okr1 m x = true) (h : Rep w S Ow L p x u) : Rep w S Ow2 L2 p' (En.ren1 ρ x) u := by
  cases h with
  | v _ h => exact .v _ h
  | ag => simp [okr1] at hx
  | tu => simp [okr1] at hx
  | fn => simp [okr1] at hx
  | im sz xs A c ad us hc ha hS hz hcell hr => exact .im sz xs A c ad us hc ha hS hz hcell hr
  | pi xs ad us hS hcell hr => exact .pi xs ad us hS hcell hr
  | ow e sz xs b o cap cs us ho hh hs hc hz hcell hr =>
    refine .ow e sz xs b o cap cs us (by have := hO b [] (by simpa using ho); simpa using this) hh hs hc hz hcell fun j row i x hj hi => (hr j row i x hj hi).names (fun _ => .inr (.inl rfl)) fun k q hk => ?_
    have := hO k ([j, i] ++ q) (by rw [← List.append_assoc]; exact hk)
    rw [List.append_assoc]; exact this
  | ow_nil e sz A => exact .ow_nil e sz A
  | own n sz off len b o cap h hl => exact .own _ sz off len b o cap ((hL n (by simpa [okr1] using hx)).trans h) hl
  | own_end n sz off b o cap a h hl => exact .own_end _ sz off b o cap a ((hL n (by simpa [okr1] using hx)).trans h) hl
  | own_nil n sz A h => exact .own_nil _ sz A ((hL n (by simpa [okr1] using hx)).trans h)
  | own_gone n sz off len u h h1 => exact .own_gone _ sz off len u ((hL n (by simpa [okr1] using hx)).trans h) h1
  | pb n sz j i b o cap h => exact .pb _ sz j i b o cap ((hL n (by simpa [okr1] using hx)).trans h)
  | pb_gone n sz j i u h h1 => exact .pb_gone _ sz j i u ((hL n (by simpa [okr1] using hx)).trans h) h1
  | mp n b h => exact .mp _ b ((hL n (by simpa [okr1] using hx)).trans h)
  | mp_gone n u h h1 => exact .mp_gone _ u ((hL n (by simpa [okr1] using hx)).trans h) h1
theorem Rep.fwd2 {ρ : Nat → Nat} {m : Nat} {Ow2 : Owners} {L2 : Names} (hL : ∀ n, n < m → L2 (ρ n) = L n) {x : AV} {p p' : Path} {u : Value} (hO : ∀ k q, Ow k = some (p ++ q) → Ow2 k = some (p' ++ q)) (hx : okr2 m x = true) (h : Rep w S Ow L p x u) : Rep w S Ow2 L2 p' (En.ren2 ρ x) u := by
  have ext : ∀ (m : Nat) (i : Nat) k q, Ow k = some (p ++ [m, i] ++ q) → Ow2 k = some (p' ++ [m, i] ++ q) := fun m i k q hk => by
    rw [List.append_assoc] at hk ⊢; exact hO k _ hk
  have at' : ∀ (xs : List AV) (i : Nat) (y : AV), xs.all (okr1 m) = true → (xs.map (En.ren1 ρ))[i]? = some y → ∃ x, okr1 m x = true ∧ xs[i]? = some x ∧ y = En.ren1 ρ x := fun xs i y ha hi => by
    rw [List.all_eq_true] at ha
    simp only [List.getElem?_map, Option.map_eq_some_iff] at hi
    obtain ⟨x, hx, rfl⟩ := hi
    exact ⟨x, ha x (List.mem_of_getElem? hx), hx, rfl⟩
  cases x with
  | ag xs =>
    simp only [okr2] at hx
    obtain ⟨us, rfl, hl, hr⟩ := h.ag_inv
    refine .ag _ us (by simpa using hl) fun i y u hi hu => ?_
    obtain ⟨x, h1, h2, rfl⟩ := at' xs i y hx hi
    exact (hr i x u h2 hu).fwd1 hL (ext 0 i) h1
  | tu xs => exact Rep.fwd1 (x := .tu xs) hL hO hx h
  | fn g xs => exact Rep.fwd1 (x := .fn g xs) hL hO hx h
  | v y => exact Rep.fwd1 (x := .v y) hL hO hx h
  | im sz xs => exact Rep.fwd1 (x := .im sz xs) hL hO hx h
  | ow e sz xs => exact Rep.fwd1 (x := .ow e sz xs) hL hO hx h
  | own n sz off len => exact Rep.fwd1 (x := .own n sz off len) hL hO hx h
  | pb n sz j i => exact Rep.fwd1 (x := .pb n sz j i) hL hO hx h
  | pi xs => exact Rep.fwd1 (x := .pi xs) hL hO hx h
  | mp n => exact Rep.fwd1 (x := .mp n) hL hO hx h
theorem Rep.fwd {ρ : Nat → Nat} {m : Nat} {Ow2 : Owners} {L2 : Names} (hL : ∀ n, n < m → L2 (ρ n) = L n) {x : AV} {p p' : Path} {u : Value} (hO : ∀ k q, Ow k = some (p ++ q) → Ow2 k = some (p' ++ q)) (hx : okr m x = true) (h : Rep w S Ow L p x u) : Rep w S Ow2 L2 p' (En.ren ρ x) u := by
  have ext : ∀ (m : Nat) (i : Nat) k q, Ow k = some (p ++ [m, i] ++ q) → Ow2 k = some (p' ++ [m, i] ++ q) := fun m i k q hk => by
    rw [List.append_assoc] at hk ⊢; exact hO k _ hk
  have at' : ∀ (xs : List AV) (i : Nat) (y : AV), xs.all (okr1 m) = true → (xs.map (En.ren1 ρ))[i]? = some y → ∃ x, okr1 m x = true ∧ xs[i]? = some x ∧ y = En.ren1 ρ x := fun xs i y ha hi => by
    rw [List.all_eq_true] at ha
    simp only [List.getElem?_map, Option.map_eq_some_iff] at hi
    obtain ⟨x, hx, rfl⟩ := hi
    exact ⟨x, ha x (List.mem_of_getElem? hx), hx, rfl⟩
  have at2 : ∀ (xs : List AV) (i : Nat) (y : AV), xs.all (okr2 m) = true → (xs.map (En.ren2 ρ))[i]? = some y → ∃ x, okr2 m x = true ∧ xs[i]? = some x ∧ y = En.ren2 ρ x := fun xs i y ha hi => by
    rw [List.all_eq_true] at ha
    simp only [List.getElem?_map, Option.map_eq_some_iff] at hi
    obtain ⟨x, hx, rfl⟩ := hi
    exact ⟨x, ha x (List.mem_of_getElem? hx), hx, rfl⟩
  cases x with
  | ag xs =>
    simp only [okr] at hx
    obtain ⟨us, rfl, hl, hr⟩ := h.ag_inv
    refine .ag _ us (by simpa using hl) fun i y u hi hu => ?_
    obtain ⟨x, h1, h2, rfl⟩ := at' xs i y hx hi
    exact (hr i x u h2 hu).fwd1 hL (ext 0 i) h1
  | tu xs =>
    simp only [okr] at hx
    obtain ⟨us, rfl, hl, hr⟩ := h.tu_inv
    refine .tu _ us (by simpa using hl) fun i y u hi hu => ?_
    obtain ⟨x, h1, h2, rfl⟩ := at2 xs i y hx hi
    exact (hr i x u h2 hu).fwd2 hL (ext 1 i) h1
  | fn g xs =>
    simp only [okr] at hx
    obtain ⟨us, rfl, hl, hr⟩ := h.fn_inv
    refine .fn g _ us (by simpa using hl) fun i y u hi hu => ?_
    obtain ⟨x, h1, h2, rfl⟩ := at' xs i y hx hi
    exact (hr i x u h2 hu).fwd1 hL (ext 2 i) h1
  | v y => exact Rep.fwd1 (x := .v y) hL hO hx h
  | im sz xs => exact Rep.fwd1 (x := .im sz xs) hL hO hx h
  | ow e sz xs => exact Rep.fwd1 (x := .ow e sz xs) hL hO hx h
  | own n sz off len => exact Rep.fwd1 (x := .own n sz off len) hL hO hx h
  | pb n sz j i => exact Rep.fwd1 (x := .pb n sz j i) hL hO hx h
  | pi xs => exact Rep.fwd1 (x := .pi xs) hL hO hx h
  | mp n => exact Rep.fwd1 (x := .mp n) hL hO hx h

/-! #### a function that writes rows it is lent -/
def a0 : Act := { tmps := #[], defers := [] }
def fixOf (k : Nat) (L : Names) : Nat → Option Loc := fun n => match L n with
  | .at loc => if n < k then some loc else none
  | _ => none
theorem fixOf_eq {k : Nat} {L : Names} {n : Nat} {loc : Loc} : fixOf k L n = some loc ↔ n < k ∧ L n = .at loc := by
  unfold fixOf
  cases e : L n <;> simp
def Fn (P : Program) (f : FuncId) (k : Nat) (args : List AV) (ins : List (Nat × Blk)) (r : AV) (m : Nat) (outs : List (Nat × Blk)) : Prop :=
  Ent P f ∧ ∀ (W : World) (X S : Nat → Prop) (Ow : Owners) (L : Names) (us : List Value), RelX ⟨W, X, S, ⟨0, k⟩, fixOf k L⟩ ⟨[], ins, k⟩ a0 W S Ow L →
    us.length = args.length → (∀ (i : Nat) (x : AV) (u : Value), args[i]? = some x → us[i]? = some u → Rep W S Ow L [0] x u) →
    Calls P f us.toArray W fun e w' => ∃ v, e = .returned v ∧ ∃ S' Ow' L', RelX ⟨W, X, S, ⟨0, k⟩, fixOf k L⟩ ⟨[], outs, m⟩ a0 w' S' Ow' L' ∧ Rep w' S' Ow' L' [0] r v
theorem RelX.slots (h : RelX C s a w S Ow L) {C' : Ctx} {a' : Act} {tm : List (Nat × AV)} (hW : C'.W = C.W) (hX : C'.X = C.X) (hS : C'.S = C.S) (hk : C'.nt.k = C.nt.k) (hf : C'.fix = C.fix)
    (hs : ∀ t x, lk tm t = some x → ∃ u, a'.tmps[t]? = some u ∧ Rep w S Ow L [0] x u) (hz : a'.tmps.size = C'.nt.n) (hd : a'.defers = []) : RelX C' ⟨tm, s.bl, s.nx⟩ a' w S Ow L := by
  obtain ⟨W, X, S0, nt, fx⟩ := C
  obtain ⟨W', X', S0', nt', fx'⟩ := C'
  dsimp only at hW hX hS hk hf hz
  subst hW hX hS hf
  exact { fix := fun n loc hn => by have := h.fix n loc hn; exact ⟨by rw [show nt'.k = nt.k from hk]; exact this.1, this.2⟩, keep := h.keep, inS := h.inS, upS := h.upS, ltS := h.ltS, owS := h.owS, ow := h.ow, ow0 := h.ow0, blk := h.blk, fresh := h.fresh, named := h.named, freshO := h.freshO, slot := hs, size := hz, defers := hd }
def OutF (P : Program) (rs : List ResultVar) (k : Nat) (r : AV) (m : Nat) (outs : List (Nat × Blk)) (e : Exit) (s : AS) : Prop :=
  (e = .normal ∨ e = .ret) ∧ ∃ s0 xs, ∃ ρ : Nat → Nat, Cov k s0 s ∧ rs.mapM (rval P s0) = some xs ∧ pack xs = ren ρ r ∧ okr m r = true ∧ ChkB ρ m s0.bl outs ∧ ∀ n, n < k → n < m ∧ ρ n = n
theorem OutF.mk {rs : List ResultVar} {k m : Nat} {r : AV} {outs : List (Nat × Blk)} {e : Exit} {xs : List AV} (ρ : Nat → Nat) (hx : rs.mapM (rval P s) = some xs) (hr : pack xs = ren ρ r) (hok : okr m r = true) (hb : ChkB ρ m s.bl outs) (hk : ∀ n, n < k → n < m ∧ ρ n = n) (he : e = .normal ∨ e = .ret) : OutF P rs k r m outs e s :=
  ⟨he, s, xs, ρ, Cov.refl _ _, hx, hr, hok, hb, hk⟩
theorem OutF.cov {rs : List ResultVar} {k m : Nat} {r : AV} {outs : List (Nat × Blk)} {e : Exit} (hc : Cov k s0 s) (h : OutF P rs k r m outs e s0) : OutF P rs k r m outs e s := by
  obtain ⟨he, s1, xs, ρ, h1, h2⟩ := h
  exact ⟨he, s1, xs, ρ, h1.trans hc, h2⟩
theorem Fn.mk {f : FuncId} {fn : Func} {c : Code} {args : List AV} {rs : List ResultVar} {r : AV} {nt k m : Nat} {ins outs : List (Nat × Blk)} (hf : P.funcs[f]? = some fn) (hn : (fn.name == "runtime.NumGoroutine") = false) (hb : fn.body = some c) (hr : fn.results = rs.toArray) (hnt : fn.ntmps = nt) (hle : args.length ≤ nt)
    (h : Holds P ⟨nt, k⟩ c (OutF P rs k r m outs) ⟨sl 0 args, ins, k⟩) : Fn P f k args ins r m outs := by
  subst hnt
  refine ⟨⟨fn, hf, hn, by rw [hb]; rfl⟩, fun W X S Ow L us hR0 hl hrep => calls_of_wp hf hb ?_⟩
  have hR : RelX ⟨W, X, S, ⟨fn.ntmps, k⟩, fixOf k L⟩ ⟨sl 0 args, ins, k⟩ { tmps := us.toArray ++ Array.replicate (fn.ntmps - us.toArray.size) undef, defers := [] } W S Ow L := by
    refine hR0.slots rfl rfl rfl rfl rfl (fun t x hx => ?_) ?_ rfl
    · obtain ⟨_, hx⟩ := lk_sl args 0 t x hx
      rw [Nat.sub_zero] at hx
      have hlt : t < us.length := by have := (List.getElem?_eq_some_iff.1 hx).1; omega
      have hu : us[t]? = some us[t] := List.getElem?_eq_getElem hlt
      refine ⟨us[t], ?_, hrep t x _ hx hu⟩
      rw [Array.getElem?_append_left (by simpa using hlt)]
      simp [hlt]
    · have hsz : us.toArray.size = args.length := by simpa using hl
      simp; omega
  refine wp_mono (h _ _ _ _ _ _ rfl hR) ?_
  rintro e a w ⟨s, S1, Ow1, L1, ⟨he, s0, xs, ρ, hc, hx, hpk, hok, hb, hk⟩, hR1⟩
  obtain ⟨S2, Ow2, L2, hR2⟩ := hc _ _ _ _ _ _ rfl hR1
  obtain ⟨v, hv, hrv⟩ := results_run hR2 fn hr hx
  rw [hpk] at hrv
  obtain ⟨S3, Ow3, L3, hR3, hval, _⟩ := covk (s0 := ⟨[], outs, m⟩) ρ (fun n hn => ⟨(hk n hn).1, fun _ => (hk n hn).2⟩) trivial hb rfl hR2
  have fin : a.defers = [] ∧ ∃ v, (results fn a.tmps).run P w = .ok v w ∧ ∃ v', Ending.returned v = .returned v' ∧ ∃ S' Ow' L', RelX ⟨W, X, S, ⟨0, k⟩, fixOf k L⟩ ⟨[], outs, m⟩ a0 w S' Ow' L' ∧ Rep w S' Ow' L' [0] r v' :=
    ⟨hR1.defers, v, hv, v, rfl, S3, Ow3, L3, hR3.slots rfl rfl rfl rfl rfl (fun t x hx => (by cases hx)) rfl rfl, hval r v hok hrv⟩
  rcases he with rfl | rfl
  · exact fin
  · exact fin
end
attribute [go_sem] niw
attribute [irreducible] OutF Fn
end Go.Proofs.Ytejpklajfcngbaa.En
end
section
namespace Go.Proofs.Ytejpklajfcngbaa.En
open Go.RowKit
set_option linter.unusedSimpArgs false
set_option linter.unusedVariables false
section
attribute [local semireducible] G Gq Holds GS Pure Out Fn OutF
variable {P : Program} {nt : NT} {Q : Exit → AS → Prop} {s s' s0 : AS} {ops : Array Oper} {K : AS → Prop} {i : Nat} {o : Oper} {l : List Oper} {C : Ctx} {a : Act} {w : World} {S : Nat → Prop} {Ow : Owners} {L : Names}

theorem BlkRep.ren {ρ : Nat → Nat} {nx n : Nat} {k k' : Blk} {loc : Loc} {Ow2 : Owners} {L2 : Names} (hB : BlkRep w S Ow L (ρ n) k' loc) (hc : BlkC ρ nx k k') (hL : ∀ n, n < nx → L2 n = L (ρ n) ∨ L2 n = .gone) (hO : ∀ b q, Ow b = some ((ρ n + 1) :: q) → Ow2 b = some ((n + 1) :: q)) : BlkRep w S Ow2 L2 n k loc := by
  obtain ⟨hxs, hok⟩ := hc.all
  cases loc with
  | none =>
    have hB : k'.xs = [] := hB
    show k.xs = []
    rw [hxs] at hB
    simpa using hB
  | some p =>
    obtain ⟨h1, cs, us, h2, h3, h4, h5, h6, h7⟩ := hB
    rw [hc.2.1] at h3 h5 h6
    have get : ∀ (j : Nat) (row : List AV), k.xs[j]? = some row → k'.xs[j]? = some (row.map (En.ren ρ)) := fun j row hj => by rw [hxs]; simp [hj]
    refine ⟨hO _ [] h1, cs, us, by rw [← hc.1, show k.xs.length = k'.xs.length by rw [hxs, List.length_map]]; exact h2, h3, by rw [hxs, List.length_map] at h4; exact h4, fun j row hj => ?_, fun j row i x hj hi => h6 j _ i (En.ren ρ x) (get j row hj) (by simp [hi]), fun j row i x hj hi => ?_⟩
    · have := h5 j _ (get j row hj); simpa using this
    · exact (h7 j _ i (En.ren ρ x) (get j row hj) (by simp [hi])).ren hL (fun k2 q hk2 => hO k2 _ hk2) (hok row (List.mem_of_getElem? hj) x (List.mem_of_getElem? hi))
theorem BlkRep.fwd {ρ : Nat → Nat} {m n : Nat} {k k' : Blk} {loc : Loc} {Ow2 : Owners} {L2 : Names} (hB : BlkRep w S Ow L n k loc) (hc : BlkC ρ m k k') (hL : ∀ n, n < m → L2 (ρ n) = L n) (hO : ∀ b q, Ow b = some ((n + 1) :: q) → Ow2 b = some ((ρ n + 1) :: q)) : BlkRep w S Ow2 L2 (ρ n) k' loc := by
  obtain ⟨hxs, hok⟩ := hc.all
  cases loc with
  | none =>
    have hB : k.xs = [] := hB
    show k'.xs = []
    rw [hxs, hB]; rfl
  | some p =>
    obtain ⟨h1, cs, us, h2, h3, h4, h5, h6, h7⟩ := hB
    have get : ∀ (j : Nat) (row' : List AV), k'.xs[j]? = some row' → ∃ row, k.xs[j]? = some row ∧ row' = row.map (En.ren ρ) := fun j row' hj => by
      rw [hxs] at hj
      simp only [List.getElem?_map, Option.map_eq_some_iff] at hj
      obtain ⟨row, hr, rfl⟩ := hj
      exact ⟨row, hr, rfl⟩
    refine ⟨hO _ [] h1, cs, us, by rw [hc.1, show k'.xs.length = k.xs.length by rw [hxs, List.length_map]]; exact h2, by rw [hc.2.1]; exact h3, by rw [hxs, List.length_map]; exact h4, fun j row' hj => ?_, fun j row' i x' hj hi => ?_, fun j row' i x' hj hi => ?_⟩
    · obtain ⟨row, hr, rfl⟩ := get j row' hj
      rw [hc.2.1, List.length_map]; exact h5 j row hr
    · obtain ⟨row, hr, rfl⟩ := get j row' hj
      simp only [List.getElem?_map, Option.map_eq_some_iff] at hi
      obtain ⟨x, hx, rfl⟩ := hi
      rw [hc.2.1]; exact h6 j row i x hr hx
    · obtain ⟨row, hr, rfl⟩ := get j row' hj
      simp only [List.getElem?_map, Option.map_eq_some_iff] at hi
      obtain ⟨x, hx, rfl⟩ := hi
      exact (h7 j row i x hr hx).fwd hL (fun k2 q hk2 => hO k2 _ hk2) (hok row (List.mem_of_getElem? hr) x (List.mem_of_getElem? hx))
inductive RenB (ρ : Nat → Nat) (m : Nat) : List (Nat × Blk) → List (Nat × Blk) → Prop
  | nil : RenB ρ m [] []
  | cons {n : Nat} {k k' : Blk} {r r' : List (Nat × Blk)} (h : BlkC ρ m k k') (hr : RenB ρ m r r') : RenB ρ m ((n, k) :: r) ((ρ n, k') :: r')
theorem RenB.nf {ρ : Nat → Nat} {m n : Nat} {k : Blk} {r r' : List (Nat × Blk)} (h : ∀ row ∈ k.xs, ∀ x ∈ row, En.nf x = true) (hr : RenB ρ m r r') : RenB ρ m ((n, k) :: r) ((ρ n, k) :: r') := .cons ⟨rfl, rfl, .inl ⟨rfl, h⟩⟩ hr
theorem RenB.rn {ρ : Nat → Nat} {m n : Nat} {e : TypeId} {sz : Nat} {xs : List (List AV)} {r r' : List (Nat × Blk)} (h : ∀ row ∈ xs, ∀ x ∈ row, okr m x = true) (hr : RenB ρ m r r') : RenB ρ m ((n, ⟨e, sz, xs⟩) :: r) ((ρ n, ⟨e, sz, xs.map (List.map (En.ren ρ))⟩) :: r') := .cons ⟨rfl, rfl, .inr ⟨rfl, h⟩⟩ hr
theorem RenB.get {ρ : Nat → Nat} {m : Nat} {bl bl' : List (Nat × Blk)} (h : RenB ρ m bl bl') (hm : bl.all (fun p => decide (p.1 < m)) = true) (hi : ∀ i j, i < m → j < m → ρ i = ρ j → i = j) {n : Nat} {k' : Blk} (hn : lb bl' n = some k') : ∃ i k, i < m ∧ ρ i = n ∧ lb bl i = some k ∧ BlkC ρ m k k' := by
  induction h with
  | nil => simp [lb] at hn
  | cons hc hr ih =>
    rename_i n0 k0 k0' r r'
    simp only [List.all_cons, Bool.and_eq_true, decide_eq_true_eq] at hm
    simp only [lb] at hn
    split at hn
    · rename_i e
      cases hn
      exact ⟨n0, k0, hm.1, e, by simp [lb], hc⟩
    · rename_i e
      obtain ⟨i, k, h1, h2, h3, h4⟩ := ih hm.2 hn
      refine ⟨i, k, h1, h2, ?_, h4⟩
      have : n0 ≠ i := fun g => e (by rw [g, h2])
      simp [lb, this, h3]
theorem lb_append (x y : List (Nat × Blk)) (n : Nat) : lb (x ++ y) n = match lb x n with | some k => some k | none => lb y n := by
  induction x with
  | nil => simp [lb]
  | cons h r ih =>
    obtain ⟨k, b⟩ := h
    simp only [List.cons_append, lb]
    split
    · rfl
    · exact ih
def aft (s : AS) (k : Nat) (ρ : Nat → Nat) (m : Nat) (bl' : List (Nat × Blk)) : AS := ⟨s.tm, bl' ++ s.bl.filter (fun p => !((List.range k).any fun i => ρ i == p.1)), s.nx + (m - k)⟩
def nme (k nx : Nat) (ρ : Nat → Nat) : Nat → Nat := fun n => if n < k then ρ n else nx + (n - k)

theorem fn_wp {Q : Exit → Act → World → Prop} {K : Act → World → Prop} {c : Operand} {aas : Array Operand} {ts : Array TypeId} {f : FuncId} {xs cap args : List AV} {k m : Nat} {ins outs bl' : List (Nat × Blk)} {r : AV} (ρ : Nat → Nat) (ho : ops[i]? = some o) (hg : gd ops s o = some true) (hop : o.op = .call ⟨.value c, aas, ts⟩) (hd : okd nt.n o.dst = true)
    (hc : ev s c = some (.fn f cap)) (he : aas.toList.mapM (ev s) = some xs) (hargs : xs ++ cap = args.map (En.ren ρ)) (hok : args.all (okr k) = true) (hins : (List.range k).all (fun n => (lb ins n).isSome) = true) (hb : ChkB ρ k s.bl ins) (hkm : k ≤ m) (hom : outs.all (fun p => decide (p.1 < m)) = true)
    (hp : Fn P f k args ins r m outs) (hr : okr m r = true) (hren : RenB (nme k s.nx ρ) m outs bl') (hn : C.nt = nt) (hR : RelX C s a w S Ow L) (hK : ∀ a' w' S' Ow' L', RelX C (put (aft s k ρ m bl') o.dst (En.ren (nme k s.nx ρ) r)) a' w' S' Ow' L' → K a' w') : wpOp P ops Q i K a w := by
  subst hn
  unfold wpOp
  simp only [ho]
  rw [gd_sound hR hg]
  simp only [if_true]
  left
  have hcr := ev_rep hR hc
  obtain ⟨us0, e, hl0, hr0⟩ := hcr.fn_inv
  unfold Oper.wp
  rw [exec_call hop e hp.1]
  -- what is lent
  have hin : ∀ n, n < k → ∃ kk, lb ins n = some kk := fun n hn => by
    rw [List.all_eq_true] at hins
    have := hins n (List.mem_range.2 hn)
    exact Option.isSome_iff_exists.1 this
  have row : ∀ n kk, lb ins n = some kk → n < k ∧ ∃ k', lb s.bl (ρ n) = some k' ∧ BlkC ρ k kk k' := fun n kk hn => hb.get _ (lb_mem hn)
  have inj : ∀ n n', n < k → n' < k → ρ n = ρ n' → n = n' := fun n n' h1 h2 e => by
    obtain ⟨k1, g1⟩ := hin n h1
    obtain ⟨k2, g2⟩ := hin n' h2
    exact hb.inj _ (lb_mem g1) _ (lb_mem g2) e
  have at' : ∀ n, n < k → ∃ loc, L (ρ n) = .at loc := fun n hn => by
    obtain ⟨kk, g⟩ := hin n hn
    obtain ⟨_, k', hk', _⟩ := row n kk g
    obtain ⟨loc, hl, _⟩ := hR.blk _ _ hk'
    exact ⟨loc, hl⟩
  have lt' : ∀ n, n < k → ρ n < s.nx := fun n hn => by
    obtain ⟨loc, hl⟩ := at' n hn
    rcases Nat.lt_or_ge (ρ n) s.nx with g | g
    · exact g
    · rw [hR.fresh _ g] at hl; cases hl
  classical
  let idx : Nat → Option Nat := fun n => if h : ∃ i, i < k ∧ ρ i = n then some (Classical.choose h) else none
  have idx1 : ∀ n, n < k → idx (ρ n) = some n := fun n hn => by
    have g : ∃ i, i < k ∧ ρ i = ρ n := ⟨n, hn, rfl⟩
    simp only [idx, dif_pos g]
    obtain ⟨h1, h2⟩ := Classical.choose_spec g
    exact congrArg some (inj _ _ h1 hn h2)
  have idx2 : ∀ n j, idx n = some j → j < k ∧ ρ j = n := fun n j hj => by
    simp only [idx] at hj
    split at hj
    · rename_i g; cases hj; exact Classical.choose_spec g
    · cases hj
  let Owc : Owners := fun b => (Ow b).bind fun p => match p with
    | (n + 1) :: q => (idx n).map fun j => (j + 1) :: q
    | _ => none
  have F1 : ∀ b n q, n < k → Ow b = some ((ρ n + 1) :: q) → Owc b = some ((n + 1) :: q) := fun b n q hn hb => by simp [Owc, hb, idx1 n hn]
  have F2 : ∀ b p, Owc b = some p → ∃ n q, n < k ∧ p = (n + 1) :: q ∧ Ow b = some ((ρ n + 1) :: q) := fun b p hb => by
    simp only [Owc, Option.bind_eq_some_iff] at hb
    obtain ⟨p0, h0, h1⟩ := hb
    split at h1
    · simp only [Option.map_eq_some_iff] at h1
      obtain ⟨j, hj, rfl⟩ := h1
      obtain ⟨g1, g2⟩ := idx2 _ _ hj
      exact ⟨j, _, g1, rfl, by rw [g2]; exact h0⟩
    · cases h1
  let Lc : Names := fun n => if n < k then L (ρ n) else .free
  have hLc : ∀ n, n < k → Lc n = L (ρ n) ∨ Lc n = .gone := fun n hn => .inl (by simp only [Lc, if_pos hn])
  let X : Nat → Prop := fun b => Owc b ≠ none
  have hE : RelX ⟨w, X, S, ⟨0, k⟩, fixOf k Lc⟩ ⟨[], ins, k⟩ a0 w S Owc Lc := by
    refine { fix := fun n loc hn => ?_, keep := Keep.refl _ _, inS := fun _ h => h, upS := fun _ h => .inl h, ltS := hR.ltS, owS := fun b hb => ?_, ow := fun b p hb => ?_, ow0 := fun b q hb => ?_, blk := fun n kk hn => ?_, fresh := fun n hn => ?_, named := fun n hn => ?_, freshO := fun b n q hb => ?_, slot := fun t x hx => (by cases hx), size := rfl, defers := rfl }
    · cases e : Owc b with
      | none => rfl
      | some p => obtain ⟨n, q, _, _, h3⟩ := F2 b p e; rw [hR.owS b hb] at h3; cases h3
    · obtain ⟨n, q, _, _, h3⟩ := F2 b p hb
      exact ⟨.inr (by simp only [X]; rw [hb]; simp), (hR.ow b _ h3).2⟩
    · obtain ⟨n, q', _, h2, _⟩ := F2 b _ hb; cases h2
    · obtain ⟨hnk, k', hk', hcc⟩ := row n kk hn
      obtain ⟨loc, hl, hB⟩ := hR.blk _ _ hk'
      exact ⟨loc, by simp only [Lc, if_pos hnk]; exact hl, hB.ren hcc hLc (fun b q hb => F1 b n q hnk hb)⟩
    · have : ¬ n < k := Nat.not_lt.2 hn
      simp only [Lc, if_neg this]
    · have hn : n < k := hn
      obtain ⟨loc, hl⟩ := at' n hn
      simp only [Lc, if_pos hn, hl]; simp
    · obtain ⟨n', q', h1, h2, _⟩ := F2 b _ hb
      cases h2; exact h1
    · have := fixOf_eq.1 hn
      exact ⟨this.1, .inl this.2⟩
  have hxl : xs.length = aas.toList.length := mapM_some_length he
  have hrep : ∀ (j : Nat) (y : AV) (u : Value), args[j]? = some y → (aas.toList.map a.eval ++ us0)[j]? = some u → Rep w S Owc Lc [0] y u := fun j y u hy hu => by
    have hoky : okr k y = true := by rw [List.all_eq_true] at hok; exact hok y (List.mem_of_getElem? hy)
    have hx : (xs ++ cap)[j]? = some (En.ren ρ y) := by rw [hargs]; simp [hy]
    have key : Rep w S Ow L [0] (En.ren ρ y) u := by
      by_cases hi : j < xs.length
      · rw [List.getElem?_append_left hi] at hx
        rw [List.getElem?_append_left (by simp only [List.length_map]; omega)] at hu
        simp only [List.getElem?_map, Option.map_eq_some_iff] at hu
        obtain ⟨op, hop, rfl⟩ := hu
        have := mapM_some_get he j op hop
        rw [hx] at this
        exact ev_rep hR this
      · rw [List.getElem?_append_right (by omega)] at hx
        rw [List.getElem?_append_right (by simp only [List.length_map]; omega)] at hu
        have e2 : (aas.toList.map a.eval).length = xs.length := by simp only [List.length_map]; omega
        rw [e2] at hu
        exact (hr0 _ _ u hx hu).names (fun _ => .inr (.inl rfl)) (fun b q hq => absurd hq (hR.ow0 b _))
    exact key.ren hLc (fun b q hq => absurd hq (hR.ow0 b q)) hoky
  have hlen : (aas.toList.map a.eval ++ us0).length = args.length := by
    have : (xs ++ cap).length = args.length := by rw [hargs]; simp
    simp only [List.length_append, List.length_map] at this ⊢
    omega
  refine Calls.mono (hp.2 w X S Owc Lc _ hE hlen hrep) fun e' w' => ?_
  rintro ⟨v, rfl, S', Ow', L', hX, hv⟩
  -- behind the call
  have hXb : ∀ b, X b → ∃ p, Ow b = some p := fun b hb => by
    cases e : Owc b with
    | none => exact absurd e hb
    | some p => obtain ⟨n, q, _, _, h3⟩ := F2 b p e; exact ⟨_, h3⟩
  have hXC : ∀ b, X b → C.W.heap.size ≤ b ∨ C.X b := fun b hb => by obtain ⟨p, hp⟩ := hXb b hb; exact (hR.ow b p hp).1
  let ρ' := nme k s.nx ρ
  have r1 : ∀ n, n < k → ρ' n = ρ n := fun n hn => by simp only [ρ', nme, if_pos hn]
  have r2 : ∀ n, k ≤ n → ρ' n = s.nx + (n - k) := fun n hn => by simp only [ρ', nme, if_neg (Nat.not_lt.2 hn)]
  have inj' : ∀ i j, i < m → j < m → ρ' i = ρ' j → i = j := fun i j _ _ e => by
    rcases Nat.lt_or_ge i k with g | g <;> rcases Nat.lt_or_ge j k with g' | g'
    · rw [r1 i g, r1 j g'] at e; exact inj _ _ g g' e
    · rw [r1 i g, r2 j g'] at e; have := lt' i g; omega
    · rw [r2 i g, r1 j g'] at e; have := lt' j g'; omega
    · rw [r2 i g, r2 j g'] at e; omega
  let L2 : Names := fun n => match idx n with
    | some j => L' j
    | none => if s.nx ≤ n ∧ n < s.nx + (m - k) then L' (n - s.nx + k) else L n
  have idxhi : ∀ n, s.nx ≤ n → idx n = none := fun n hn => by
    cases e : idx n with
    | none => rfl
    | some j => obtain ⟨h1, h2⟩ := idx2 n j e; have := lt' j h1; omega
  have L2r : ∀ n, n < m → L2 (ρ' n) = L' n := fun n hn => by
    rcases Nat.lt_or_ge n k with g | g
    · rw [r1 n g]; simp only [L2, idx1 n g]
    · rw [r2 n g]
      simp only [L2, idxhi _ (Nat.le_add_right _ _)]
      rw [if_pos ⟨by omega, by omega⟩]
      congr 1; omega
  have L2o : ∀ n, idx n = none → n < s.nx → L2 n = L n := fun n hi hn => by
    simp only [L2, hi]
    rw [if_neg (by omega)]
  have L2n : ∀ n, L n = .free ∨ L2 n = L n ∨ L2 n = .gone := fun n => by
    rcases Nat.lt_or_ge n s.nx with g | g
    · cases e : idx n with
      | none => exact .inr (.inl (L2o n e g))
      | some j =>
        obtain ⟨h1, h2⟩ := idx2 n j e
        obtain ⟨loc, hl⟩ := at' j h1
        have hf : fixOf k Lc j = some loc := fixOf_eq.2 ⟨h1, by simp only [Lc, if_pos h1]; exact hl⟩
        rcases (hX.fix j loc hf).2 with g | g
        · right; left
          simp only [L2, e]
          rw [g, ← h2, hl]
        · right; right
          simp only [L2, e]
          exact g
    · exact .inl (hR.fresh n g)
  let Ow2 : Owners := fun b => match Ow' b with
    | some ((n + 1) :: q) => some ((ρ' n + 1) :: q)
    | _ => if S' b ∨ X b then none else Ow b
  have O1 : ∀ b n q, Ow' b = some ((n + 1) :: q) → Ow2 b = some ((ρ' n + 1) :: q) := fun b n q hb => by simp only [Ow2, hb]
  have O2 : ∀ b p, Ow2 b = some p → (∃ n q, Ow' b = some ((n + 1) :: q) ∧ p = (ρ' n + 1) :: q) ∨ (¬ S' b ∧ ¬ X b ∧ Ow b = some p) := fun b p hb => by
    simp only [Ow2] at hb
    split at hb
    · rename_i n q e; cases hb; exact .inl ⟨n, q, e, rfl⟩
    · split at hb
      · cases hb
      · rename_i g; exact .inr ⟨fun h => g (.inl h), fun h => g (.inr h), hb⟩
  have notS' : ∀ b p, Ow b = some p → ¬ X b → ¬ S' b := fun b p hb hx hs => by
    rcases hX.upS b hs with g | g | g
    · have g : S b := g
      rw [hR.owS b g] at hb; cases hb
    · have g : w.heap.size ≤ b := g
      have := (hR.ow b p hb).2; omega
    · exact hx g
  have O3 : ∀ b p, Ow b = some p → ¬ X b → Ow2 b = some p := fun b p hb hx => by
    have hn : Ow' b = none := by
      cases e : Ow' b with
      | none => rfl
      | some p' =>
        rcases (hX.ow b p' e).1 with g | g
        · have g : w.heap.size ≤ b := g
          have := (hR.ow b p hb).2; omega
        · exact absurd g hx
    simp only [Ow2, hn]
    rw [if_neg (fun h => h.elim (notS' b p hb hx) hx)]
    exact hb
  have nX : ∀ b n q, Ow b = some ((n + 1) :: q) → idx n = none → ¬ X b := fun b n q hb hi hx => by
    simp only [X, Owc, hb, Option.bind_some, hi, Option.map_none] at hx
    exact hx rfl
  have old : ∀ b, b < w.heap.size → ¬ X b → w'.heap[b]? = w.heap[b]? := fun b hb hx => hX.keep.block b hb hx
  have oldS : ∀ b, S b → w'.heap[b]? = w.heap[b]? := fun b hb => old b (hR.ltS b hb) fun hx => by obtain ⟨p, hp⟩ := hXb b hx; rw [hR.owS b hb] at hp; cases hp
  have inS' : ∀ b, S b → S' b := fun b hb => hX.inS b hb
  have hsize : w.heap.size ≤ w'.heap.size := hX.keep.size
  have hlow : C.W.heap.size ≤ w.heap.size := hR.keep.size
  have hbl : ∀ n kk, lb (aft s k ρ m bl').bl n = some kk → (∃ j k0, j < m ∧ ρ' j = n ∧ lb outs j = some k0 ∧ BlkC ρ' m k0 kk) ∨ (idx n = none ∧ lb s.bl n = some kk) := fun n kk hn => by
    simp only [aft, lb_append] at hn
    split at hn
    · rename_i k1 e
      cases hn
      obtain ⟨j, k0, h1, h2, h3, h4⟩ := hren.get hom inj' e
      exact .inl ⟨j, k0, h1, h2, h3, h4⟩
    · rw [lb_filter s.bl (fun n => !((List.range k).any fun i => ρ i == n))] at hn
      split at hn
      · rename_i g
        refine .inr ⟨?_, hn⟩
        cases e : idx n with
        | none => rfl
        | some j =>
          obtain ⟨h1, h2⟩ := idx2 n j e
          have : ((List.range k).any fun i => ρ i == n) = true := List.any_eq_true.2 ⟨j, List.mem_range.2 h1, by simp [h2]⟩
          rw [this] at g; simp at g
      · cases hn
  have hR2 : RelX C (aft s k ρ m bl') a w' S' Ow2 L2 := by
    refine { fix := fix_of hR.fix L2n, keep := ⟨hX.keep.os.trans hR.keep.os, hX.keep.tape.trans hR.keep.tape, hX.keep.output.trans hR.keep.output, Nat.le_trans hlow hsize, fun b hb hx => ?_, Nat.le_trans hR.keep.drawn hX.keep.drawn⟩, inS := fun b hb => inS' b (hR.inS b hb), upS := fun b hb => ?_, ltS := hX.ltS, owS := fun b hb => ?_, ow := fun b p hb => ?_, ow0 := fun b q hb => ?_, blk := fun n kk hn => ?_, fresh := fun n hn => ?_, named := fun n hn => ?_, freshO := fun b n q hb => ?_, slot := fun t x hx => ?_, size := hR.size, defers := hR.defers }
    · have h1 : ¬ X b := fun hxb => by
        rcases hXC b hxb with g | g
        · omega
        · exact hx g
      exact (old b (by omega) h1).trans (hR.keep.block b hb hx)
    · rcases hX.upS b hb with g | g | g
      · exact hR.upS b g
      · have g : w.heap.size ≤ b := g
        exact .inr (.inl (by omega))
      · exact .inr (hXC b g)
    · have hn : Ow' b = none := hX.owS b hb
      simp only [Ow2, hn]
      rw [if_pos (.inl hb)]
    · rcases O2 b p hb with ⟨n, q, h1, rfl⟩ | ⟨_, _, h3⟩
      · obtain ⟨g1, g2⟩ := hX.ow b _ h1
        refine ⟨?_, g2⟩
        rcases g1 with g | g
        · have g : w.heap.size ≤ b := g
          exact .inl (by omega)
        · exact hXC b g
      · exact ⟨(hR.ow b p h3).1, by have := (hR.ow b p h3).2; omega⟩
    · rcases O2 b _ hb with ⟨n, q', h1, e⟩ | ⟨_, _, h3⟩
      · cases e
      · exact hR.ow0 b q h3
    · rcases hbl n kk hn with ⟨j, k0, h1, rfl, h3, h4⟩ | ⟨hi, h3⟩
      · obtain ⟨loc, hl, hB⟩ := hX.blk j k0 h3
        exact ⟨loc, by rw [L2r j h1]; exact hl, hB.fwd h4 L2r (fun b q hb => O1 b j q hb)⟩
      · obtain ⟨loc, hl, hB⟩ := hR.blk n kk h3
        have hnx : n < s.nx := by
          rcases Nat.lt_or_ge n s.nx with g | g
          · exact g
          · rw [hR.fresh n g] at hl; cases hl
        refine ⟨loc, by rw [L2o n hi hnx]; exact hl, ?_⟩
        have hB1 := hB.world hsize oldS (fun b q hb => old b (hR.ow b _ hb).2 (nX b n q hb hi))
        have hB2 : BlkRep w' S' Ow L n kk loc := by
          cases loc with
          | none => exact hB1
          | some p =>
            obtain ⟨h1, cs, us, h2, h3, h4, h5, h6, h7⟩ := hB1
            exact ⟨h1, cs, us, h2, h3, h4, h5, h6, fun j row i x hj hi => (h7 j row i x hj hi).world (Nat.le_refl _) inS' (fun _ _ => rfl) (fun _ _ _ => rfl)⟩
        exact hB2.names L2n (fun b q hb => O3 b _ hb (nX b n q hb hi))
    · have hn' : s.nx + (m - k) ≤ n := hn
      simp only [L2, idxhi n (by omega)]
      rw [if_neg (by omega)]
      exact hR.fresh n (by omega)
    · have hn' : n < s.nx + (m - k) := hn
      cases e : idx n with
      | some j =>
        obtain ⟨h1, _⟩ := idx2 n j e
        simp only [L2, e]
        exact hX.named j (show j < m by omega)
      | none =>
        rcases Nat.lt_or_ge n s.nx with g | g
        · rw [L2o n e g]; exact hR.named n g
        · simp only [L2, e]
          rw [if_pos ⟨g, hn'⟩]
          exact hX.named _ (show n - s.nx + k < m by omega)
    · show n ≤ s.nx + (m - k)
      rcases O2 b _ hb with ⟨n', q', h1, e⟩ | ⟨_, _, h3⟩
      · cases e
        have : n' + 1 ≤ m := hX.freshO b _ _ h1
        rcases Nat.lt_or_ge n' k with g | g
        · rw [r1 n' g]; have := lt' n' g; omega
        · rw [r2 n' g]; omega
      · have := hR.freshO b _ _ h3; omega
    · obtain ⟨u, hu, hRp⟩ := hR.slot t x hx
      exact ⟨u, hu, ((hRp.world hsize inS' oldS (fun b q hb => absurd hb (hR.ow0 b q))).names L2n (fun b q hb => absurd hb (hR.ow0 b q)))⟩
  have hv2 : Rep w' S' Ow2 L2 [0] (En.ren ρ' r) v := hv.fwd L2r (fun b q hb => absurd hb (hX.ow0 b q)) hr
  exact hK _ _ _ _ _ (hR2.put o.dst hd hv2)
theorem GS.fn {c : Operand} {aas : Array Operand} {ts : Array TypeId} {f : FuncId} {xs cap args : List AV} {k m : Nat} {ins outs bl' : List (Nat × Blk)} {r : AV} (ρ : Nat → Nat) (hp : Fn P f k args ins r m outs) (hop : o.op = .call ⟨.value c, aas, ts⟩) (hg : gd ops s o = some true) (hd : okd nt.n o.dst = true)
    (hc : ev s c = some (.fn f cap)) (he : aas.toList.mapM (ev s) = some xs) (hargs : xs ++ cap = args.map (En.ren ρ)) (hok : args.all (okr k) = true) (hins : (List.range k).all (fun n => (lb ins n).isSome) = true) (hb : ChkB ρ k s.bl ins) (hkm : k ≤ m) (hom : outs.all (fun p => decide (p.1 < m)) = true)
    (hr : okr m r = true) (hren : RenB (nme k s.nx ρ) m outs bl') (h : GS P nt ops K l (i + 1) (put (aft s k ρ m bl') o.dst (En.ren (nme k s.nx ρ) r))) : GS P nt ops K (o :: l) i s :=
  GS.cons (fun ho r' hr' => fun C a w S Ow L Q hn hR hQ => by
    rw [wpOps_cons]
    exact fn_wp ρ ho hg hop hd hc he hargs hok hins hb hkm hom hp hr hren hn hR fun a' w' S' Ow' L' hR' => hr' C _ _ _ _ _ Q hn hR' hQ) h
end
attribute [go_sem] aft nme
end Go.Proofs.Ytejpklajfcngbaa.En
end
section
namespace Go.Proofs.Ytejpklajfcngbaa.En
open Go.RowKit
set_option linter.unusedSimpArgs false
set_option linter.unusedVariables false
section
variable {P : Program} {nt : NT} {s s' : AS} {o : Oper}
/-! #### an operation looks at slots through its operands alone -/
def wtm (tm : List (Nat × AV)) (r : AV × AS) : AV × AS := (r.1, ⟨tm, r.2.bl, r.2.nx⟩)
variable {tm : List (Nat × AV)}
abbrev sw (tm : List (Nat × AV)) (s : AS) : AS := ⟨tm, s.bl, s.nx⟩
theorem ok1_sw {x : AV} : ok1 (sw tm s) x = ok1 s x := by cases x <;> rfl
theorem ok1_sw' : ok1 (sw tm s) = ok1 s := funext fun _ => ok1_sw
theorem aload_sw {t : TypeId} {x : Operand} (h : ev (sw tm s) x = ev s x) : aload P (sw tm s) t x = (aload P s t x).map (wtm tm) := by
  unfold aload loadOne
  rw [h]
  generalize ev s x = y
  generalize ti P t = k
  cases y with
  | none => rfl
  | some y =>
    cases k with
    | none => cases y <;> rfl
    | some k =>
      cases y with
      | pb n sz j i =>
        dsimp only [sw]
        generalize lb s.bl n = b
        cases b with
        | none => rfl
        | some b =>
          dsimp only
          by_cases hz : b.sz = sz
          · rw [if_pos hz, if_pos hz]
            generalize b.xs[j]? = row
            cases row with
            | none => rfl
            | some row =>
              dsimp only
              by_cases hk : k.agg = true
              · rw [if_pos hk, if_pos hk]
                by_cases hc : ((row.drop i).take k.sz).all flat = true ∧ i + k.sz ≤ sz
                · rw [if_pos hc, if_pos hc]; rfl
                · rw [if_neg hc, if_neg hc]; rfl
              · rw [if_neg hk, if_neg hk]
                generalize row[i]? = z
                cases z with
                | none => rfl
                | some z =>
                  cases z <;> first
                    | rfl
                    | (dsimp only; split <;> rfl)
          · rw [if_neg hz, if_neg hz]; rfl
      | pi xs =>
        dsimp only
        by_cases hk : k.agg = true
        · rw [if_pos hk, if_pos hk]
          by_cases hc : k.sz ≤ xs.length
          · rw [if_pos hc, if_pos hc]; rfl
          · rw [if_neg hc, if_neg hc]; rfl
        · rw [if_neg hk, if_neg hk]
          cases xs[0]? <;> rfl
      | _ => rfl
theorem astore_sw {t : TypeId} {p x : Operand} (h : ev (sw tm s) p = ev s p) (h' : ev (sw tm s) x = ev s x) : astore P (sw tm s) t p x = (astore P s t p x).map (fun s' => ⟨tm, s'.bl, s'.nx⟩) := by
  unfold astore
  rw [h, h', ok1_sw']
  generalize ev s p = y
  generalize ev s x = z
  generalize ti P t = k
  cases y with
  | none => rfl
  | some y =>
    cases z with
    | none => cases y <;> rfl
    | some z =>
      cases k with
      | none => cases y <;> rfl
      | some k =>
        cases y with
        | pb n sz j i =>
          dsimp only [sw]
          generalize lb s.bl n = b
          cases b with
          | none => rfl
          | some b =>
            dsimp only
            by_cases hc : b.sz = sz ∧ (cel z).length = k.sz ∧ (cel z).all (ok1 s) = true ∧ i + k.sz ≤ sz
            · rw [if_pos hc, if_pos hc]
              cases b.xs[j]? <;> rfl
            · rw [if_neg hc, if_neg hc]; rfl
        | _ => rfl
theorem aalloc_sw {t : TypeId} : aalloc P (sw tm s) t = (aalloc P s t).map (wtm tm) := by
  unfold aalloc
  repeat' split
  all_goals rfl
theorem abox_sw {t : TypeId} {x : Operand} (h : ev (sw tm s) x = ev s x) : abox (sw tm s) t x = (abox s t x).map (wtm tm) := by
  unfold abox
  rw [h, ok1_sw']
  repeat' split
  all_goals rfl
theorem fillA_sw (place : Nat → Option (Nat × Nat)) : ∀ (parts : List (Nat × Operand)) (zs : List AV), (∀ p ∈ parts, ev (sw tm s) p.2 = ev s p.2) → fillA place (sw tm s) zs parts = fillA place s zs parts
  | [], zs, _ => rfl
  | (i, x) :: r, zs, h => by
    unfold fillA
    have e : ∀ zs, fillA place (sw tm s) zs r = fillA place s zs r := fun zs => fillA_sw place r zs fun p hp => h p (.tail _ hp)
    rw [h (i, x) (.head _), ok1_sw']
    simp only [e]
theorem abuild_sw {t : TypeId} {parts : Array (Nat × Operand)} (h : ∀ p ∈ parts.toList, ev (sw tm s) p.2 = ev s p.2) : abuild P (sw tm s) t parts = (abuild P s t parts).map (wtm tm) := by
  unfold abuild
  repeat' split
  all_goals first
    | rfl
    | (rw [fillA_sw _ _ _ h]; simp only [Option.map_map]; rfl)
theorem abuildSlice_sw {t : TypeId} {n : Nat} {parts : Array (Nat × Operand)} (h : ∀ p ∈ parts.toList, ev (sw tm s) p.2 = ev s p.2) : abuildSlice P (sw tm s) t n parts = (abuildSlice P s t n parts).map (wtm tm) := by
  unfold abuildSlice
  repeat' split
  all_goals first
    | rfl
    | (rw [fillA_sw _ _ _ h]; simp only [Option.map_map]; rfl)
theorem amake_sw {t : TypeId} {l c : Operand} (h : ev (sw tm s) l = ev s l) (h' : ev (sw tm s) c = ev s c) : amake P (sw tm s) t l c = (amake P s t l c).map (wtm tm) := by
  unfold amake
  rw [h, h']
  repeat' split
  all_goals rfl
theorem bnd_sw {x : Option Operand} {d : Nat} (h : ∀ y, x = some y → ev (sw tm s) y = ev s y) : bnd (sw tm s) x d = bnd s x d := by
  unfold bnd
  cases x with
  | none => rfl
  | some y => simp only [h y rfl]
theorem aslice_sw {t : TypeId} {x : Operand} {lo hi : Option Operand} (h : ev (sw tm s) x = ev s x) (h1 : ∀ y, lo = some y → ev (sw tm s) y = ev s y) (h2 : ∀ y, hi = some y → ev (sw tm s) y = ev s y) : aslice P (sw tm s) t x lo hi = aslice P s t x lo hi := by
  unfold aslice
  rw [h]
  simp only [bnd_sw h1, bnd_sw h2]
theorem aappend_sw {x y : Operand} {t tx : TypeId} (h : ev (sw tm s) x = ev s x) (h' : ev (sw tm s) y = ev s y) : aappend P (sw tm s) x y t tx = (aappend P s x y t tx).map (wtm tm) := by
  have e1 : srcRows (sw tm s) y = srcRows s y := by unfold srcRows; rw [h']
  have e2 : ∀ n, srcSz (sw tm s) y n = srcSz s y n := fun n => by unfold srcSz; rw [h']
  unfold aappend
  rw [h, e1]
  simp only [e2]
  repeat' split
  all_goals rfl
theorem put_parts {d : Option Nat} {x : AV} : (put s d x).bl = s.bl ∧ (put s d x).nx = s.nx := by cases d <;> exact ⟨rfl, rfl⟩
theorem some_map {α β : Type} {f : α → β} {x : Option α} {y : β} (h : x.map f = some y) : ∃ a, x = some a ∧ f a = y := by cases x <;> simp_all
theorem astore_tm {t : TypeId} {p x : Operand} (h : astore P s t p x = some s') : s'.tm = s.tm := by
  unfold astore at h
  repeat' split at h
  all_goals first
    | (cases h; done)
    | (simp only [Option.map_eq_some_iff] at h; obtain ⟨_, _, rfl⟩ := h; rfl)
theorem pair_tm {f : Option (AV × AS)} {v : AV} (h : f = some (v, s')) (hf : f = f.map (wtm tm)) : s'.tm = tm := by
  rw [h] at hf
  simp only [Option.map_some, wtm, Option.some.injEq, Prod.mk.injEq, true_and] at hf
  rw [hf]
theorem astep_sw (h : ∀ y ∈ o.op.operands, ev (sw tm s) y = ev s y) (ha : astep P nt s o = some s') : ∃ r, s' = put ⟨s.tm, s'.bl, s'.nx⟩ o.dst r ∧ astep P nt (sw tm s) o = some (put ⟨tm, s'.bl, s'.nx⟩ o.dst r) := by
  have self : sw s.tm s = s := rfl
  have pr : ∀ {f g : Option (AV × AS)}, f = f.map (wtm s.tm) → g = f.map (wtm tm) → f.map (fun r => put r.2 o.dst r.1) = some s' → ∃ r, s' = put ⟨s.tm, s'.bl, s'.nx⟩ o.dst r ∧ g.map (fun r => put r.2 o.dst r.1) = some (put ⟨tm, s'.bl, s'.nx⟩ o.dst r) := fun {f g} h1 h2 h3 => by
    obtain ⟨⟨v, s1⟩, hf, rfl⟩ := some_map h3
    have ht : s1.tm = s.tm := pair_tm hf h1
    obtain ⟨h4, h5⟩ := put_parts (s := s1) (d := o.dst) (x := v)
    refine ⟨v, ?_, ?_⟩
    · dsimp only at h4 h5 ⊢; rw [h4, h5, ← ht]
    · rw [h2, hf]
      simp only [Option.map_some, wtm, Option.some.injEq]
      rw [h4, h5]
  unfold astep at ha ⊢
  split at ha
  case isFalse => cases ha
  rename_i hd
  rw [if_pos hd]
  split at ha
  · rename_i t p hop
    simp only [hop] at h ⊢
    have e : ev (sw tm s) p = ev s p := h p (by simp [Op.operands])
    exact pr (aload_sw (s := s) (tm := s.tm) rfl) (aload_sw e) ha
  · rename_i t p x hop
    simp only [hop] at h ⊢
    have e : ev (sw tm s) p = ev s p := h p (by simp [Op.operands])
    have e' : ev (sw tm s) x = ev s x := h x (by simp [Op.operands])
    obtain ⟨s1, hs, rfl⟩ := some_map ha
    have ht := astore_tm hs
    obtain ⟨h4, h5⟩ := put_parts (s := s1) (d := o.dst) (x := .tu [])
    refine ⟨.tu [], by rw [h4, h5, ← ht], ?_⟩
    rw [astore_sw e e', hs, h4, h5]; rfl
  · rename_i t hop
    simp only [hop] at h ⊢
    exact pr (aalloc_sw (s := s) (tm := s.tm)) aalloc_sw ha
  · rename_i t x hop
    simp only [hop] at h ⊢
    exact pr (abox_sw (s := s) (tm := s.tm) rfl) (abox_sw (h x (by simp [Op.operands]))) ha
  · rename_i t ps hop
    simp only [hop] at h ⊢
    exact pr (abuild_sw (s := s) (tm := s.tm) fun _ _ => rfl) (abuild_sw fun p hp => h p.2 (by simp only [Op.operands]; simp only [List.mem_toArray, List.mem_map]; exact ⟨p, hp, rfl⟩)) ha
  · rename_i t n ps hop
    simp only [hop] at h ⊢
    exact pr (abuildSlice_sw (s := s) (tm := s.tm) fun _ _ => rfl) (abuildSlice_sw fun p hp => h p.2 (by simp only [Op.operands]; simp only [List.mem_toArray, List.mem_map]; exact ⟨p, hp, rfl⟩)) ha
  · rename_i t l c hop
    simp only [hop] at h ⊢
    exact pr (amake_sw (s := s) (tm := s.tm) rfl rfl) (amake_sw (h l (by simp [Op.operands])) (h c (by simp [Op.operands]))) ha
  · rename_i t x lo hi hop
    simp only [hop] at h ⊢
    obtain ⟨v, hv, rfl⟩ := some_map ha
    obtain ⟨h4, h5⟩ := put_parts (s := s) (d := o.dst) (x := v)
    refine ⟨v, by rw [h4, h5], ?_⟩
    rw [aslice_sw (h x (by simp [Op.operands])) (fun y hy => h y (by simp [Op.operands, hy])) (fun y hy => h y (by simp [Op.operands, hy])), hv, h4, h5]; rfl
  · rename_i aas ts hop
    simp only [hop] at h ⊢
    split at ha
    · rename_i x y t tx has hts
      have ea : aas = #[x, y] := by rw [← Array.toArray_toList (xs := aas), has]
      have et : ts = #[t, tx] := by rw [← Array.toArray_toList (xs := ts), hts]
      subst ea et
      exact pr (aappend_sw (s := s) (tm := s.tm) rfl rfl) (aappend_sw (h x (by simp [Op.operands, Call.operands])) (h y (by simp [Op.operands, Call.operands]))) ha
    · cases ha
  · rename_i hne1 hne2 hne3 hne4 hne5 hne6 hne7 hne8 hne9
    obtain ⟨v, hv, rfl⟩ := some_map ha
    obtain ⟨h4, h5⟩ := put_parts (s := s) (d := o.dst) (x := v)
    refine ⟨v, by rw [h4, h5], ?_⟩
    have e := aval_congr (P := P) (s := s) (s' := sw tm s) h rfl
    rw [hv] at e
    rw [e, h4, h5]; rfl
end
end Go.Proofs.Ytejpklajfcngbaa.En
end
section
namespace Go.Proofs.Ytejpklajfcngbaa.En
open Go.RowKit
set_option linter.unusedSimpArgs false
set_option linter.unusedVariables false
section
attribute [local semireducible] G Gq Holds GS Pure Out Fn OutF
variable {P : Program} {nt : NT} {Q : Exit → AS → Prop} {s s' s1 s2 t : AS} {ops : Array Oper} {K : AS → Prop} {i : Nat} {o : Oper} {l : List Oper} {C : Ctx} {a : Act} {w : World} {S : Nat → Prop} {Ow : Owners} {L : Names} {md : Region.Mode} {M : Nat → Bool}

def hide (M : Nat → Bool) (s : AS) : AS := ⟨s.tm, s.bl.filter fun p => !M p.1, s.nx⟩
theorem RelX.hide (h : RelX C s a w S Ow L) (M : Nat → Bool) : RelX C (En.hide M s) a w S Ow L :=
  { fix := h.fix, keep := h.keep, inS := h.inS, upS := h.upS, ltS := h.ltS, owS := h.owS, ow := h.ow, ow0 := h.ow0, fresh := h.fresh, named := h.named, freshO := h.freshO, slot := h.slot, size := h.size, defers := h.defers, blk := fun n k hn => by
      rw [show (En.hide M s).bl = s.bl.filter fun p => !M p.1 from rfl, lb_filter s.bl (fun n => !M n)] at hn
      split at hn
      · exact h.blk n k hn
      · cases hn }
theorem calm_wp {s0 : AS} {Q : Exit → Act → World → Prop} {K : Act → World → Prop} {r : AV} (h : RelX C s0 a w S Ow L) (hn : C.nt = nt) (ho : ops[i]? = some o) (hs : Step1 P nt ops s0 o r)
    (hK : ∀ u w' S', BelowD w.heap.size w w' → (∀ k, S k → S' k) → (∀ k, S' k → k < w'.heap.size ∧ (S k ∨ w.heap.size ≤ k)) → Rep w' S' Ow L [0] r u → K (a.put o.dst u) w') : wpOp P ops Q i K a w := by
  subst hn
  have same : ∀ {u}, Rep w S Ow L [0] r u → K (a.put o.dst u) w := fun hu => hK _ w S (BelowD.refl _ w) (fun _ h => h) (fun k hk => ⟨h.ltS k hk, .inl hk⟩) hu
  unfold wpOp
  simp only [ho]
  rcases hs.g with ⟨hg, rfl⟩ | ⟨hg, hc⟩
  · rw [gd_sound h hg]
    exact same (.tu [] [] rfl fun i x u hx hu => by simp at hx)
  · rw [gd_sound h hg]
    simp only [if_true]
    left
    unfold Oper.wp
    cases hc with
    | look hq =>
      unfold qval at hq
      split at hq
      · rename_i t p hop
        obtain ⟨ad, u, e, hr, hu⟩ := qload_sound h hq
        have hrun : (execOp a.eval o).run P w = .ok (.value u) w := by
          unfold execOp
          simp [hop, Instr.loadAt, e, Instr.sureAddr, hr]
        rw [hrun]
        exact same hu
      · rename_i t x lo hi hop
        obtain ⟨u, hr, hu⟩ := aslice_sound h hop hq
        rw [hr]
        exact same hu
      · obtain ⟨u, hr, hu⟩ := aval_sound (w := w) h hq
        rw [hr w]
        exact same hu
    | call hop hc he hf hp hd =>
      have hcr := ev_rep h hc
      obtain ⟨us, e, _⟩ := hcr.fn_inv
      rw [e] at hcr
      obtain ⟨hl, hrep⟩ := args_rep h he hcr hf
      rw [exec_call hop e hp.1]
      refine Calls.mono (hp.2 w (lent S Ow) _ (lent_lt h) hl hrep) fun e' w' => ?_
      rintro ⟨v, rfl, hb, S', _, _, hv⟩
      exact hK _ w' S hb (fun _ h => h) (fun k hk => ⟨Nat.lt_of_lt_of_le (h.ltS k hk) hb.size, .inl hk⟩) (hv.dry hd)
    | callC hop hc he hcl hp =>
      have hcr := ev_rep h hc
      obtain ⟨us, e, _⟩ := hcr.fn_inv
      rw [e] at hcr
      obtain ⟨hl, hrep⟩ := args_cl h he hcr hcl
      rw [exec_call hop e hp.1]
      refine Calls.mono (hp.2 w S _ h.ltS hl hrep) fun e' w' => ?_
      rintro ⟨v, rfl, hb, S', h1, h2, hv⟩
      exact hK _ w' S' hb h1 h2 hv.any
    | @eqS t x y t' n xs ys hop ht hx hy hlx hly hr =>
      subst hr
      have ex := (ev_rep h hx).nums
      have ey := (ev_rep h hy).nums
      have hrun : (execOp a.eval o).run P w = .ok (.value (.bool (decide (xs = ys)))) w := by
        unfold execOp
        simp only [hop, ex, ey, Sem.run_bind, run_eqGuard_agg w _ _ _ _ _ _ ht.g, Result.andThen_ok, run_eql_struct, ht.e _ _ w hlx hly, Sem.run_pure]
      rw [hrun]
      exact same (.v _ rfl)
    | @neS t x y t' n xs ys hop ht hx hy hlx hly hr =>
      subst hr
      have ex := (ev_rep h hx).nums
      have ey := (ev_rep h hy).nums
      have hrun : (execOp a.eval o).run P w = .ok (.value (.bool (!decide (xs = ys)))) w := by
        unfold execOp
        simp only [hop, ex, ey, Sem.run_bind, run_eqGuard_agg w _ _ _ _ _ _ ht.g, Result.andThen_ok, run_neq_struct, ht.e _ _ w hlx hly, Sem.run_pure]
      rw [hrun]
      exact same (.v _ rfl)
    | @neB t x y t' n xs ys hop ht hx hy hlx hly hr =>
      subst hr
      have ex := (ev_rep h hx).boolA
      have ey := (ev_rep h hy).boolA
      have hrun : (execOp a.eval o).run P w = .ok (.value (.bool (!decide (xs = ys)))) w := by
        unfold execOp
        simp only [hop, ex, ey, Sem.run_bind, run_eqGuard_agg w _ _ _ _ _ _ ht.g, Result.andThen_ok, run_neq_struct, ht.e _ _ w hlx hly, Sem.run_pure]
      rw [hrun]
      exact same (.v _ rfl)
    | val h1 hr hv =>
      subst hr
      rw [hv s0 (fun _ _ => rfl) rfl o C a w S Ow L rfl h]
      exact same (.v _ h1)

theorem hid_all (x y : List (Nat × Blk)) : x.filter (fun p => !((fun _ => true : Nat → Bool) p.1)) = y.filter (fun p => !((fun _ => true : Nat → Bool) p.1)) := by
  rw [List.filter_eq_nil_iff.2 (by simp), List.filter_eq_nil_iff.2 (by simp)]
structure Wr (P : Program) (nt : NT) (ops : Array Oper) (M : Nat → Bool) (s : AS) (o : Oper) (r : AV) (bl' : List (Nat × Blk)) (nx' : Nat) : Prop where
  hid : bl'.filter (fun p => !M p.1) = s.bl.filter fun p => !M p.1
  run : ∀ (tm' : List (Nat × AV)), (∀ t ∈ o.looksAt ops, lk tm' t = lk s.tm t) → ∀ (C : Ctx) (a : Act) (w : World) (S : Nat → Prop) (Ow : Owners) (L : Names) (i : Nat) (Q : Exit → Act → World → Prop) (K : Act → World → Prop), C.nt = nt → ops[i]? = some o → RelX C ⟨tm', s.bl, s.nx⟩ a w S Ow L →
    (∀ a' w' S' Ow' L', RelX C (put ⟨tm', bl', nx'⟩ o.dst r) a' w' S' Ow' L' → K a' w') → wpOp P ops Q i K a w
structure Cs (P : Program) (nt : NT) (ops : Array Oper) (s : AS) (o : Oper) (r : AV) : Prop where
  run : ∀ (tm' : List (Nat × AV)) (bl : List (Nat × Blk)) (nx : Nat), (∀ t ∈ o.looksAt ops, lk tm' t = lk s.tm t) → ∀ (C : Ctx) (a : Act) (w : World) (S : Nat → Prop) (Ow : Owners) (L : Names) (i : Nat) (Q : Exit → Act → World → Prop) (K : Act → World → Prop), C.nt = nt → ops[i]? = some o → RelX C ⟨tm', bl, nx⟩ a w S Ow L →
    (∀ a' w' S' Ow' L', RelX C (put ⟨tm', bl, nx⟩ o.dst r) a' w' S' Ow' L' → K a' w') → wpOp P ops Q i K a w
inductive Kd3 | f | h | w | o | c
def okP : Kd3 → Kd3 → Bool
  | .o, _ => false
  | _, .o => false
  | .c, _ => true
  | _, .c => true
  | .w, .h => true
  | .h, .w => true
  | .w, _ => false
  | _, .w => false
  | _, _ => true
def kind (ws hs : List Nat) (i : Nat) : Kd3 := if ws.contains (1000 + i) then .o else if ws.contains i then .w else if hs.contains i then .h else if hs.contains (2000 + i) then .c else .f
def xS (P : Program) (nt : NT) (ops : Array Oper) (M : Nat → Bool) (k : Kd3) (o : Oper) (s s' : AS) : Prop :=
  match k with
  | .f => ∃ r, Step1 P nt ops s o r ∧ s' = put s o.dst r
  | .h => ∃ r, Step1 P nt ops (hide M s) o r ∧ s' = put s o.dst r
  | .w => ∃ r bl' nx', Wr P nt ops M s o r bl' nx' ∧ s' = put ⟨s.tm, bl', nx'⟩ o.dst r
  | .o => ∃ r bl' nx', Wr P nt ops (fun _ => true) s o r bl' nx' ∧ s' = put ⟨s.tm, bl', nx'⟩ o.dst r
  | .c => ∃ r, Cs P nt ops s o r ∧ s' = put s o.dst r
theorem xS_wp {k : Kd3} {Q : Exit → Act → World → Prop} {K : Act → World → Prop} (h : RelX C s a w S Ow L) (hn : C.nt = nt) (ho : ops[i]? = some o) (hx : xS P nt ops M k o s s') (hK : ∀ a' w' S' Ow' L', RelX C s' a' w' S' Ow' L' → K a' w') : wpOp P ops Q i K a w := by
  cases k with
  | f =>
    obtain ⟨r, hs, rfl⟩ := hx
    exact step1_wp h hn ho hs fun u w' S' Ow' L' hR => hK _ _ _ _ _ hR
  | h =>
    obtain ⟨r, hs, rfl⟩ := hx
    exact calm_wp (h.hide M) hn ho hs fun u w' S' hb h1 h2 hu => hK _ _ _ _ _ ((h.more hb h1 h2).put o.dst (by rw [hn]; exact hs.d) hu)
  | w =>
    obtain ⟨r, bl', nx', hw, rfl⟩ := hx
    exact hw.run s.tm (fun _ _ => rfl) C a w S Ow L i Q K hn ho h hK
  | o =>
    obtain ⟨r, bl', nx', hw, rfl⟩ := hx
    exact hw.run s.tm (fun _ _ => rfl) C a w S Ow L i Q K hn ho h hK
  | c =>
    obtain ⟨r, hw, rfl⟩ := hx
    exact hw.run s.tm s.bl s.nx (fun _ _ => rfl) C a w S Ow L i Q K hn ho h hK
theorem Cs.tm {r : AV} {s1 : AS} (h : Cs P nt ops s o r) (ht : ∀ t ∈ o.looksAt ops, lk s1.tm t = lk s.tm t) : Cs P nt ops s1 o r :=
  ⟨fun tm' bl nx h' C a w S Ow L i Q K hn ho hR hK => h.run tm' bl nx (fun t hm => (h' t hm).trans (ht t hm)) C a w S Ow L i Q K hn ho hR hK⟩
theorem Eqv.hide (e : Eqv s s') : Eqv (En.hide M s) (En.hide M s') := ⟨e.1, by simp only [En.hide, e.2.1], e.2.2⟩
theorem Wr.tm {r : AV} {bl' : List (Nat × Blk)} {nx' : Nat} {s1 : AS} (h : Wr P nt ops M s o r bl' nx') (ht : ∀ t ∈ o.looksAt ops, lk s1.tm t = lk s.tm t) (hb : s1.bl = s.bl) (hx : s1.nx = s.nx) : Wr P nt ops M s1 o r bl' nx' :=
  ⟨by rw [hb]; exact h.hid, fun tm' h' C a w S Ow L i Q K hn ho hR hK => h.run tm' (fun t hm => (h' t hm).trans (ht t hm)) C a w S Ow L i Q K hn ho (by rw [hb, hx] at hR; exact hR) hK⟩
theorem xS.eqv {k : Kd3} (e : Eqv s t) (hx : xS P nt ops M k o s s') : ∃ t', Eqv s' t' ∧ xS P nt ops M k o t t' := by
  cases k with
  | f => obtain ⟨r, hs, rfl⟩ := hx; exact ⟨_, e.put _ _, r, hs.eqv e, rfl⟩
  | h => obtain ⟨r, hs, rfl⟩ := hx; exact ⟨_, e.put _ _, r, hs.eqv e.hide, rfl⟩
  | w =>
    obtain ⟨r, bl', nx', hw, rfl⟩ := hx
    refine ⟨_, ?_, r, bl', nx', hw.tm (fun t _ => (e.1 t).symm) e.2.1.symm e.2.2.symm, rfl⟩
    exact Eqv.put (⟨e.1, rfl, rfl⟩ : Eqv ⟨s.tm, bl', nx'⟩ ⟨t.tm, bl', nx'⟩) _ _
  | o =>
    obtain ⟨r, bl', nx', hw, rfl⟩ := hx
    refine ⟨_, ?_, r, bl', nx', hw.tm (fun t _ => (e.1 t).symm) e.2.1.symm e.2.2.symm, rfl⟩
    exact Eqv.put (⟨e.1, rfl, rfl⟩ : Eqv ⟨s.tm, bl', nx'⟩ ⟨t.tm, bl', nx'⟩) _ _
  | c => obtain ⟨r, hs, rfl⟩ := hx; exact ⟨_, e.put _ _, r, hs.tm (fun t _ => (e.1 t).symm), rfl⟩
theorem hide_put {d : Option Nat} {x : AV} : hide M (put s d x) = put (hide M s) d x := by cases d <;> rfl
theorem put_tm' {d : Option Nat} {x : AV} {bl : List (Nat × Blk)} {nx : Nat} : (⟨(put s d x).tm, bl, nx⟩ : AS) = put ⟨s.tm, bl, nx⟩ d x := by cases d <;> rfl
theorem put_same {d : Option Nat} {x : AV} : (put s d x).bl = s.bl ∧ (put s d x).nx = s.nx := by cases d <;> exact ⟨rfl, rfl⟩

theorem xS.comm {ki kj : Kd3} {oi oj : Oper} (hk : okP ki kj = true) (a1 : ∀ d, oi.dst = some d → d ∉ oj.looksAt ops) (a2 : ∀ d, oi.dst = some d → oj.dst ≠ some d) (a3 : ∀ d, oj.dst = some d → d ∉ oi.looksAt ops)
    (h1 : xS P nt ops M ki oi s s1) (h2 : xS P nt ops M kj oj s1 s2) : ∃ t s2', xS P nt ops M kj oj s t ∧ xS P nt ops M ki oi t s2' ∧ Eqv s2 s2' := by
  have lk1 : ∀ {s0 : AS} {x : AV} {t : Nat}, t ∈ oj.looksAt ops → lk (put s0 oi.dst x).tm t = lk s0.tm t := fun {s0 x t} ht => put_lk fun e => a1 t e ht
  have lk3 : ∀ {s0 : AS} {x : AV} {t : Nat}, t ∈ oi.looksAt ops → lk (put s0 oj.dst x).tm t = lk s0.tm t := fun {s0 x t} ht => put_lk fun e => a3 t e ht
  cases ki with
  | o => cases hk
  | c =>
    obtain ⟨r, hs, rfl⟩ := h1
    cases kj with
    | o => cases hk
    | f => obtain ⟨r', hs', rfl⟩ := h2; exact ⟨_, _, ⟨r', hs'.unput a1, rfl⟩, ⟨r, hs.tm (fun t ht => lk3 ht), rfl⟩, put_comm _ _ _ a2⟩
    | h =>
      obtain ⟨r', hs', rfl⟩ := h2
      rw [hide_put] at hs'
      exact ⟨_, _, ⟨r', hs'.unput a1, rfl⟩, ⟨r, hs.tm (fun t ht => lk3 ht), rfl⟩, put_comm _ _ _ a2⟩
    | c => obtain ⟨r', hs', rfl⟩ := h2; exact ⟨_, _, ⟨r', hs'.tm (fun t ht => (lk1 ht).symm), rfl⟩, ⟨r, hs.tm (fun t ht => lk3 ht), rfl⟩, put_comm _ _ _ a2⟩
    | w =>
      obtain ⟨r', bl', nx', hw, rfl⟩ := h2
      have hw' : Wr P nt ops M s oj r' bl' nx' := hw.tm (fun t ht => (lk1 ht).symm) put_same.1.symm put_same.2.symm
      refine ⟨_, _, ⟨r', bl', nx', hw', rfl⟩, ⟨r, hs.tm (fun t ht => (lk3 (s0 := ⟨s.tm, bl', nx'⟩) ht)), rfl⟩, ?_⟩
      rw [put_tm']
      exact put_comm _ _ _ a2
  | w =>
    cases kj with
    | o => cases hk
    | f => cases hk
    | w => cases hk
    | c =>
      obtain ⟨r, bl', nx', hw, rfl⟩ := h1
      obtain ⟨r', hs, rfl⟩ := h2
      refine ⟨_, _, ⟨r', hs.tm (fun t ht => (lk1 (s0 := ⟨s.tm, bl', nx'⟩) ht).symm), rfl⟩, ⟨r, bl', nx', hw.tm (fun t ht => lk3 ht) put_same.1 put_same.2, rfl⟩, ?_⟩
      rw [put_tm']
      exact put_comm _ _ _ a2
    | h =>
    obtain ⟨r, bl', nx', hw, rfl⟩ := h1
    obtain ⟨r', hs, rfl⟩ := h2
    rw [hide_put] at hs
    have hs := hs.unput a1
    have e : hide M ⟨s.tm, bl', nx'⟩ = ⟨s.tm, s.bl.filter fun p => !M p.1, nx'⟩ := by simp only [hide]; rw [hw.hid]
    rw [e] at hs
    have hs' : Step1 P nt ops (hide M s) oj r' := Step1.congr (s := ⟨s.tm, s.bl.filter fun p => !M p.1, nx'⟩) (fun y _ => by cases y <;> rfl) (fun _ _ _ _ _ => rfl) rfl hs
    refine ⟨_, _, ⟨r', hs', rfl⟩, ⟨r, bl', nx', hw.tm (fun t ht => lk3 ht) put_same.1 put_same.2, rfl⟩, ?_⟩
    rw [put_tm']
    exact put_comm _ _ _ a2
  | f =>
    obtain ⟨r, hs, rfl⟩ := h1
    cases kj with
    | w => cases hk
    | o => cases hk
    | c => obtain ⟨r', hs', rfl⟩ := h2; exact ⟨_, _, ⟨r', hs'.tm (fun t ht => (lk1 ht).symm), rfl⟩, ⟨r, hs.put a3, rfl⟩, put_comm _ _ _ a2⟩
    | f =>
      obtain ⟨r', hs', rfl⟩ := h2
      exact ⟨_, _, ⟨r', hs'.unput a1, rfl⟩, ⟨r, hs.put a3, rfl⟩, put_comm _ _ _ a2⟩
    | h =>
      obtain ⟨r', hs', rfl⟩ := h2
      rw [hide_put] at hs'
      exact ⟨_, _, ⟨r', hs'.unput a1, rfl⟩, ⟨r, hs.put a3, rfl⟩, put_comm _ _ _ a2⟩
  | h =>
    obtain ⟨r, hs, rfl⟩ := h1
    cases kj with
    | f =>
      obtain ⟨r', hs', rfl⟩ := h2
      exact ⟨_, _, ⟨r', hs'.unput a1, rfl⟩, ⟨r, by rw [hide_put]; exact hs.put a3, rfl⟩, put_comm _ _ _ a2⟩
    | h =>
      obtain ⟨r', hs', rfl⟩ := h2
      rw [hide_put] at hs'
      exact ⟨_, _, ⟨r', hs'.unput a1, rfl⟩, ⟨r, by rw [hide_put]; exact hs.put a3, rfl⟩, put_comm _ _ _ a2⟩
    | o => cases hk
    | c => obtain ⟨r', hs', rfl⟩ := h2; exact ⟨_, _, ⟨r', hs'.tm (fun t ht => (lk1 ht).symm), rfl⟩, ⟨r, by rw [hide_put]; exact hs.put a3, rfl⟩, put_comm _ _ _ a2⟩
    | w =>
      obtain ⟨r', bl', nx', hw, rfl⟩ := h2
      have hw' : Wr P nt ops M s oj r' bl' nx' := hw.tm (fun t ht => (lk1 ht).symm) put_same.1.symm put_same.2.symm
      refine ⟨_, _, ⟨r', bl', nx', hw', rfl⟩, ⟨r, ?_, rfl⟩, ?_⟩
      · rw [hide_put]
        refine Step1.put ?_ a3
        have e : hide M ⟨s.tm, bl', nx'⟩ = ⟨s.tm, s.bl.filter fun p => !M p.1, nx'⟩ := by simp only [hide]; rw [hw'.hid]
        rw [e]
        exact Step1.congr (s := hide M s) (fun y _ => by cases y <;> rfl) (fun _ _ _ _ _ => rfl) rfl hs
      · rw [put_tm']
        exact put_comm _ _ _ a2

def AnyX (P : Program) (nt : NT) (md : Region.Mode) (ops : Array Oper) (ws hs : List Nat) (M : Nat → Bool) (K : AS → Prop) : Nat → Array Bool → AS → Prop
  | 0, listed, s => Region.ready md ops listed = [] ∧ K s
  | fuel + 1, listed, s => (Region.ready md ops listed = [] → K s) ∧ ∀ i ∈ Region.ready md ops listed, ∃ o s', ops[i]? = some o ∧ xS P nt ops M (kind ws hs i) o s s' ∧ AnyX P nt md ops ws hs M K fuel (listed.setIfInBounds i true) s'
variable {ws hs : List Nat}
theorem AnyX.eqv (hK : ∀ s s', Eqv s s' → K s → K s') : ∀ (fuel : Nat) (listed : Array Bool) (s s' : AS), Eqv s s' → AnyX P nt md ops ws hs M K fuel listed s → AnyX P nt md ops ws hs M K fuel listed s'
  | 0, _, s, s', e, h => ⟨h.1, hK s s' e h.2⟩
  | fuel + 1, _, s, s', e, h => ⟨fun h0 => hK s s' e (h.1 h0), fun i hi => by
      obtain ⟨o, s1, ho, hx, hk⟩ := h.2 i hi
      obtain ⟨t', e', hx'⟩ := hx.eqv e
      exact ⟨o, t', ho, hx', AnyX.eqv hK fuel _ _ _ e' hk⟩⟩
theorem wpAny_of_anyX {Q : Exit → Act → World → Prop} (hQ : ∀ s a w S Ow L, K s → RelX C s a w S Ow L → Q .normal a w) (hn : C.nt = nt) : ∀ (fuel : Nat) (listed : Array Bool) (s : AS) (a : Act) (w : World) (S : Nat → Prop) (Ow : Owners) (L : Names), RelX C s a w S Ow L → AnyX P nt md ops ws hs M K fuel listed s → wpAny P md ops Q fuel listed a w
  | 0, _, s, a, w, S, Ow, L, hR, h => ⟨h.1, hQ s a w S Ow L h.2 hR⟩
  | fuel + 1, _, s, a, w, S, Ow, L, hR, h => ⟨fun h0 => hQ s a w S Ow L (h.1 h0) hR, fun i hi => by
      obtain ⟨o, s1, ho, hx, hk⟩ := h.2 i hi
      exact xS_wp hR hn ho hx fun a' w' S' Ow' L' hR' => wpAny_of_anyX hQ hn fuel _ _ _ _ _ _ _ hR' hk⟩

def DC (md : Region.Mode) (ops : Array Oper) (listed : Array Bool) : Prop := ∀ j o, ops[j]? = some o → listed.getD j false = true → ∀ e ∈ o.after, Region.binds md e = true → listed.getD e.on false = true
theorem DC.set {listed : Array Bool} {j : Nat} (h : DC md ops listed) (hj : j ∈ Region.ready md ops listed) : DC md ops (listed.setIfInBounds j true) := by
  intro k o ho hk e he hb
  by_cases hjk : j = k
  · subst hjk
    obtain ⟨_, o', ho', hall⟩ := mem_ready.1 hj
    rw [ho] at ho'; cases ho'
    exact getD_set_true (hall e he hb)
  · rw [getD_set_ne false hjk] at hk
    exact getD_set_true (h k o ho hk e he hb)
def depB (md : Region.Mode) (ops : Array Oper) : Nat → Nat → Nat → Bool
  | 0, _, _ => false
  | f + 1, i, j => match ops[j]? with
    | none => false
    | some o => (o.after.toList.any fun e => Region.binds md e && e.on == i) || (o.after.toList.any fun e => Region.binds md e && depB md ops f i e.on)
theorem dep_not {listed : Array Bool} (hdc : DC md ops listed) (hi : listed.getD i false = false) : ∀ (f j : Nat), depB md ops f i j = true → listed.getD j false = false ∧ j ∉ Region.ready md ops listed := by
  intro f
  induction f with
  | zero => intro j h; cases h
  | succ f ih =>
    intro j h
    simp only [depB] at h
    split at h
    · cases h
    · rename_i o ho
      have key : ∃ e ∈ o.after, Region.binds md e = true ∧ listed.getD e.on false = false := by
        simp only [Bool.or_eq_true, List.any_eq_true, Bool.and_eq_true, beq_iff_eq] at h
        rcases h with ⟨e, he, hb, h⟩ | ⟨e, he, hb, h⟩
        · exact ⟨e, by simpa using he, hb, by rw [h]; exact hi⟩
        · exact ⟨e, by simpa using he, hb, (ih _ h).1⟩
      obtain ⟨e, he, hb, hl⟩ := key
      refine ⟨?_, fun hr => ?_⟩
      · cases g : listed.getD j false with
        | false => rfl
        | true => rw [hdc j o ho g e he hb] at hl; cases hl
      · obtain ⟨_, o', ho', hall⟩ := mem_ready.1 hr
        rw [ho] at ho'; cases ho'
        rw [hall e he hb] at hl; cases hl
def kapI (md : Region.Mode) (ops : Array Oper) (ws hs : List Nat) (i : Nat) : Bool :=
  (List.range ops.size).all fun j => i == j || okP (kind ws hs i) (kind ws hs j) || depB md ops ops.size i j || depB md ops ops.size j i
def kapB (md : Region.Mode) (ops : Array Oper) (ws hs : List Nat) : Bool := (List.range ops.size).all fun i => kapI md ops ws hs i
theorem ready_un {j : Nat} {listed : Array Bool} (h : j ∈ Region.ready md ops listed) : listed.getD j false = false := by
  obtain ⟨h0, _⟩ := mem_ready.1 h
  rcases Nat.lt_or_ge j listed.size with h' | h'
  · simp [h'] at h0 ⊢; exact h0
  · simp [Array.getElem?_eq_none h']
theorem anyX_firstI (hK : ∀ s s', Eqv s s' → K s → K s') {i : Nat} (hkap : kapI md ops ws hs i = true) {oi : Oper} (hi : ops[i]? = some oi) :
    ∀ (fuel : Nat) (listed : Array Bool) (s s1 : AS), DC md ops listed →
      (∀ j oj, ops[j]? = some oj → j ≠ i → listed.getD j true = false → (∀ e ∈ oj.after, Region.binds md e = true → e.on ≠ i) → oi.apart ops oj = true) →
      i ∈ Region.ready md ops listed → xS P nt ops M (kind ws hs i) oi s s1 → AnyX P nt md ops ws hs M K fuel (listed.setIfInBounds i true) s1 → AnyX P nt md ops ws hs M K (fuel + 1) listed s := by
  intro fuel
  induction fuel with
  | zero =>
    intro listed s s1 _ _ hr hy H
    refine ⟨fun h => (by rw [h] at hr; cases hr), fun j hj => ?_⟩
    by_cases hji : j = i
    · subst hji; exact ⟨oi, s1, hi, hy, H⟩
    · have := ready_mono hj hji
      rw [H.1] at this
      cases this
  | succ fuel ih =>
    intro listed s s1 hdc hfree hr hy H
    refine ⟨fun h => (by rw [h] at hr; cases hr), fun j hj => ?_⟩
    by_cases hji : j = i
    · subst hji; exact ⟨oi, s1, hi, hy, H⟩
    · obtain ⟨oj, s2, hoj, hsj, hkj⟩ := H.2 j (ready_mono hj hji)
      obtain ⟨hjun, oj', hoj', hall⟩ := mem_ready.1 hj
      rw [hoj] at hoj'
      cases hoj'
      have hnot : ∀ e ∈ oj.after, Region.binds md e = true → e.on ≠ i := fun e he hb heq => by
        have h1 := hall e he hb
        rw [heq, ready_un hr] at h1
        cases h1
      obtain ⟨a1, a2, a3⟩ := Oper.apart_spec (hfree j oj hoj hji hjun hnot)
      have hjl : j < ops.size := (Array.getElem?_eq_some_iff.1 hoj).1
      have kk : okP (kind ws hs i) (kind ws hs j) = true := by
        simp only [kapI, List.all_eq_true] at hkap
        have := hkap j (List.mem_range.2 hjl)
        simp only [Bool.or_eq_true, beq_iff_eq] at this
        rcases this with ((h | h) | h) | h
        · exact absurd h.symm hji
        · exact h
        · exact absurd hj (dep_not hdc (ready_un hr) _ _ h).2
        · exact absurd hr (dep_not hdc (ready_un hj) _ _ h).2
      obtain ⟨t, s2', g1, g2, g3⟩ := xS.comm kk a1 a2 a3 hy hsj
      refine ⟨oj, t, hoj, g1, ?_⟩
      have hfree' : ∀ k ok, ops[k]? = some ok → k ≠ i → (listed.setIfInBounds j true).getD k true = false →
          (∀ e ∈ ok.after, Region.binds md e = true → e.on ≠ i) → oi.apart ops ok = true := fun k ok hk hki hun hno => by
        refine hfree k ok hk hki ?_ hno
        by_cases hjk : j = k
        · subst hjk; exact hjun
        · rw [getD_set_ne true hjk] at hun; exact hun
      refine ih (listed.setIfInBounds j true) t s2' (hdc.set hj) hfree' (ready_mono hr (Ne.symm hji)) g2 ?_
      rw [Array.setIfInBounds_comm _ _ hji]
      exact AnyX.eqv hK _ _ _ _ g3 hkj

inductive Gx (P : Program) (nt : NT) (ops : Array Oper) (ws hs : List Nat) (M : Nat → Bool) (K : AS → Prop) : Nat → List Oper → AS → Prop
  | nil {k : Nat} {s : AS} (h : K s) : Gx P nt ops ws hs M K k [] s
  | step {k : Nat} {o : Oper} {l : List Oper} {s s' : AS} (hx : xS P nt ops M (kind ws hs k) o s s') (h : Gx P nt ops ws hs M K (k + 1) l s') : Gx P nt ops ws hs M K k (o :: l) s
  | eqv {k : Nat} {l : List Oper} {s s1 : AS} (he : Eqv s s1) (h : Gx P nt ops ws hs M K k l s1) : Gx P nt ops ws hs M K k l s
theorem anyX_lex (hK : ∀ s s', Eqv s s' → K s → K s') (hsz : ops.size ≤ 1000) (hkap : kapB md ops ws hs = true) {k : Nat} {l : List Oper} {s : AS} (h : Gx P nt ops ws hs M K k l s) : ∀ (listed : Array Bool), DC md ops listed → (∀ j, l[j]? = ops[k + j]?) → Region.lexFrom md ops l.length k listed = true → AnyX P nt md ops ws hs M K l.length listed s := by
  induction h with
  | nil h => intro listed _ _ hB; exact ⟨by simpa [Region.lexFrom] using hB, h⟩
  | eqv he _ ih => intro listed hdc hl hB; exact AnyX.eqv hK _ _ _ _ he.symm (ih listed hdc hl hB)
  | step hx _ ih =>
    rename_i k o l s s' _
    intro listed hdc hl hB
    have h0 : ops[k]? = some o := by simpa using (hl 0).symm
    simp only [List.length_cons, Region.lexFrom, Bool.and_eq_true] at hB
    obtain ⟨⟨hr, hf⟩, hB'⟩ := hB
    have hr' : k ∈ Region.ready md ops listed := by simpa using hr
    exact anyX_firstI hK (by simp only [kapB, List.all_eq_true] at hkap; exact hkap k (List.mem_range.2 (Array.getElem?_eq_some_iff.1 h0).1)) h0 l.length listed s s' hdc (Region.free_spec h0 hf) hr' hx (ih _ (hdc.set hr') (fun j => by have := hl (j + 1); simpa [Nat.add_assoc, Nat.add_comm 1 j] using this) hB')
theorem Holds.anx {id : Nat} (ws hs : List Nat) (M : Nat → Bool) (hm : P.follows .mixedOrders = true) (hB : Region.lexB .any l.toArray = true) (hkap : (decide (l.length ≤ 1000) && kapB .any l.toArray ws hs) = true) (h : Gx P nt l.toArray ws hs M (fun s => Q .normal s) 0 l s) : Holds P nt (.region id l.toArray true) Q s := by
  intro C a w S Ow L hn hR
  have hK : ∀ s s' : AS, Eqv s s' → (∃ s1, Eqv s1 s ∧ Q .normal s1) → ∃ s1, Eqv s1 s' ∧ Q .normal s1 := fun s s' e ⟨s1, e1, q⟩ => ⟨s1, e1.trans e, q⟩
  have mono : ∀ {k : Nat} {l' : List Oper} {s : AS}, Gx P nt l.toArray ws hs M (fun s => Q .normal s) k l' s → Gx P nt l.toArray ws hs M (fun s => ∃ s1, Eqv s1 s ∧ Q .normal s1) k l' s := by
    intro k l' s h
    induction h with
    | nil h => exact .nil ⟨_, Eqv.refl _, h⟩
    | step hx _ ih => exact .step hx ih
    | eqv he _ ih => exact .eqv he ih
  simp only [Region.lexB, Bool.and_eq_true] at hB
  refine wp_region_any hm ?_
  simp only [Bool.and_eq_true, decide_eq_true_eq] at hkap
  have := anyX_lex (md := .any) hK (by simpa using hkap.1) hkap.2 (mono h) (Array.replicate l.toArray.size false) (fun j o _ hj => by
    have : (Array.replicate l.toArray.size false).getD j false = false := by
      simp only [Array.getD_eq_getD_getElem?, Array.getElem?_replicate]; split <;> rfl
    rw [this] at hj; cases hj) (by simp) (by simpa using hB.2)
  rw [List.size_toArray]
  refine wpAny_of_anyX (K := fun s => ∃ s1, Eqv s1 s ∧ Q .normal s1) (fun s' a w S Ow L hk hR => ?_) hn _ _ _ _ _ _ _ _ (hR.drawn (w' := { w with drawn := w.drawn + 1 }) rfl rfl rfl rfl) (by simpa using this)
  obtain ⟨s1, e, q⟩ := hk
  exact ⟨s1, S, Ow, L, q, hR.eqv e.symm⟩

/-! #### handy forms -/
variable {k : Nat} {r : AV}
theorem Gx.go (hk : kind ws hs k = .f) (hg : gd ops s o = some true) (ha : qput P nt s o = some s') (h : Gx P nt ops ws hs M K (k + 1) l s') : Gx P nt ops ws hs M K k (o :: l) s := by
  unfold qput at ha
  split at ha
  · rename_i hd
    simp only [Option.map_eq_some_iff] at ha
    obtain ⟨r, hr, rfl⟩ := ha
    exact .step (by rw [hk]; exact ⟨r, ⟨hd, .inr ⟨hg, .look hr⟩⟩, rfl⟩) h
  · cases ha
theorem Gx.skip (hk : kind ws hs k = .f) (hg : gd ops s o = some false) (hd : okd nt.n o.dst = true) (h : Gx P nt ops ws hs M K (k + 1) l (put s o.dst (.tu []))) : Gx P nt ops ws hs M K k (o :: l) s :=
  .step (by rw [hk]; exact ⟨_, ⟨hd, .inl ⟨hg, rfl⟩⟩, rfl⟩) h
theorem Gx.hid (hk : kind ws hs k = .h) (hg : gd ops (hide M s) o = some true) (hd : okd nt.n o.dst = true) (ha : qval P (hide M s) o.op = some r) (h : Gx P nt ops ws hs M K (k + 1) l (put s o.dst r)) : Gx P nt ops ws hs M K k (o :: l) s :=
  .step (by rw [hk]; exact ⟨r, ⟨hd, .inr ⟨hg, .look ha⟩⟩, rfl⟩) h
theorem Gx.skipH (hk : kind ws hs k = .h) (hg : gd ops s o = some false) (hd : okd nt.n o.dst = true) (h : Gx P nt ops ws hs M K (k + 1) l (put s o.dst (.tu []))) : Gx P nt ops ws hs M K k (o :: l) s :=
  .step (by rw [hk]; exact ⟨_, ⟨hd, .inl ⟨hg, rfl⟩⟩, rfl⟩) h
theorem Gx.skipW (hk : kind ws hs k = .w) (hg : gd ops s o = some false) (hd : okd nt.n o.dst = true) (h : Gx P nt ops ws hs M K (k + 1) l (put s o.dst (.tu []))) : Gx P nt ops ws hs M K k (o :: l) s := by
  refine .step ?_ h
  rw [hk]
  refine ⟨.tu [], s.bl, s.nx, ⟨rfl, fun tm' h' C a w S Ow L i Q K hn ho hR hK => ?_⟩, rfl⟩
  have hg' : gd ops (⟨tm', s.bl, s.nx⟩ : AS) o = some false := by
    rw [gd_congr (s := s) fun g b t e ht => h' t (List.mem_append_right _ (by simp [e, ht]))]; exact hg
  subst hn
  unfold wpOp
  simp only [ho]
  rw [gd_sound hR hg']
  exact hK _ _ _ _ _ (hR.skip hd)
theorem Gx.calm (hk : kind ws hs k = .f) (hg : gd ops s o = some true) (hd : okd nt.n o.dst = true) (hc : Calm P s o.op r) (h : Gx P nt ops ws hs M K (k + 1) l (put s o.dst r)) : Gx P nt ops ws hs M K k (o :: l) s :=
  .step (by rw [hk]; exact ⟨r, ⟨hd, .inr ⟨hg, hc⟩⟩, rfl⟩) h
theorem Gx.cc {c : Operand} {aas : Array Operand} {ts : Array TypeId} {f : FuncId} {xs cap ys : List AV} (hp : Pure P f ys r) (hk : kind ws hs k = .f) (hop : o.op = .call ⟨.value c, aas, ts⟩) (hg : gd ops s o = some true) (hd : okd nt.n o.dst = true)
    (hc : ev s c = some (.fn f cap)) (he : aas.toList.mapM (ev s) = some xs) (hy : xs ++ cap = ys) (hcl : ys.all cl = true) (h : Gx P nt ops ws hs M K (k + 1) l (put s o.dst r)) : Gx P nt ops ws hs M K k (o :: l) s := by
  subst hy
  exact Gx.calm hk hg hd (.callC hop hc he hcl hp) h
theorem Gx.cd {c : Operand} {aas : Array Operand} {ts : Array TypeId} {f : FuncId} {xs cap ys zs : List AV} (hp : Pure P f ys r) (hk : kind ws hs k = .f) (hop : o.op = .call ⟨.value c, aas, ts⟩) (hg : gd ops s o = some true) (hd : okd nt.n o.dst = true)
    (hc : ev s c = some (.fn f cap)) (he : aas.toList.mapM (ev s) = some xs) (hz : xs ++ cap = zs) (hf : FzL s.bl zs ys) (hr : dry r = true) (h : Gx P nt ops ws hs M K (k + 1) l (put s o.dst r)) : Gx P nt ops ws hs M K k (o :: l) s := by
  subst hz
  exact Gx.calm hk hg hd (.call hop hc he hf hp hr) h
theorem gd_tm {s1 : AS} (h : ∀ t ∈ o.looksAt ops, lk s1.tm t = lk s.tm t) : gd ops s1 o = gd ops s o :=
  gd_congr fun g b t e ht => h t (List.mem_append_right _ (by simp [e, ht]))
theorem ev_tm {s1 : AS} (h : ∀ t ∈ o.looksAt ops, lk s1.tm t = lk s.tm t) : ∀ y ∈ o.op.operands, ev s1 y = ev s y := fun y hy => by
  cases y with
  | tmp t => exact h t (List.mem_append_left _ (List.mem_filterMap.2 ⟨.tmp t, by simpa using hy, rfl⟩))
  | _ => rfl
theorem Wr.of {s' : AS} (hg : gd ops s o = some true) (ha : astep P nt s o = some s') (hM : s'.bl.filter (fun p => !M p.1) = s.bl.filter fun p => !M p.1) : ∃ r, Wr P nt ops M s o r s'.bl s'.nx ∧ s' = put ⟨s.tm, s'.bl, s'.nx⟩ o.dst r := by
  obtain ⟨r, e, _⟩ := astep_sw (tm := s.tm) (fun y _ => rfl) ha
  refine ⟨r, ⟨hM, fun tm' h' C a w S Ow L i Q K hn ho hR hK => ?_⟩, e⟩
  obtain ⟨r', e', ha'⟩ := astep_sw (tm := tm') (fun y hy => ev_tm (s1 := sw tm' s) h' y hy) ha
  have hr : o.dst = none ∨ r' = r := by
    cases hd : o.dst with
    | none => exact .inl rfl
    | some d =>
      rw [hd] at e e'
      rw [e'] at e
      simp only [put, AS.mk.injEq, List.cons.injEq, Prod.mk.injEq, true_and, and_true] at e
      exact .inr e
  have er : ∀ s0, put s0 o.dst r' = put s0 o.dst r := fun s0 => by
    rcases hr with h | h
    · rw [h]; rfl
    · rw [h]
  rw [er] at ha'
  subst hn
  unfold wpOp
  simp only [ho]
  rw [gd_sound hR (by rw [gd_tm (s := s) h']; exact hg)]
  simp only [if_true]
  left
  unfold Oper.wp
  obtain ⟨n, w', Ow', L', hrun, ⟨u, rfl, hR'⟩ | ⟨rfl, hR'⟩⟩ := astep_sound hR ha'
  · rw [hrun]; exact hK _ _ _ _ _ hR'
  · rw [hrun]; exact hK _ _ _ _ _ hR'
theorem Gx.wr (hk : kind ws hs k = .w) (hg : gd ops s o = some true) (ha : astep P nt s o = some s') (hM : s'.bl.filter (fun p => !M p.1) = s.bl.filter fun p => !M p.1) (h : Gx P nt ops ws hs M K (k + 1) l s') : Gx P nt ops ws hs M K k (o :: l) s := by
  obtain ⟨r, hw, e⟩ := Wr.of hg ha hM
  exact .step (by rw [hk]; exact ⟨r, _, _, hw, e⟩) h
theorem Gx.wo (hk : kind ws hs k = .o) (hg : gd ops s o = some true) (ha : astep P nt s o = some s') (h : Gx P nt ops ws hs M K (k + 1) l s') : Gx P nt ops ws hs M K k (o :: l) s := by
  obtain ⟨r, hw, e⟩ := Wr.of (M := fun _ => true) hg ha (hid_all _ _)
  exact .step (by rw [hk]; exact ⟨r, _, _, hw, e⟩) h
theorem Gx.skipO (hk : kind ws hs k = .o) (hg : gd ops s o = some false) (hd : okd nt.n o.dst = true) (h : Gx P nt ops ws hs M K (k + 1) l (put s o.dst (.tu []))) : Gx P nt ops ws hs M K k (o :: l) s := by
  refine .step ?_ h
  rw [hk]
  refine ⟨.tu [], s.bl, s.nx, ⟨rfl, fun tm' h' C a w S Ow L i Q K hn ho hR hK => ?_⟩, rfl⟩
  have hg' : gd ops (⟨tm', s.bl, s.nx⟩ : AS) o = some false := by
    rw [gd_congr (s := s) fun g b t e ht => h' t (List.mem_append_right _ (by simp [e, ht]))]; exact hg
  subst hn
  unfold wpOp
  simp only [ho]
  rw [gd_sound hR hg']
  exact hK _ _ _ _ _ (hR.skip hd)
theorem Wr.fn {c : Operand} {aas : Array Operand} {ts : Array TypeId} {f : FuncId} {xs cap args : List AV} {q m : Nat} {ins outs bl' : List (Nat × Blk)} (ρ : Nat → Nat) (hp : Fn P f q args ins r m outs) (hop : o.op = .call ⟨.value c, aas, ts⟩) (hg : gd ops s o = some true) (hd : okd nt.n o.dst = true)
    (hc : ev s c = some (.fn f cap)) (he : aas.toList.mapM (ev s) = some xs) (hargs : xs ++ cap = args.map (En.ren ρ)) (hok : args.all (okr q) = true) (hins : (List.range q).all (fun n => (lb ins n).isSome) = true) (hb : ChkB ρ q s.bl ins) (hkm : q ≤ m) (hom : outs.all (fun p => decide (p.1 < m)) = true)
    (hr : okr m r = true) (hren : RenB (nme q s.nx ρ) m outs bl') (hM : (aft s q ρ m bl').bl.filter (fun p => !M p.1) = s.bl.filter fun p => !M p.1) : Wr P nt ops M s o (En.ren (nme q s.nx ρ) r) (aft s q ρ m bl').bl (aft s q ρ m bl').nx := by
  refine ⟨hM, fun tm' h' C a w S Ow L i Q K hn ho hR hK => ?_⟩
  have hev : ∀ y ∈ o.op.operands, ev ⟨tm', s.bl, s.nx⟩ y = ev s y := ev_tm (s1 := ⟨tm', s.bl, s.nx⟩) h'
  have hev' := hev
  rw [hop] at hev'
  simp only [Op.operands, Call.operands] at hev'
  exact fn_wp (s := ⟨tm', s.bl, s.nx⟩) ρ ho (by rw [gd_tm (s := s) h']; exact hg) hop hd (by rw [hev' _ (by simp)]; exact hc)
    (by rw [mapM_congr (g := ev s) fun y hy => hev' y (by simp at hy; simp [hy])]; exact he) hargs hok hins hb hkm hom hp hr hren hn hR hK
theorem Gx.fn {c : Operand} {aas : Array Operand} {ts : Array TypeId} {f : FuncId} {xs cap args : List AV} {q m : Nat} {ins outs bl' : List (Nat × Blk)} (ρ : Nat → Nat) (hp : Fn P f q args ins r m outs) (hk : kind ws hs k = .w) (hop : o.op = .call ⟨.value c, aas, ts⟩) (hg : gd ops s o = some true) (hd : okd nt.n o.dst = true)
    (hc : ev s c = some (.fn f cap)) (he : aas.toList.mapM (ev s) = some xs) (hargs : xs ++ cap = args.map (En.ren ρ)) (hok : args.all (okr q) = true) (hins : (List.range q).all (fun n => (lb ins n).isSome) = true) (hb : ChkB ρ q s.bl ins) (hkm : q ≤ m) (hom : outs.all (fun p => decide (p.1 < m)) = true)
    (hr : okr m r = true) (hren : RenB (nme q s.nx ρ) m outs bl') (hM : (aft s q ρ m bl').bl.filter (fun p => !M p.1) = s.bl.filter fun p => !M p.1) (h : Gx P nt ops ws hs M K (k + 1) l (put (aft s q ρ m bl') o.dst (En.ren (nme q s.nx ρ) r))) : Gx P nt ops ws hs M K k (o :: l) s := by
  refine .step (s' := put (aft s q ρ m bl') o.dst (En.ren (nme q s.nx ρ) r)) ?_ h
  rw [hk]
  exact ⟨_, _, _, Wr.fn ρ hp hop hg hd hc he hargs hok hins hb hkm hom hr hren hM, rfl⟩
theorem Gx.fno {c : Operand} {aas : Array Operand} {ts : Array TypeId} {f : FuncId} {xs cap args : List AV} {q m : Nat} {ins outs bl' : List (Nat × Blk)} (ρ : Nat → Nat) (hp : Fn P f q args ins r m outs) (hk : kind ws hs k = .o) (hop : o.op = .call ⟨.value c, aas, ts⟩) (hg : gd ops s o = some true) (hd : okd nt.n o.dst = true)
    (hc : ev s c = some (.fn f cap)) (he : aas.toList.mapM (ev s) = some xs) (hargs : xs ++ cap = args.map (En.ren ρ)) (hok : args.all (okr q) = true) (hins : (List.range q).all (fun n => (lb ins n).isSome) = true) (hb : ChkB ρ q s.bl ins) (hkm : q ≤ m) (hom : outs.all (fun p => decide (p.1 < m)) = true)
    (hr : okr m r = true) (hren : RenB (nme q s.nx ρ) m outs bl') (h : Gx P nt ops ws hs M K (k + 1) l (put (aft s q ρ m bl') o.dst (En.ren (nme q s.nx ρ) r))) : Gx P nt ops ws hs M K k (o :: l) s := by
  refine .step (s' := put (aft s q ρ m bl') o.dst (En.ren (nme q s.nx ρ) r)) ?_ h
  rw [hk]
  exact ⟨_, _, _, Wr.fn (M := fun _ => true) ρ hp hop hg hd hc he hargs hok hins hb hkm hom hr hren (hid_all _ _), rfl⟩
end
end Go.Proofs.Ytejpklajfcngbaa.En
end
section
namespace Go.Proofs.Ytejpklajfcngbaa.En
open Go.RowKit
set_option linter.unusedSimpArgs false
set_option linter.unusedVariables false
section
variable {P : Program} {nt : NT} {Q : Exit → AS → Prop} {s s' s1 : AS} {ops : Array Oper} {K : AS → Prop} {i : Nat} {o : Oper} {l : List Oper} {ws hs : List Nat} {M : Nat → Bool}
def nm : List Nat → Nat → Nat
  | [], n => n
  | x :: _, 0 => x
  | _ :: r, n + 1 => nm r n
theorem GS.fnn {c : Operand} {aas : Array Operand} {ts : Array TypeId} {f : FuncId} {xs cap args : List AV} {k m : Nat} {ins outs bl' : List (Nat × Blk)} {r : AV} (ns : List Nat) (hp : Fn P f k args ins r m outs) (hop : o.op = .call ⟨.value c, aas, ts⟩) (hg : gd ops s o = some true) (hd : okd nt.n o.dst = true)
    (hc : ev s c = some (.fn f cap)) (he : aas.toList.mapM (ev s) = some xs) (hargs : xs ++ cap = args.map (En.ren (nm ns))) (hok : args.all (okr k) = true) (hins : (List.range k).all (fun n => (lb ins n).isSome) = true) (hb : ChkB (nm ns) k s.bl ins) (hkm : k ≤ m) (hom : outs.all (fun p => decide (p.1 < m)) = true)
    (hr : okr m r = true) (hren : RenB (nme k s.nx (nm ns)) m outs bl') (hs1 : put (aft s k (nm ns) m bl') o.dst (En.ren (nme k s.nx (nm ns)) r) = s1) (h : GS P nt ops K l (i + 1) s1) : GS P nt ops K (o :: l) i s := by
  subst hs1
  exact GS.fn (nm ns) hp hop hg hd hc he hargs hok hins hb hkm hom hr hren h
theorem Gx.fnn {k : Nat} {c : Operand} {aas : Array Operand} {ts : Array TypeId} {f : FuncId} {xs cap args : List AV} {q m : Nat} {ins outs bl' : List (Nat × Blk)} {r : AV} (ns : List Nat) (hp : Fn P f q args ins r m outs) (hk : kind ws hs k = .w) (hop : o.op = .call ⟨.value c, aas, ts⟩) (hg : gd ops s o = some true) (hd : okd nt.n o.dst = true)
    (hc : ev s c = some (.fn f cap)) (he : aas.toList.mapM (ev s) = some xs) (hargs : xs ++ cap = args.map (En.ren (nm ns))) (hok : args.all (okr q) = true) (hins : (List.range q).all (fun n => (lb ins n).isSome) = true) (hb : ChkB (nm ns) q s.bl ins) (hkm : q ≤ m) (hom : outs.all (fun p => decide (p.1 < m)) = true)
    (hr : okr m r = true) (hren : RenB (nme q s.nx (nm ns)) m outs bl') (hM : (aft s q (nm ns) m bl').bl.filter (fun p => !M p.1) = s.bl.filter fun p => !M p.1) (hs1 : put (aft s q (nm ns) m bl') o.dst (En.ren (nme q s.nx (nm ns)) r) = s1) (h : Gx P nt ops ws hs M K (k + 1) l s1) : Gx P nt ops ws hs M K k (o :: l) s := by
  subst hs1
  exact Gx.fn (nm ns) hp hk hop hg hd hc he hargs hok hins hb hkm hom hr hren hM h
theorem Gx.fnno {k : Nat} {c : Operand} {aas : Array Operand} {ts : Array TypeId} {f : FuncId} {xs cap args : List AV} {q m : Nat} {ins outs bl' : List (Nat × Blk)} {r : AV} (ns : List Nat) (hp : Fn P f q args ins r m outs) (hk : kind ws hs k = .o) (hop : o.op = .call ⟨.value c, aas, ts⟩) (hg : gd ops s o = some true) (hd : okd nt.n o.dst = true)
    (hc : ev s c = some (.fn f cap)) (he : aas.toList.mapM (ev s) = some xs) (hargs : xs ++ cap = args.map (En.ren (nm ns))) (hok : args.all (okr q) = true) (hins : (List.range q).all (fun n => (lb ins n).isSome) = true) (hb : ChkB (nm ns) q s.bl ins) (hkm : q ≤ m) (hom : outs.all (fun p => decide (p.1 < m)) = true)
    (hr : okr m r = true) (hren : RenB (nme q s.nx (nm ns)) m outs bl') (hs1 : put (aft s q (nm ns) m bl') o.dst (En.ren (nme q s.nx (nm ns)) r) = s1) (h : Gx P nt ops ws hs M K (k + 1) l s1) : Gx P nt ops ws hs M K k (o :: l) s := by
  subst hs1
  exact Gx.fno (nm ns) hp hk hop hg hd hc he hargs hok hins hb hkm hom hr hren h
theorem Gx.guard {k : Nat} {c : Bool} {t : Nat} (hl : lk s.tm t = some (.v (.bool c))) (h1 : c = true → Gx P nt ops ws hs M K k l (again s t (.v (.bool true)))) (h2 : c = false → Gx P nt ops ws hs M K k l (again s t (.v (.bool false)))) : Gx P nt ops ws hs M K k l s := by
  have e : ∀ x, lk s.tm t = some x → Eqv s (again s t x) := fun x hx => ⟨fun t' => by
    simp only [again, lk]
    split
    · rename_i g; rw [← g]; exact hx
    · rfl, rfl, rfl⟩
  cases c with
  | true => exact .eqv (e _ hl) (h1 rfl)
  | false => exact .eqv (e _ hl) (h2 rfl)
end
attribute [go_sem] nm hide
end Go.Proofs.Ytejpklajfcngbaa.En
end
section
namespace Go.Proofs.Ytejpklajfcngbaa.En
open Go.RowKit
set_option linter.unusedSimpArgs false
set_option linter.unusedVariables false
section
variable {P : Program} {nt : NT} {s s0 : AS} {ρ : Nat → Nat} {nx : Nat}
def nfr (xs : List (List AV)) : Prop := ∀ row ∈ xs, ∀ x ∈ row, nf x = true
def okw (nx : Nat) (xs : List (List AV)) : Prop := ∀ row ∈ xs, ∀ x ∈ row, okr nx x = true
@[simp] theorem nfr_nil : nfr [] := fun row h => by cases h
def nfc (r : List AV) : Prop := ∀ x ∈ r, nf x = true
@[simp] theorem nfc_nil : nfc [] := fun x h => by cases h
@[simp] theorem nfc_cons (x : AV) (r : List AV) : nfc (x :: r) ↔ nf x = true ∧ nfc r := by simp [nfc]
@[simp] theorem nfr_cons (r : List AV) (xs : List (List AV)) : nfr (r :: xs) ↔ nfc r ∧ nfr xs := by simp [nfr, nfc]
@[simp] theorem nfr_append (xs ys : List (List AV)) : nfr (xs ++ ys) ↔ nfr xs ∧ nfr ys := by
  simp only [nfr, List.mem_append]
  exact ⟨fun h => ⟨fun r hr => h r (.inl hr), fun r hr => h r (.inr hr)⟩, fun h r hr => hr.elim (h.1 r) (h.2 r)⟩
@[simp] theorem okw_nil : okw nx [] := fun row h => by cases h
@[simp] theorem okw_cons (r : List AV) (xs : List (List AV)) : okw nx (r :: xs) ↔ (∀ x ∈ r, okr nx x = true) ∧ okw nx xs := by simp [okw]
theorem nfr_of_ok {xs : List (List AV)} (h : ∀ row ∈ xs, ∀ x ∈ row, cl1 x = true) : nfr xs := fun row hr x hx => by have := h row hr x hx; cases x <;> simp_all [cl1, nf]
theorem nfr.set {xs : List (List AV)} (h : nfr xs) {i : Nat} {r : List AV} (hr : ∀ x ∈ r, nf x = true) : nfr (xs.set i r) := fun row hrow x hx => by
  rcases List.mem_or_eq_of_mem_set hrow with g | rfl
  · exact h row g x hx
  · exact hr x hx
theorem nfr.take {xs : List (List AV)} (h : nfr xs) (i : Nat) : nfr (xs.take i) := fun row hrow x hx => h row (List.mem_of_mem_take hrow) x hx
theorem nfr.drop {xs : List (List AV)} (h : nfr xs) (i : Nat) : nfr (xs.drop i) := fun row hrow x hx => h row (List.mem_of_mem_drop hrow) x hx
theorem nfr.rep {n : Nat} {r : List AV} (h : ∀ x ∈ r, nf x = true) : nfr (List.replicate n r) := fun row hrow x hx => by
  rw [(List.mem_replicate.1 hrow).2] at hx; exact h x hx
def BlkN (ρ : Nat → Nat) (nx : Nat) (k k' : Blk) : Prop := k'.e = k.e ∧ k'.sz = k.sz ∧ ((k'.xs = k.xs ∧ nfr k.xs) ∨ (k'.xs = k.xs.map (List.map (ren ρ)) ∧ okw nx k.xs))
def ChkN (ρ : Nat → Nat) (nx : Nat) (bl : List (Nat × Blk)) : List (Nat × Blk) → Prop
  | [] => True
  | (n, k) :: r => (n < nx ∧ (∃ k', lb bl (ρ n) = some k' ∧ BlkN ρ nx k k') ∧ ∀ p ∈ r, p.1 = n ∨ ρ p.1 ≠ ρ n) ∧ ChkN ρ nx bl r
theorem ChkN.toB {bl : List (Nat × Blk)} : ∀ {l : List (Nat × Blk)}, ChkN ρ nx bl l → ChkB ρ nx bl l
  | [], _ => trivial
  | (n, k) :: r, ⟨⟨h1, ⟨k', h2, h3⟩, h4⟩, h5⟩ => ⟨⟨h1, ⟨k', h2, h3⟩, h4⟩, h5.toB⟩
theorem Cov.ofn {k : Nat} (ρ : Nat → Nat) (hk : ((List.range k).all fun n => decide (n < s0.nx) && ρ n == n) = true) (ht : ChkT ρ s0.nx s.tm s0.tm) (hb : ChkN ρ s0.nx s.bl s0.bl) : Cov k s0 s :=
  Cov.ofk ρ (fun n hn => by
    rw [List.all_eq_true] at hk
    have := hk n (List.mem_range.2 hn)
    simp only [Bool.and_eq_true, decide_eq_true_eq, beq_iff_eq] at this
    exact ⟨this.1, fun _ => this.2⟩) ht hb.toB
theorem OutF.mkn {rs : List ResultVar} {k m : Nat} {r : AV} {outs : List (Nat × Blk)} {e : Exit} {xs : List AV} (ρ : Nat → Nat) (hx : rs.mapM (rval P s) = some xs) (hr : pack xs = ren ρ r) (hok : okr m r = true) (hb : ChkN ρ m s.bl outs) (hk : ((List.range k).all fun n => decide (n < m) && ρ n == n) = true) (he : e = .normal ∨ e = .ret) : OutF P rs k r m outs e s :=
  OutF.mk ρ hx hr hok hb.toB (fun n hn => by
    rw [List.all_eq_true] at hk
    have := hk n (List.mem_range.2 hn)
    simp only [Bool.and_eq_true, decide_eq_true_eq, beq_iff_eq] at this
    exact this) he
theorem RenB.nfr {m n : Nat} {k : Blk} {r r' : List (Nat × Blk)} (h : En.nfr k.xs) (hr : RenB ρ m r r') : RenB ρ m ((n, k) :: r) ((ρ n, k) :: r') := RenB.nf h hr
theorem RenB.okw {m n : Nat} {e : TypeId} {sz : Nat} {xs : List (List AV)} {r r' : List (Nat × Blk)} (h : En.okw m xs) (hr : RenB ρ m r r') : RenB ρ m ((n, ⟨e, sz, xs⟩) :: r) ((ρ n, ⟨e, sz, xs.map (List.map (En.ren ρ))⟩) :: r') := RenB.rn h hr
def nirw (s : AS) (n j i : Nat) (e : TypeId) (sz : Nat) : AS := match lb s.bl n with
  | some b => match b.xs[j]? with
    | some row => ⟨s.tm, (s.nx, ⟨e, sz, []⟩) :: st s.bl n { b with xs := b.xs.set j (row.set i (.own s.nx sz 0 0)) }, s.nx + 1⟩
    | none => s
  | none => s
theorem Cov.nir {k n j i : Nat} (e : TypeId) (sz : Nat) {b : Blk} {row : List AV} (hb : lb s.bl n = some b) (hrow : b.xs[j]? = some row) (hi : row[i]? = some (.v (.slice none 0 0))) : Cov k (nirw s n j i e sz) s := by
  intro C a w S Ow L _ h
  have hnx : n < s.nx := by
    obtain ⟨loc, hl, _⟩ := h.blk n b hb
    rcases Nat.lt_or_ge n s.nx with g | g
    · exact g
    · rw [h.fresh n g] at hl; cases hl
  obtain ⟨L', hR, hL, hup⟩ := h.allocNil ⟨e, sz, []⟩ rfl
  have hs : nirw s n j i e sz = ⟨s.tm, (s.nx, ⟨e, sz, []⟩) :: st s.bl n { b with xs := b.xs.set j (row.set i (.own s.nx sz 0 0)) }, s.nx + 1⟩ := by simp only [nirw, hb, hrow]
  rw [hs]
  refine ⟨S, Ow, L', { fix := hR.fix, keep := hR.keep, inS := hR.inS, upS := hR.upS, ltS := hR.ltS, owS := hR.owS, ow := hR.ow, ow0 := hR.ow0, blk := fun m kk hm => ?_, fresh := hR.fresh, named := hR.named, freshO := hR.freshO, size := hR.size, defers := hR.defers, slot := hR.slot }⟩
  by_cases e1 : s.nx = m
  · subst e1
    simp only [lb, if_true] at hm
    cases hm
    exact hR.blk s.nx _ (by simp [lb])
  · simp only [lb, if_neg e1, lb_st] at hm
    by_cases e2 : n = m
    · subst e2
      rw [if_pos rfl, hb] at hm
      cases hm
      obtain ⟨loc, hl, hB⟩ := hR.blk n b (by simp only [lb, if_neg e1]; exact hb)
      refine ⟨loc, hl, ?_⟩
      cases loc with
      | none =>
        rw [show b.xs = [] from hB] at hrow; simp at hrow
      | some p =>
        obtain ⟨h1, cs, us, h2, h3, h4, h5, h6, h7⟩ := hB
        have get : ∀ (j' : Nat) (r' : List AV), (b.xs.set j (row.set i (.own s.nx sz 0 0)))[j']? = some r' → (j' = j ∧ r' = row.set i (.own s.nx sz 0 0)) ∨ b.xs[j']? = some r' := fun j' r' hj => by
          rw [List.getElem?_set] at hj
          split at hj
          · rename_i g
            split at hj
            · cases hj; exact .inl ⟨g.symm, rfl⟩
            · cases hj
          · exact .inr hj
        refine ⟨h1, cs, us, (by show _ = some (objOf _ (b.xs.set j (row.set i (.own s.nx sz 0 0))).length cs b.e); rw [List.length_set]; exact h2), h3, by simpa using h4, fun j' r' hj => ?_, fun j' r' i' x hj hi' => ?_, fun j' r' i' x hj hi' => ?_⟩
        · rcases get j' r' hj with ⟨rfl, rfl⟩ | g
          · rw [List.length_set]; exact h5 _ row hrow
          · exact h5 j' r' g
        · rcases get j' r' hj with ⟨rfl, rfl⟩ | g
          · by_cases ei : i = i'
            · subst ei; exact h6 _ row i _ hrow hi
            · rw [List.getElem?_set_ne ei] at hi'; exact h6 _ row i' x hrow hi'
          · exact h6 j' r' i' x g hi'
        · rcases get j' r' hj with ⟨rfl, rfl⟩ | g
          · by_cases ei : i = i'
            · subst ei
              have := h7 _ row i _ hrow hi
              obtain ⟨hu, _⟩ := this.v_inv
              have hlt : i < row.length := (List.getElem?_eq_some_iff.1 hi).1
              rw [List.getElem?_set_self hlt] at hi'
              cases hi'
              rw [hu]
              exact .own_nil _ _ none hL
            · rw [List.getElem?_set_ne ei] at hi'; exact h7 _ row i' x hrow hi'
          · exact h7 j' r' i' x g hi'
    · rw [if_neg e2] at hm
      exact hR.blk m kk (by simp only [lb, if_neg e1]; exact hm)
theorem Holds.nir {Q : Exit → AS → Prop} {c : Code} (n j i : Nat) (e : TypeId) (sz : Nat) {b : Blk} {row : List AV} (hb : lb s.bl n = some b) (hrow : b.xs[j]? = some row) (hi : row[i]? = some (.v (.slice none 0 0))) {s' : AS} (hs : nirw s n j i e sz = s') (h : Holds P nt c Q s') : Holds P nt c Q s := by
  subst hs
  exact Holds.cov (Cov.nir e sz hb hrow hi) h
theorem rng0 : List.range 0 = [] := rfl
theorem rng1 : List.range 1 = [0] := rfl
theorem rng2 : List.range 2 = [0, 1] := rfl
theorem rng3 : List.range 3 = [0, 1, 2] := rfl
theorem rng4 : List.range 4 = [0, 1, 2, 3] := rfl
end
attribute [go_sem] nirw fillA chunk srcRows srcSz plc rng0 rng1 rng2 rng3 rng4 flat sim c1
end Go.Proofs.Ytejpklajfcngbaa.En
end
section
namespace Go.Proofs.Ytejpklajfcngbaa.En
open Go.RowKit
set_option linter.unusedSimpArgs false
set_option linter.unusedVariables false
section
attribute [local semireducible] G Gq Holds GS Pure Out Fn OutF

inductive Ony : AV → Prop
  | v (x : Value) : Ony (.v x)
  | own (n sz off len : Nat) : Ony (.own n sz off len)
  | pb (n sz j i : Nat) : Ony (.pb n sz j i)
  | mp (n : Nat) : Ony (.mp n)
  | ag (xs : List AV) (h : ∀ x ∈ xs, Ony x) : Ony (.ag xs)
  | tu (xs : List AV) (h : ∀ x ∈ xs, Ony x) : Ony (.tu xs)
  | ow (e : TypeId) (sz : Nat) (xs : List (List AV)) (h : ∀ row ∈ xs, ∀ x ∈ row, Ony x) : Ony (.ow e sz xs)
def onyR (xs : List (List AV)) : Prop := ∀ row ∈ xs, ∀ x ∈ row, Ony x
@[simp] theorem onyR_nil : onyR [] := fun _ h => by cases h
@[simp] theorem Ony_v (x : Value) : Ony (.v x) := .v x
@[simp] theorem Ony_own (n sz off len : Nat) : Ony (.own n sz off len) := .own n sz off len
@[simp] theorem Ony_ag (xs : List AV) : Ony (.ag xs) ↔ ∀ x ∈ xs, Ony x := ⟨fun h => by cases h; assumption, .ag xs⟩
@[simp] theorem Ony_tu (xs : List AV) : Ony (.tu xs) ↔ ∀ x ∈ xs, Ony x := ⟨fun h => by cases h; assumption, .tu xs⟩
@[simp] theorem Ony_ow (e : TypeId) (sz : Nat) (xs : List (List AV)) : Ony (.ow e sz xs) ↔ onyR xs := ⟨fun h => by cases h; assumption, .ow e sz xs⟩
theorem Ony.agL {xs : List AV} (h : ∀ x ∈ xs, Ony x) : Ony (.ag xs) := .ag xs h

theorem Rep.ony {w : World} {S S2 : Nat → Prop} {Ow : Owners} {L : Names} {p : Path} {x : AV} {u : Value} (h : Rep w S Ow L p x u) (ho : Ony x) : Rep w S2 Ow L p x u := by
  induction h with
  | v x h => exact .v x h
  | ag xs us h _ ih =>
    cases ho with
    | ag _ ho => exact .ag xs us h fun i x u hx hu => ih i x u hx hu (ho x (List.mem_of_getElem? hx))
  | tu xs us h _ ih =>
    cases ho with
    | tu _ ho => exact .tu xs us h fun i x u hx hu => ih i x u hx hu (ho x (List.mem_of_getElem? hx))
  | im => cases ho
  | ow e sz xs b o cap cs us ho' hh hs hc hz hcell _ ih =>
    cases ho with
    | ow _ _ _ ho => exact .ow e sz xs b o cap cs us ho' hh hs hc hz hcell fun j row i x hj hi => ih j row i x hj hi (ho row (List.mem_of_getElem? hj) x (List.mem_of_getElem? hi))
  | ow_nil e sz A => exact .ow_nil e sz A
  | own n sz off len b o cap h hl => exact .own n sz off len b o cap h hl
  | own_end n sz off b o cap a h hl => exact .own_end n sz off b o cap a h hl
  | own_nil n sz A h => exact .own_nil n sz A h
  | own_gone n sz off len u h h1 => exact .own_gone n sz off len u h h1
  | pb n sz j i b o cap h => exact .pb n sz j i b o cap h
  | pb_gone n sz j i u h h1 => exact .pb_gone n sz j i u h h1
  | mp n b h => exact .mp n b h
  | mp_gone n u h h1 => exact .mp_gone n u h h1
  | pi => cases ho
  | fn => cases ho
theorem BlkRep.ony {w : World} {S S2 : Nat → Prop} {Ow : Owners} {L : Names} {n : Nat} {k : Blk} {loc : Loc} (h : BlkRep w S Ow L n k loc) (ho : onyR k.xs) : BlkRep w S2 Ow L n k loc := by
  cases loc with
  | none => exact h
  | some p =>
    obtain ⟨h1, cs, us, h2, h3, h4, h5, h6, h7⟩ := h
    exact ⟨h1, cs, us, h2, h3, h4, h5, h6, fun j row i x hj hi => (h7 j row i x hj hi).ony (ho row (List.mem_of_getElem? hj) x (List.mem_of_getElem? hi))⟩

variable {P : Program} {nt : NT} {s s' : AS} {ops : Array Oper} {K : AS → Prop} {i : Nat} {o : Oper} {l : List Oper}

def aft0 (s : AS) (m : Nat) (bl' : List (Nat × Blk)) : AS := ⟨s.tm, bl' ++ s.bl, s.nx + m⟩

theorem fn0_enter {w : World} {S1 : Nat → Prop} (hlt : ∀ k, S1 k → k < w.heap.size) : RelX ⟨w, fun _ => False, S1, ⟨0, 0⟩, fixOf 0 noName⟩ ⟨[], [], 0⟩ a0 w S1 noOwner noName :=
  { fix := fun n loc hn => absurd (fixOf_eq (k := 0) (L := noName) (n := n) (loc := loc) |>.1 hn).1 (Nat.not_lt_zero n)
    keep := Keep.refl _ _, inS := fun _ h => h, upS := fun _ h => .inl h, ltS := hlt, owS := fun _ _ => rfl, ow := fun b p hb => by cases hb
    ow0 := fun b q hb => by cases hb
    blk := fun n kk hn => by cases hn
    fresh := fun n _ => rfl, named := fun n hn => by cases hn
    freshO := fun b n q hb => by cases hb
    slot := fun t x hx => by cases hx
    size := rfl, defers := rfl }

theorem fnd_post {K : Act → World → Prop} {C : Ctx} {a : Act} {w w' : World} {S S' : Nat → Prop} {Ow Ow' : Owners} {L L' : Names} {m : Nat} {outs bl' : List (Nat × Blk)} {r : AV} {v : Value} {d : Option Nat} (hd : okd C.nt.n d = true) (hom : outs.all (fun p => decide (p.1 < m)) = true)
    (hor : Ony r) (hoo : ∀ p ∈ outs, onyR p.2.xs) (hr : okr m r = true) (hren : RenB (fun n => s.nx + n) m outs bl') (hR : RelX C s a w S Ow L)
    (hX : RelX ⟨w, fun _ => False, lent S Ow, ⟨0, 0⟩, fixOf 0 noName⟩ ⟨[], outs, m⟩ a0 w' S' Ow' L') (hv : Rep w' S' Ow' L' [0] r v)
    (hK : ∀ a' w' S' Ow' L', RelX C (put (aft0 s m bl') d (En.ren (fun n => s.nx + n) r)) a' w' S' Ow' L' → K a' w') : K (a.put d v) w' := by
  have hB : BelowD w.heap.size w w' := hX.keep.below
  have hR1 := hR.grown hB
  have hsize : w.heap.size ≤ w'.heap.size := hB.size
  have hlow : C.W.heap.size ≤ w.heap.size := hR.keep.size
  have new : ∀ b p, Ow' b = some p → w.heap.size ≤ b ∧ b < w'.heap.size := fun b p hb => by
    obtain ⟨g1, g2⟩ := hX.ow b p hb
    rcases g1 with g | g
    · exact ⟨g, g2⟩
    · exact absurd g (fun h => h)
  have oldn : ∀ b, b < w.heap.size → Ow' b = none := fun b hb => by
    cases e : Ow' b with
    | none => rfl
    | some p => have := (new b p e).1; omega
  let ρ : Nat → Nat := fun n => s.nx + n
  have inj' : ∀ i j, i < m → j < m → ρ i = ρ j → i = j := fun i j _ _ e => by simp only [ρ] at e; omega
  let L2 : Names := fun n => if n < s.nx then L n else L' (n - s.nx)
  have L2r : ∀ n, n < m → L2 (ρ n) = L' n := fun n _ => by
    have : ¬ s.nx + n < s.nx := by omega
    simp only [L2, ρ, if_neg this]; congr 1; omega
  have L2n : ∀ n, L n = .free ∨ L2 n = L n ∨ L2 n = .gone := fun n => by
    rcases Nat.lt_or_ge n s.nx with g | g
    · exact .inr (.inl (by simp only [L2, if_pos g]))
    · exact .inl (hR.fresh n g)
  let Ow2 : Owners := fun b => match Ow' b with
    | some ((n + 1) :: q) => some ((ρ n + 1) :: q)
    | _ => Ow b
  have O1 : ∀ b n q, Ow' b = some ((n + 1) :: q) → Ow2 b = some ((ρ n + 1) :: q) := fun b n q hb => by simp only [Ow2, hb]
  have O2 : ∀ b p, Ow2 b = some p → (∃ n q, Ow' b = some ((n + 1) :: q) ∧ p = (ρ n + 1) :: q) ∨ Ow b = some p := fun b p hb => by
    simp only [Ow2] at hb
    split at hb
    · rename_i n q e; cases hb; exact .inl ⟨n, q, e, rfl⟩
    · exact .inr hb
  have O3 : ∀ b p, Ow b = some p → Ow2 b = some p := fun b p hb => by
    have := oldn b (hR.ow b p hb).2
    simp only [Ow2, this]; exact hb
  have hbl : ∀ n kk, lb (bl' ++ s.bl) n = some kk → (∃ j k0, j < m ∧ ρ j = n ∧ lb outs j = some k0 ∧ BlkC ρ m k0 kk) ∨ lb s.bl n = some kk := fun n kk hn => by
    rw [lb_append] at hn
    split at hn
    · rename_i k1 e
      cases hn
      exact .inl (hren.get hom inj' e)
    · exact .inr hn
  have hR2 : RelX C (aft0 s m bl') a w' S Ow2 L2 := by
    refine { fix := fix_of hR.fix L2n, keep := hR1.keep, inS := hR1.inS, upS := hR1.upS, ltS := hR1.ltS, owS := fun b hb => ?_, ow := fun b p hb => ?_, ow0 := fun b q hb => ?_, blk := fun n kk hn => ?_, fresh := fun n hn => ?_, named := fun n hn => ?_, freshO := fun b n q hb => ?_, slot := fun t x hx => ?_, size := hR1.size, defers := hR1.defers }
    · have := oldn b (hR.ltS b hb)
      simp only [Ow2, this]; exact hR.owS b hb
    · rcases O2 b p hb with ⟨n, q, h1, rfl⟩ | h3
      · obtain ⟨g1, g2⟩ := new b _ h1
        exact ⟨.inl (by omega), g2⟩
      · exact ⟨(hR.ow b p h3).1, by have := (hR.ow b p h3).2; omega⟩
    · rcases O2 b _ hb with ⟨n, q', h1, e⟩ | h3
      · cases e
      · exact hR.ow0 b q h3
    · rcases hbl n kk hn with ⟨j, k0, h1, rfl, h3, h4⟩ | h3
      · obtain ⟨loc, hl, hBk⟩ := hX.blk j k0 h3
        exact ⟨loc, by rw [L2r j h1]; exact hl, (hBk.ony (hoo (j, k0) (lb_mem h3))).fwd h4 L2r (fun b q hb => O1 b j q hb)⟩
      · obtain ⟨loc, hl, hBk⟩ := hR1.blk n kk h3
        have hnx : n < s.nx := by
          rcases Nat.lt_or_ge n s.nx with g | g
          · exact g
          · rw [hR.fresh n g] at hl; cases hl
        exact ⟨loc, by simp only [L2, if_pos hnx]; exact hl, hBk.names L2n (fun b q hb => O3 b _ hb)⟩
    · have hn' : s.nx + m ≤ n := hn
      simp only [L2, if_neg (show ¬ n < s.nx by omega)]
      exact hX.fresh _ (show m ≤ n - s.nx by omega)
    · have hn' : n < s.nx + m := hn
      rcases Nat.lt_or_ge n s.nx with g | g
      · simp only [L2, if_pos g]; exact hR.named n g
      · simp only [L2, if_neg (Nat.not_lt.2 g)]; exact hX.named _ (show n - s.nx < m by omega)
    · show n ≤ s.nx + m
      rcases O2 b _ hb with ⟨n', q', h1, e⟩ | h3
      · cases e
        have : n' + 1 ≤ m := hX.freshO b _ _ h1
        simp only [ρ]; omega
      · have := hR.freshO b _ _ h3; omega
    · obtain ⟨u, hu, hRp⟩ := hR1.slot t x hx
      exact ⟨u, hu, hRp.names L2n (fun b q hb => absurd hb (hR.ow0 b q))⟩
  have hv2 : Rep w' S Ow2 L2 [0] (En.ren ρ r) v := (hv.ony hor).fwd L2r (fun b q hb => absurd hb (hX.ow0 b q)) hr
  exact hK _ _ _ _ _ (hR2.put d hd hv2)
theorem fnd_wp {Q : Exit → Act → World → Prop} {K : Act → World → Prop} {C : Ctx} {a : Act} {w : World} {S : Nat → Prop} {Ow : Owners} {L : Names} {c : Operand} {aas : Array Operand} {ts : Array TypeId} {f : FuncId} {xs cap args : List AV} {m : Nat} {outs bl' : List (Nat × Blk)} {r : AV} (ho : ops[i]? = some o) (hg : gd ops s o = some true) (hop : o.op = .call ⟨.value c, aas, ts⟩) (hd : okd nt.n o.dst = true)
    (hc : ev s c = some (.fn f cap)) (he : aas.toList.mapM (ev s) = some xs) (hf : FzL s.bl (xs ++ cap) args) (hom : outs.all (fun p => decide (p.1 < m)) = true)
    (hp : Fn P f 0 args [] r m outs) (hor : Ony r) (hoo : ∀ p ∈ outs, onyR p.2.xs) (hr : okr m r = true) (hren : RenB (fun n => s.nx + n) m outs bl') (hn : C.nt = nt) (hR : RelX C s a w S Ow L) (hK : ∀ a' w' S' Ow' L', RelX C (put (aft0 s m bl') o.dst (En.ren (fun n => s.nx + n) r)) a' w' S' Ow' L' → K a' w') : wpOp P ops Q i K a w := by
  subst hn
  unfold wpOp
  simp only [ho]
  rw [gd_sound hR hg]
  simp only [if_true]
  left
  have hcr := ev_rep hR hc
  obtain ⟨us0, e, hl0, hr0⟩ := hcr.fn_inv
  rw [e] at hcr
  obtain ⟨hlen, hrep⟩ := args_rep hR he hcr hf
  unfold Oper.wp
  rw [exec_call hop e hp.1]
  refine Calls.mono (hp.2 w (fun _ => False) (lent S Ow) noOwner noName _ (fn0_enter (lent_lt hR)) hlen (fun i x u hx hu => (hrep i x u hx hu).any)) fun e' w' => ?_
  rintro ⟨v, rfl, S', Ow', L', hX, hv⟩
  exact fnd_post hd hom hor hoo hr hren hR hX hv hK
theorem GS.fnd {c : Operand} {aas : Array Operand} {ts : Array TypeId} {f : FuncId} {xs cap args : List AV} {m : Nat} {outs bl' : List (Nat × Blk)} {r : AV} (hp : Fn P f 0 args [] r m outs) (hop : o.op = .call ⟨.value c, aas, ts⟩) (hg : gd ops s o = some true) (hd : okd nt.n o.dst = true)
    (hc : ev s c = some (.fn f cap)) (he : aas.toList.mapM (ev s) = some xs) (hf : FzL s.bl (xs ++ cap) args) (hom : outs.all (fun p => decide (p.1 < m)) = true)
    (hor : Ony r) (hoo : ∀ p ∈ outs, onyR p.2.xs) (hr : okr m r = true) (hren : RenB (fun n => s.nx + n) m outs bl') (h : GS P nt ops K l (i + 1) (put (aft0 s m bl') o.dst (En.ren (fun n => s.nx + n) r))) : GS P nt ops K (o :: l) i s :=
  GS.cons (fun ho r' hr' => fun C a w S Ow L Q hn hR hQ => by
    rw [wpOps_cons]
    exact fnd_wp ho hg hop hd hc he hf hom hp hor hoo hr hren hn hR fun a' w' S' Ow' L' hR' => hr' C _ _ _ _ _ Q hn hR' hQ) h
theorem Fn.pure {f : FuncId} {args : List AV} {m : Nat} {outs : List (Nat × Blk)} {r r' : AV} (hp : Fn P f 0 args [] r m outs) (hf : Fz outs r r') : Pure P f args r' := by
  refine ⟨hp.1, fun W S us hlt hl hrep => ?_⟩
  refine Calls.mono (hp.2 W (fun _ => False) S noOwner noName us (fn0_enter hlt) hl (fun i x u hx hu => (hrep i x u hx hu).any)) fun e w' => ?_
  rintro ⟨v, rfl, S', Ow', L', hX, hv⟩
  refine ⟨v, rfl, hX.keep.below, lent S' Ow', fun k hk => .inl (hX.inS k hk), fun k hk => ⟨lent_lt hX k hk, ?_⟩, hv.fz hX hf⟩
  rcases hk with hk | hk
  · rcases hX.upS k hk with g | g | g
    · exact .inl g
    · exact .inr g
    · exact absurd g (fun h => h)
  · cases e : Ow' k with
    | none => exact absurd e hk
    | some p =>
      rcases (hX.ow k p e).1 with g | g
      · exact .inr g
      · exact absurd g (fun h => h)

/-! #### an inner row is closed again -/
theorem Rep.nf {w : World} {S : Nat → Prop} {Ow Ow' : Owners} {L L' : Names} {p p' : Path} {x : AV} {u : Value} (h : Rep w S Ow L p x u) (hx : En.nf x = true) (hO : ∀ k q, Ow k = some (p ++ q) → Ow' k = some (p' ++ q)) : Rep w S Ow' L' p' x u := by
  have e : En.ren1 id x = x := by cases x <;> simp_all [En.nf, En.ren1]
  exact Rep.ren1 (nx := 0) (ρ := id) (fun n hn => absurd hn (Nat.not_lt_zero n)) hO (by cases x <;> simp_all [En.nf, okr1]) (by rw [e]; exact h)
def reclo (n j i m : Nat) : Path → Path
  | a :: r => if a = m + 1 then (n + 1) :: j :: i :: r else a :: r
  | [] => []
theorem RelX.close {C : Ctx} {a : Act} {w : World} {S : Nat → Prop} {Ow : Owners} {L : Names} (h : RelX C s a w S Ow L) {n j i m z len : Nat} {b k : Blk} {row : List AV} (hb : lb s.bl n = some b) (hrow : b.xs[j]? = some row) (hi : row[i]? = some (.own m z 0 len)) (hm : lb s.bl m = some k) (hmn : m ≠ n) (hz : k.sz = z) (hlen : len = k.xs.length) (hnf : nfr k.xs) :
    ∃ Ow' L', RelX C ⟨s.tm, st (rm s.bl m) n { b with xs := b.xs.set j (row.set i (.ow k.e k.sz k.xs)) }, s.nx⟩ a w S Ow' L' := by
  subst hz hlen
  obtain ⟨loc, hl, hB⟩ := h.blk n b hb
  obtain ⟨loc2, hl2, hB2⟩ := h.blk m k hm
  obtain ⟨b', o', cap, mp, rfl, g1, cs, us', g2, g3, g4, g5, g6, g7⟩ := blk_all hB hrow
  have hrl := g5 j row hrow
  have hlt : ∀ {x : Nat} {lc : Loc}, L x = .at lc → x < s.nx := fun {x lc} e => by
    rcases Nat.lt_or_ge x s.nx with g | g
    · exact g
    · rw [h.fresh x g] at e; cases e
  have hnx := hlt hl
  let L' : Names := fun x => if x = m then .gone else L x
  let Ow' : Owners := fun c => (Ow c).map (reclo n j i m)
  have hLn : ∀ x, L x = .free ∨ L' x = L x ∨ L' x = .gone := fun x => by
    by_cases e : x = m
    · exact .inr (.inr (by simp [L', e]))
    · exact .inr (.inl (by simp [L', e]))
  have hOs : ∀ c x q, x ≠ m → Ow c = some ((x + 1) :: q) → Ow' c = some ((x + 1) :: q) := fun c x q hx hc => by simp [Ow', hc, reclo, hx]
  have hOm : ∀ c q, Ow c = some ((m + 1) :: q) → Ow' c = some ((n + 1) :: j :: i :: q) := fun c q hc => by simp [Ow', hc, reclo]
  have hOe : ∀ c p, Ow' c = some p → ∃ p0, Ow c = some p0 ∧ p = reclo n j i m p0 := fun c p hc => by
    simp only [Ow', Option.map_eq_some_iff] at hc
    obtain ⟨p0, h1, h2⟩ := hc
    exact ⟨p0, h1, h2.symm⟩
  have key : ∀ u, Rep w S Ow L [n + 1, j, i] (.own m k.sz 0 k.xs.length) u → Rep w S Ow' L' [n + 1, j, i] (.ow k.e k.sz k.xs) u := fun u hu => by
    rcases own_inv hu with ⟨b2, o2, cap2, hL, hle, rfl⟩ | ⟨b2, o2, cap2, ad, hL, hle, h0, rfl⟩ | ⟨hL, _, h0, A, rfl⟩ | hg
    · rw [hl2] at hL
      cases hL
      obtain ⟨g1, cs2, us2, g2, g3, g4, g5, g6, g7⟩ := hB2
      have := Rep.ow (w := w) (S := S) (Ow := Ow') (L := L') (p := [n + 1, j, i]) k.e k.sz k.xs b2 o2 cap2 cs2 us2 (hOm _ _ g1) g2 g3 g4 g5 g6 (fun j' row' i' x hj' hi' => (g7 j' row' i' x hj' hi').nf (hnf row' (List.mem_of_getElem? hj') x (List.mem_of_getElem? hi')) (fun c q hc => hOm c _ hc))
      simpa using this
    · have : k.xs = [] := List.eq_nil_of_length_eq_zero h0
      rw [this]
      exact .ow_nil _ _ _
    · have : k.xs = [] := List.eq_nil_of_length_eq_zero h0
      rw [this]
      exact .ow_nil _ _ _
    · rw [hl2] at hg; cases hg
  refine ⟨Ow', L', { fix := fix_of h.fix hLn, keep := h.keep, inS := h.inS, upS := h.upS, ltS := h.ltS, owS := fun c hc => by simp [Ow', h.owS c hc], ow := fun c p hc => ?_, ow0 := fun c q hc => ?_, blk := ?_, fresh := fun x hx => ?_, named := fun x hx => ?_, freshO := fun c x q hc => ?_, slot := fun t x hx => ?_, size := h.size, defers := h.defers }⟩
  · obtain ⟨p0, h1, _⟩ := hOe c p hc
    exact h.ow c p0 h1
  · obtain ⟨p0, h1, h2⟩ := hOe c _ hc
    unfold reclo at h2
    split at h2
    · split at h2
      · cases h2
      · exact h.ow0 c q (by rw [h1, h2])
    · cases h2
  · intro x kk hx
    simp only [lb_st, lb_rm] at hx
    by_cases e : n = x
    · subst e
      rw [if_pos rfl, if_neg hmn, hb] at hx
      simp only [Option.map_some, Option.some.injEq] at hx
      subst hx
      refine ⟨some (b', o', cap, mp), by simp only [L']; rw [if_neg (fun e => hmn e.symm)]; exact hl, ?_⟩
      refine ⟨hOs _ _ _ (fun e => hmn e.symm) g1, cs, us', by simpa using g2, g3, by simpa using g4, fun j' row' hj' => ?_, fun j' row' i' x hj' hi' => ?_, fun j' row' i' x hj' hi' => ?_⟩
      · rw [List.getElem?_set] at hj'
        split at hj'
        · split at hj'
          · cases hj'; simpa using hrl
          · cases hj'
        · exact g5 j' row' hj'
      · rw [List.getElem?_set] at hj'
        split at hj'
        · rename_i ej
          subst ej
          split at hj'
          · cases hj'
            have hlt' : i' < row.length := by have := (List.getElem?_eq_some_iff.1 hi').1; simpa using this
            exact g6 j row i' row[i'] hrow (List.getElem?_eq_getElem hlt')
          · cases hj'
        · exact g6 j' row' i' x hj' hi'
      · have other : ∀ (j2 i2 : Nat) (x2 : AV) (u2 : Value), Rep w S Ow L [n + 1, j2, i2] x2 u2 → Rep w S Ow' L' [n + 1, j2, i2] x2 u2 := fun j2 i2 x2 u2 hr2 =>
          hr2.names hLn (fun c q hc => hOs c n _ (fun e => hmn e.symm) hc)
        rw [List.getElem?_set] at hj'
        split at hj'
        · rename_i ej
          subst ej
          split at hj'
          · cases hj'
            rw [List.getElem?_set] at hi'
            split at hi'
            · rename_i ei
              subst ei
              split at hi'
              · cases hi'
                exact key _ (g7 j row i _ hrow hi)
              · cases hi'
            · exact other j i' x _ (g7 j row i' x hrow hi')
          · cases hj'
        · exact other j' i' x _ (g7 j' row' i' x hj' hi')
    · rw [if_neg e] at hx
      by_cases e2 : m = x
      · rw [if_pos e2] at hx; cases hx
      · rw [if_neg e2] at hx
        obtain ⟨loc3, hl3, hB3⟩ := h.blk x kk hx
        exact ⟨loc3, by simp only [L']; rw [if_neg (fun e => e2 e.symm)]; exact hl3, hB3.names hLn (fun c q hc => hOs c x _ (fun e => e2 e.symm) hc)⟩
  · have : x ≠ m := fun e => by have := hlt hl2; rw [← e] at this; exact Nat.lt_irrefl _ (Nat.lt_of_lt_of_le this hx)
    simp only [L', if_neg this]; exact h.fresh x hx
  · by_cases e : x = m
    · simp [L', e]
    · simp only [L', if_neg e]; exact h.named x hx
  · obtain ⟨p0, h1, h2⟩ := hOe c _ hc
    unfold reclo at h2
    split at h2
    · split at h2
      · cases h2; exact hnx
      · cases h2; exact h.freshO c _ _ h1
    · cases h2
  · obtain ⟨v, hv, hR⟩ := h.slot t x hx
    exact ⟨v, hv, hR.names hLn (fun c q hc => absurd hc (h.ow0 c q))⟩
theorem Cov.close {q : Nat} (n j i : Nat) {m z len : Nat} {b k : Blk} {row : List AV} (hb : lb s.bl n = some b) (hrow : b.xs[j]? = some row) (hi : row[i]? = some (.own m z 0 len)) (hm : lb s.bl m = some k) (hmn : (m == n) = false) (hz : k.sz = z) (hlen : len = k.xs.length) (hnf : nfr k.xs) : Cov q ⟨s.tm, st (rm s.bl m) n { b with xs := b.xs.set j (row.set i (.ow k.e k.sz k.xs)) }, s.nx⟩ s :=
  fun _ _ _ S _ _ _ h => ⟨S, h.close hb hrow hi hm (by simpa using hmn) hz hlen hnf⟩
theorem GS.close (n j i : Nat) {m z len : Nat} {b k : Blk} {row : List AV} (hb : lb s.bl n = some b) (hrow : b.xs[j]? = some row) (hi : row[i]? = some (.own m z 0 len)) (hm : lb s.bl m = some k) (hmn : (m == n) = false) (hz : k.sz = z) (hlen : len = k.xs.length) (hnf : nfr k.xs) (hs : (⟨s.tm, st (rm s.bl m) n { b with xs := b.xs.set j (row.set i (.ow k.e k.sz k.xs)) }, s.nx⟩ : AS) = s') {p : Nat} (h : GS P nt ops K l p s') : GS P nt ops K l p s :=
  GS.cov (Cov.close n j i hb hrow hi hm hmn hz hlen hnf) (by rw [hs]; exact h)
theorem Holds.close {c : Code} {Q : Exit → AS → Prop} (n j i : Nat) {m z len : Nat} {b k : Blk} {row : List AV} (hb : lb s.bl n = some b) (hrow : b.xs[j]? = some row) (hi : row[i]? = some (.own m z 0 len)) (hm : lb s.bl m = some k) (hmn : (m == n) = false) (hz : k.sz = z) (hlen : len = k.xs.length) (hnf : nfr k.xs) (hs : (⟨s.tm, st (rm s.bl m) n { b with xs := b.xs.set j (row.set i (.ow k.e k.sz k.xs)) }, s.nx⟩ : AS) = s') (h : Holds P nt c Q s') : Holds P nt c Q s :=
  Holds.cov (Cov.close n j i hb hrow hi hm hmn hz hlen hnf) (by rw [hs]; exact h)
theorem GS.fnnd {c : Operand} {aas : Array Operand} {ts : Array TypeId} {f : FuncId} {xs cap args : List AV} {m : Nat} {outs bl' : List (Nat × Blk)} {r : AV} {s1 : AS} (hp : Fn P f 0 args [] r m outs) (hop : o.op = .call ⟨.value c, aas, ts⟩) (hg : gd ops s o = some true) (hd : okd nt.n o.dst = true)
    (hc : ev s c = some (.fn f cap)) (he : aas.toList.mapM (ev s) = some xs) (hf : FzL s.bl (xs ++ cap) args) (hom : outs.all (fun p => decide (p.1 < m)) = true)
    (hor : Ony r) (hoo : ∀ p ∈ outs, onyR p.2.xs) (hr : okr m r = true) (hren : RenB (fun n => s.nx + n) m outs bl') (hs1 : put (aft0 s m bl') o.dst (En.ren (fun n => s.nx + n) r) = s1) (h : GS P nt ops K l (i + 1) s1) : GS P nt ops K (o :: l) i s := by
  subst hs1
  exact GS.fnd hp hop hg hd hc he hf hom hor hoo hr hren h
end
attribute [go_sem] aft0
end Go.Proofs.Ytejpklajfcngbaa.En
end
section
namespace Go.Proofs.Ytejpklajfcngbaa.En
open Go.RowKit
set_option linter.unusedSimpArgs false
set_option linter.unusedVariables false
section
attribute [local semireducible] G Gq Holds GS Pure Out Fn OutF
variable {P : Program} {nt : NT} {s s' : AS} {ops : Array Oper} {K : AS → Prop} {i : Nat} {o : Oper} {l : List Oper}
theorem Cov.open {q n j i : Nat} {b : Blk} {row : List AV} {e : TypeId} {z : Nat} {ys : List (List AV)} (hb : lb s.bl n = some b) (hrow : b.xs[j]? = some row) (hi : row[i]? = some (.ow e z ys)) :
    Cov q ⟨s.tm, (s.nx, ⟨e, z, ys⟩) :: st s.bl n { b with xs := b.xs.set j (row.set i (.own s.nx z 0 ys.length)) }, s.nx + 1⟩ s :=
  fun _ _ _ S _ _ _ h => by
    obtain ⟨Ow', L', u, h1, _⟩ := h.openOw hb hrow hi
    exact ⟨S, Ow', L', h1⟩
theorem Holds.open {c : Code} {Q : Exit → AS → Prop} (n j i : Nat) {b : Blk} {row : List AV} {e : TypeId} {z : Nat} {ys : List (List AV)} (hb : lb s.bl n = some b) (hrow : b.xs[j]? = some row) (hi : row[i]? = some (.ow e z ys))
    (hs : (⟨s.tm, (s.nx, ⟨e, z, ys⟩) :: st s.bl n { b with xs := b.xs.set j (row.set i (.own s.nx z 0 ys.length)) }, s.nx + 1⟩ : AS) = s') (h : Holds P nt c Q s') : Holds P nt c Q s := Holds.cov (Cov.open hb hrow hi) (by rw [hs]; exact h)
theorem GS.open (n j i : Nat) {b : Blk} {row : List AV} {e : TypeId} {z : Nat} {ys : List (List AV)} (hb : lb s.bl n = some b) (hrow : b.xs[j]? = some row) (hi : row[i]? = some (.ow e z ys))
    (hs : (⟨s.tm, (s.nx, ⟨e, z, ys⟩) :: st s.bl n { b with xs := b.xs.set j (row.set i (.own s.nx z 0 ys.length)) }, s.nx + 1⟩ : AS) = s') {p : Nat} (h : GS P nt ops K l p s') : GS P nt ops K l p s := GS.cov (Cov.open hb hrow hi) (by rw [hs]; exact h)
theorem Holds.condT {c : Operand} {x y : Code} {Q : Exit → AS → Prop} (hc : ev s c = some (.v (.bool true))) (h : Holds P nt x Q s) : Holds P nt (.cond c x y) Q s := Holds.cond hc (fun _ => h) (fun g => by cases g)
theorem Holds.condF {c : Operand} {x y : Code} {Q : Exit → AS → Prop} (hc : ev s c = some (.v (.bool false))) (h : Holds P nt y Q s) : Holds P nt (.cond c x y) Q s := Holds.cond hc (fun g => by cases g) (fun _ => h)
end
end Go.Proofs.Ytejpklajfcngbaa.En
end
section
namespace Go.Proofs.Ytejpklajfcngbaa.En
open Go.RowKit
set_option linter.unusedVariables false
variable {P : Program} {nt : NT} {s s' : AS} {ops : Array Oper} {K : AS → Prop} {o : Oper} {l : List Oper} {i : Nat}
theorem GS.stepD (D : Nat) (hD : (o.dst == some D) = false) (hg : gd ops s o = some true) (ha : astep P nt s o = some s') (h : GS P nt ops K l (i + 1) s') : GS P nt ops K (o :: l) i s := GS.step hg ha h
end Go.Proofs.Ytejpklajfcngbaa.En
end
section
namespace Go.Proofs.Ytejpklajfcngbaa.En
open Go.RowKit
set_option linter.unusedSimpArgs false
set_option linter.unusedVariables false
section
attribute [local semireducible] G Gq Holds GS Pure Out Fn OutF
variable {P : Program} {nt : NT} {Q : Exit → AS → Prop} {s s' s1 s2 t : AS} {ops : Array Oper} {K K1 KF : AS → Prop} {i : Nat} {o : Oper} {l : List Oper} {C : Ctx} {a : Act} {w : World} {S : Nat → Prop} {Ow : Owners} {L : Names} {md : Region.Mode} {M : Nat → Bool} {ws hs : List Nat}
def setN : Nat → Nat → Array Bool → Array Bool
  | 0, _, x => x
  | n + 1, k, x => setN n (k + 1) (x.setIfInBounds k true)
theorem Gx.closed {k : Nat} : ∀ s s', Eqv s s' → Gx P nt ops ws hs M K k l s → Gx P nt ops ws hs M K k l s' := fun s s' e h => .eqv e.symm h
theorem Gx.nil_inv {k : Nat} (hK : ∀ s s', Eqv s s' → K s → K s') (h : Gx P nt ops ws hs M K k [] s) : K s := by
  generalize hl : ([] : List Oper) = l at h
  induction h with
  | nil h => exact h
  | step _ _ _ => cases hl
  | eqv he _ ih => exact hK _ _ he.symm (ih hl)
theorem Gx.one {k : Nat} (hK : ∀ s s', Eqv s s' → K s → K s') (h : Gx P nt ops ws hs M K k [o] s) : ∃ s', xS P nt ops M (kind ws hs k) o s s' ∧ K s' := by
  generalize hl : [o] = l at h
  induction h with
  | nil h => cases hl
  | step hx h _ => cases hl; exact ⟨_, hx, h.nil_inv hK⟩
  | eqv he _ ih =>
    obtain ⟨s', hx, hk⟩ := ih hl
    obtain ⟨t', e', hx'⟩ := hx.eqv he.symm
    exact ⟨t', hx', hK _ _ e' hk⟩
theorem anyX_lexB (hKF : ∀ s s', Eqv s s' → KF s → KF s') {n2 : Nat} {k : Nat} {l : List Oper} {s : AS} (h : Gx P nt ops ws hs M K1 k l s) : ∀ (listed : Array Bool), DC md ops listed → (∀ j, j < l.length → l[j]? = ops[k + j]?) →
    Region.lexFrom md ops (l.length + n2) k listed = true → (∀ i, k ≤ i → i < k + l.length → kapI md ops ws hs i = true) →
    (∀ s, K1 s → DC md ops (setN l.length k listed) → Region.lexFrom md ops n2 (k + l.length) (setN l.length k listed) = true → AnyX P nt md ops ws hs M KF n2 (setN l.length k listed) s) → AnyX P nt md ops ws hs M KF (l.length + n2) listed s := by
  induction h with
  | nil h => intro listed hdc _ hB _ hb; simpa [setN] using hb _ h hdc (by simpa [setN] using hB)
  | eqv he _ ih => intro listed hdc hl hB hk hb; exact AnyX.eqv hKF _ _ _ _ he.symm (ih listed hdc hl hB hk hb)
  | step hx _ ih =>
    rename_i k o l s s' _
    intro listed hdc hl hB hk hb
    have h0 : ops[k]? = some o := by simpa using (hl 0 (by simp)).symm
    rw [show (o :: l).length + n2 = (l.length + n2) + 1 by simp only [List.length_cons]; omega] at hB ⊢
    simp only [Region.lexFrom, Bool.and_eq_true] at hB
    obtain ⟨⟨hr, hf⟩, hB'⟩ := hB
    have hr' : k ∈ Region.ready md ops listed := by simpa using hr
    refine anyX_firstI hKF (hk k (Nat.le_refl _) (by simp)) h0 (l.length + n2) listed s s' hdc (Region.free_spec h0 hf) hr' hx (ih _ (hdc.set hr') (fun j hj => ?_) hB' (fun i h1 h2 => hk i (by omega) (by simp only [List.length_cons]; omega)) ?_)
    · have := hl (j + 1) (by simp only [List.length_cons]; omega); simpa [Nat.add_assoc, Nat.add_comm 1 j] using this
    · intro s hs' hd hB2
      refine hb s hs' hd ?_
      simp only [List.length_cons, setN]
      rw [show k + (l.length + 1) = k + 1 + l.length by omega]; exact hB2
def Dia (P : Program) (nt : NT) (ops : Array Oper) (ws hs : List Nat) (M : Nat → Bool) (K : AS → Prop) (c : Nat) (oc oj : Oper) (l2 : List Oper) (s : AS) : Prop :=
  Gx P nt ops ws hs M (fun s1 => Gx P nt ops ws hs M (fun s2 => Gx P nt ops ws hs M K (c + 2) l2 s2) (c + 1) [oj] s1) c [oc] s ∧
  Gx P nt ops ws hs M (fun s1 => Gx P nt ops ws hs M (fun s2 => Gx P nt ops ws hs M K (c + 2) l2 s2) c [oc] s1) (c + 1) [oj] s
def diaB (md : Region.Mode) (ops : Array Oper) (c : Nat) : Bool :=
  let x := setN c 0 (Array.replicate ops.size false)
  (Region.ready md ops x).all (fun i => i == c || i == c + 1) && (Region.ready md ops (x.setIfInBounds c true)).all (fun i => i == c + 1) && (Region.ready md ops (x.setIfInBounds (c + 1) true)).all (fun i => i == c) &&
    (Region.ready md ops x).contains c && (Region.ready md ops (x.setIfInBounds c true)).contains (c + 1) && (Region.ready md ops (x.setIfInBounds (c + 1) true)).contains c && decide (c + 1 < ops.size)
def kapD (md : Region.Mode) (ops : Array Oper) (ws hs : List Nat) (c : Nat) : Bool := (List.range ops.size).all fun i => i == c || i == c + 1 || kapI md ops ws hs i
theorem Holds.dia {id c : Nat} {l1 l2 : List Oper} {oc oj : Oper} {y : Code} {Q' : Exit → AS → Prop} (s0 : AS) (ws hs : List Nat) (M : Nat → Bool) (hm : P.follows .mixedOrders = true) (h1 : l.take c = l1) (h2 : l.drop c = oc :: oj :: l2)
    (hB : Region.lexB .any l.toArray = true) (hD : (diaB .any l.toArray c && kapD .any l.toArray ws hs c) = true)
    (hx : Gx P nt l.toArray ws hs M (fun s => Dia P nt l.toArray ws hs M (fun s' => Cov nt.k s0 s') c oc oj l2 s) 0 l1 s) (hk : Holds P nt y Q' s0) : Holds P nt (.region id l.toArray true) (thenA (Holds P nt y Q') Q) s := by
  intro C a w S Ow L hn hR
  simp only [Bool.and_eq_true] at hD
  obtain ⟨hD, hkap⟩ := hD
  simp only [diaB, Bool.and_eq_true, List.all_eq_true, decide_eq_true_eq, Bool.or_eq_true, beq_iff_eq, List.contains_iff_mem, List.size_toArray] at hD
  obtain ⟨⟨⟨⟨⟨⟨d1, d2⟩, d3⟩, d4⟩, d5⟩, d6⟩, d7⟩ := hD
  simp only [kapD, List.all_eq_true, Bool.or_eq_true, beq_iff_eq, List.mem_range, List.size_toArray] at hkap
  simp only [Region.lexB, Bool.and_eq_true] at hB
  refine wp_region_any hm ?_
  have hlen : l.length = l1.length + (l2.length + 1 + 1) := by
    have h3 := congrArg List.length h1
    have h4 := congrArg List.length h2
    simp only [List.length_take, List.length_drop, List.length_cons] at h3 h4
    omega
  have hc : l1.length = c := by
    have h3 := congrArg List.length h1
    simp only [List.length_take] at h3
    omega
  have hl1 : ∀ j, j < l1.length → l1[j]? = l.toArray[0 + j]? := fun j hj => by
    rw [← h1, List.getElem?_take, if_pos (by omega), Nat.zero_add, List.getElem?_toArray]
  have hl2 : ∀ j, (oc :: oj :: l2)[j]? = l.toArray[c + j]? := fun j => by
    rw [← h2, List.getElem?_drop, List.getElem?_toArray]
  -- K: closed under Eqv
  let KF : AS → Prop := fun s => ∃ s1, Eqv s1 s ∧ Cov nt.k s0 s1
  have hKF : ∀ s s' : AS, Eqv s s' → KF s → KF s' := fun s s' e ⟨s1, e1, q⟩ => ⟨s1, e1.trans e, q⟩
  have mono : ∀ {K K' : AS → Prop} (hk : ∀ s, K s → K' s) {k : Nat} {l' : List Oper} {s : AS}, Gx P nt l.toArray ws hs M K k l' s → Gx P nt l.toArray ws hs M K' k l' s := by
    intro K K' hk k l' s h
    induction h with
    | nil h => exact .nil (hk _ h)
    | step hx _ ih => exact .step hx ih
    | eqv he _ ih => exact .eqv he ih
  have base : ∀ s, Dia P nt l.toArray ws hs M (fun s' => Cov nt.k s0 s') c oc oj l2 s → DC .any l.toArray (setN c 0 (Array.replicate l.length false)) →
      Region.lexFrom .any l.toArray (l2.length + 1 + 1) c (setN c 0 (Array.replicate l.length false)) = true → AnyX P nt .any l.toArray ws hs M KF (l2.length + 1 + 1) (setN c 0 (Array.replicate l.length false)) s := by
    intro s ⟨w1, w2⟩ hdc hB2
    generalize setN c 0 (Array.replicate l.length false) = x at hdc hB2 d1 d2 d3 d4 d5 d6
    have o1 : l.toArray[c]? = some oc := by simpa using (hl2 0).symm
    have o2 : l.toArray[c + 1]? = some oj := by simpa using (hl2 1).symm
    simp only [Region.lexFrom, Bool.and_eq_true] at hB2
    have hB3 := hB2.2.2
    have hdc2 := (hdc.set d4).set d5
    have rest : ∀ s, Gx P nt l.toArray ws hs M (fun s' => Cov nt.k s0 s') (c + 2) l2 s → AnyX P nt .any l.toArray ws hs M KF l2.length ((x.setIfInBounds c true).setIfInBounds (c + 1) true) s := by
      intro s hg
      have hg2 := mono (K' := KF) (fun s h => ⟨s, Eqv.refl s, h⟩) hg
      have := anyX_lexB (md := .any) (n2 := 0) hKF hg2 ((x.setIfInBounds c true).setIfInBounds (c + 1) true) hdc2 (fun j hj => by
        have := hl2 (j + 2); simpa [Nat.add_assoc, Nat.add_comm 2 j] using this) (by simpa using hB3) (fun i h1 h2 => by
          rcases hkap i (by omega) with (h | h) | h
          · omega
          · omega
          · exact h) (fun s hs' _ hB4 => ⟨by simpa [Region.lexFrom] using hB4, hs'⟩)
      simpa using this
    obtain ⟨sa, xa, ga⟩ := w1.one (fun s s' e h => Gx.closed s s' e h)
    obtain ⟨sb, xb, gb⟩ := Gx.one (fun s s' e h => Gx.closed s s' e h) ga
    obtain ⟨sc, xc, gc⟩ := w2.one (fun s s' e h => Gx.closed s s' e h)
    obtain ⟨sd, xd, gd⟩ := Gx.one (fun s s' e h => Gx.closed s s' e h) gc
    refine ⟨fun h => (by rw [h] at d4; cases d4), fun i hi => ?_⟩
    rcases d1 i hi with rfl | rfl
    · refine ⟨oc, sa, o1, xa, fun h => (by rw [h] at d5; cases d5), fun i hi => ?_⟩
      obtain rfl := d2 i hi
      exact ⟨oj, sb, o2, xb, rest sb gb⟩
    · refine ⟨oj, sc, o2, xc, fun h => (by rw [h] at d6; cases d6), fun i hi => ?_⟩
      obtain rfl := d3 i hi
      refine ⟨oc, sd, o1, xd, ?_⟩
      rw [Array.setIfInBounds_comm _ _ (by omega)]
      exact rest sd gd
  have := anyX_lexB (md := .any) (n2 := l2.length + 1 + 1) hKF hx (Array.replicate l.length false) (fun j o _ hj => by
    have : (Array.replicate l.length false).getD j false = false := by
      simp only [Array.getD_eq_getD_getElem?, Array.getElem?_replicate]; split <;> rfl
    rw [this] at hj; cases hj) hl1 (by rw [← hlen]; simpa using hB.2) (fun i h1 h2 => by
      rcases hkap i (by omega) with (h | h) | h
      · omega
      · omega
      · exact h) (by rw [hc, Nat.zero_add]; exact base)
  rw [← hlen] at this
  refine wpAny_of_anyX (K := KF) (fun s' a w S Ow L hk' hR => ?_) hn _ _ _ _ _ _ _ _ (hR.drawn (w' := { w with drawn := w.drawn + 1 }) rfl rfl rfl rfl) (by simpa using this)
  obtain ⟨s1, e, q⟩ := hk'
  exact ⟨s1, S, Ow, L, thenA_normal (Holds.cov q hk), hR.eqv e.symm⟩
theorem Cs.bs {t : TypeId} {len d sz : Nat} {parts : Array (Nat × Operand)} {es : List (Nat × AV)} {e : TypeId} {rows : List (List AV)} {r : AV} (hop : o.op = .buildSlice t len parts) (hg : gd ops s o = some true) (hdst : o.dst = some d) (hd : okd nt.n o.dst = true)
    (hes : ∀ p ∈ es, lk s.tm p.1 = some p.2 ∧ cl p.2 = true ∧ Operand.tmp p.1 ∈ o.op.operands) (hx : abuildSlice P ⟨es, [], 0⟩ t len parts = some (.own 0 sz 0 rows.length, ⟨es, [(0, ⟨e, sz, rows⟩)], 1⟩)) (hr : r = .im sz rows) (hc : ∀ row ∈ rows, ∀ x ∈ row, cl1 x = true) : Cs P nt ops s o r := by
  refine ⟨fun tm' bl nx h' C a w S Ow L i Q K hn ho hR hK => ?_⟩
  subst hn
  unfold wpOp
  simp only [ho]
  rw [gd_sound hR (by rw [gd_tm (s := s) h']; exact hg)]
  simp only [if_true]
  left
  unfold Oper.wp
  have h0 : RelX ⟨w, fun _ => False, S, ⟨C.nt.n, 0⟩, fixOf 0 noName⟩ ⟨es, [], 0⟩ a w S noOwner noName :=
    { fix := fun n loc hn => absurd (fixOf_eq (k := 0) (L := noName) (n := n) (loc := loc) |>.1 hn).1 (Nat.not_lt_zero n)
      keep := Keep.refl _ _, inS := fun _ h => h, upS := fun _ h => .inl h, ltS := hR.ltS, owS := fun _ _ => rfl, ow := fun b p hb => by cases hb
      ow0 := fun b q hb => by cases hb
      blk := fun n kk hn => by cases hn
      fresh := fun n _ => rfl, named := fun n hn => by cases hn
      freshO := fun b n q hb => by cases hb
      slot := fun q x hx' => by
        have hm : ∃ p ∈ es, p = (q, x) := by
          clear hx hes
          induction es with
          | nil => cases hx'
          | cons p es ih =>
            obtain ⟨k, y⟩ := p
            simp only [lk] at hx'
            split at hx'
            · rename_i hk; subst hk; cases hx'; exact ⟨_, .head _, rfl⟩
            · obtain ⟨p', hp', e'⟩ := ih hx'; exact ⟨p', .tail _ hp', e'⟩
        obtain ⟨p, hp, rfl⟩ := hm
        obtain ⟨h1, h2, h3⟩ := hes _ hp
        have hlook : q ∈ o.looksAt ops := by
          refine List.mem_append_left _ (List.mem_filterMap.2 ⟨Operand.tmp q, ?_, rfl⟩)
          simpa using h3
        have hq : lk tm' q = some x := (h' q hlook).trans h1
        obtain ⟨u, hu, hrep⟩ := hR.slot q x hq
        exact ⟨u, hu, hrep.cl h2⟩
      size := hR.size, defers := hR.defers }
  obtain ⟨u, w', Ow', L', hrun, hR', hu⟩ := abuildSlice_sound h0 hop hx
  rw [hrun]
  have hput := hR'.put (some d) (by rw [← hdst]; exact hd) hu
  obtain ⟨S2, Ow2, L2, hR2⟩ := hput.freeze (N := [0]) (ts := [(d, .im sz rows)]) (.cons (x := .own 0 sz 0 rows.length) (by simp [put, lk]) (Fz.all (k := ⟨e, sz, rows⟩) (by simp [put, lb]) rfl rfl rfl hc) .nil)
  obtain ⟨v, hv, hvr⟩ := hR2.slot d (.im sz rows) (by simp [frz, lk])
  have hvu : v = u := by
    have hsz : d < a.tmps.size := by
      rw [hR.size]
      rw [hdst] at hd
      simpa [okd] using hd
    simp only [Act.put] at hv
    rw [Array.getElem?_setIfInBounds_self_of_lt hsz] at hv
    exact (Option.some.inj hv).symm
  subst hvu
  subst hr
  refine hK _ _ S2 Ow L ((hR.more hR2.keep.below hR2.inS (fun k hk => ⟨hR2.ltS k hk, ?_⟩)).put o.dst hd ?_)
  · rcases hR2.upS k hk with g | g | g
    · exact .inl g
    · exact .inr g
    · exact g.elim
  · cases hvr with
    | im _ _ A c ad us hc ha hS' hz hcell hr => exact .im _ _ A c ad us hc ha hS' hz hcell hr
theorem Gx.bs {k : Nat} {t : TypeId} {len d sz : Nat} {parts : Array (Nat × Operand)} (es : List (Nat × AV)) {e : TypeId} {rows : List (List AV)} (hk : kind ws hs k = .c) (hop : o.op = .buildSlice t len parts) (hg : gd ops s o = some true) (hdst : o.dst = some d) (hd : okd nt.n o.dst = true)
    (hes : ∀ p ∈ es, lk s.tm p.1 = some p.2 ∧ cl p.2 = true ∧ Operand.tmp p.1 ∈ o.op.operands) (hx : abuildSlice P ⟨es, [], 0⟩ t len parts = some (.own 0 sz 0 rows.length, ⟨es, [(0, ⟨e, sz, rows⟩)], 1⟩)) (hc : ∀ row ∈ rows, ∀ x ∈ row, cl1 x = true) (h : Gx P nt ops ws hs M K (k + 1) l (put s o.dst (.im sz rows))) : Gx P nt ops ws hs M K k (o :: l) s := by
  refine .step (s' := put s o.dst (.im sz rows)) ?_ h
  rw [hk]
  exact ⟨_, Cs.bs hop hg hdst hd hes hx rfl hc, rfl⟩
theorem FzL.sub {bl bl' : List (Nat × Blk)} {xs ys : List AV} (h : FzL bl xs ys) (e : bl = bl') : FzL bl' xs ys := e ▸ h
theorem Wr.fnd {c : Operand} {aas : Array Operand} {ts : Array TypeId} {f : FuncId} {xs cap args : List AV} {m : Nat} {outs bl' : List (Nat × Blk)} {r : AV} (hp : Fn P f 0 args [] r m outs) (hop : o.op = .call ⟨.value c, aas, ts⟩) (hg : gd ops s o = some true) (hd : okd nt.n o.dst = true)
    (hc : ev s c = some (.fn f cap)) (he : aas.toList.mapM (ev s) = some xs) (hf : FzL s.bl (xs ++ cap) args) (hom : outs.all (fun p => decide (p.1 < m)) = true)
    (hor : Ony r) (hoo : ∀ p ∈ outs, onyR p.2.xs) (hr : okr m r = true) (hren : RenB (fun n => s.nx + n) m outs bl') (hM : (bl' ++ s.bl).filter (fun p => !M p.1) = s.bl.filter fun p => !M p.1) : Wr P nt ops M s o (En.ren (fun n => s.nx + n) r) (bl' ++ s.bl) (s.nx + m) := by
  refine ⟨hM, fun tm' h' C a w S Ow L i Q K hn ho hR hK => ?_⟩
  have hev : ∀ y ∈ o.op.operands, ev ⟨tm', s.bl, s.nx⟩ y = ev s y := ev_tm (s1 := ⟨tm', s.bl, s.nx⟩) h'
  have hev' := hev
  rw [hop] at hev'
  simp only [Op.operands, Call.operands] at hev'
  exact fnd_wp (s := ⟨tm', s.bl, s.nx⟩) ho (by rw [gd_tm (s := s) h']; exact hg) hop hd (by rw [hev' _ (by simp)]; exact hc)
    (by rw [mapM_congr (g := ev s) fun y hy => hev' y (by simp at hy; simp [hy])]; exact he) hf hom hp hor hoo hr hren hn hR hK
theorem Gx.fnnd {k : Nat} {c : Operand} {aas : Array Operand} {ts : Array TypeId} {f : FuncId} {xs cap args : List AV} {m : Nat} {outs bl' : List (Nat × Blk)} {r : AV} (hp : Fn P f 0 args [] r m outs) (hk : kind ws hs k = .w) (hop : o.op = .call ⟨.value c, aas, ts⟩) (hg : gd ops s o = some true) (hd : okd nt.n o.dst = true)
    (hc : ev s c = some (.fn f cap)) (he : aas.toList.mapM (ev s) = some xs) (hf : FzL s.bl (xs ++ cap) args) (hom : outs.all (fun p => decide (p.1 < m)) = true)
    (hor : Ony r) (hoo : ∀ p ∈ outs, onyR p.2.xs) (hr : okr m r = true) (hren : RenB (fun n => s.nx + n) m outs bl') (hM : (bl' ++ s.bl).filter (fun p => !M p.1) = s.bl.filter fun p => !M p.1) (hs1 : put (aft0 s m bl') o.dst (En.ren (fun n => s.nx + n) r) = s1) (h : Gx P nt ops ws hs M K (k + 1) l s1) : Gx P nt ops ws hs M K k (o :: l) s := by
  subst hs1
  refine .step (s' := put (aft0 s m bl') o.dst (En.ren (fun n => s.nx + n) r)) ?_ h
  rw [hk]
  exact ⟨_, _, _, Wr.fnd hp hop hg hd hc he hf hom hor hoo hr hren hM, rfl⟩
theorem Gx.fnndo {k : Nat} {c : Operand} {aas : Array Operand} {ts : Array TypeId} {f : FuncId} {xs cap args : List AV} {m : Nat} {outs bl' : List (Nat × Blk)} {r : AV} (hp : Fn P f 0 args [] r m outs) (hk : kind ws hs k = .o) (hop : o.op = .call ⟨.value c, aas, ts⟩) (hg : gd ops s o = some true) (hd : okd nt.n o.dst = true)
    (hc : ev s c = some (.fn f cap)) (he : aas.toList.mapM (ev s) = some xs) (hf : FzL s.bl (xs ++ cap) args) (hom : outs.all (fun p => decide (p.1 < m)) = true)
    (hor : Ony r) (hoo : ∀ p ∈ outs, onyR p.2.xs) (hr : okr m r = true) (hren : RenB (fun n => s.nx + n) m outs bl') (hs1 : put (aft0 s m bl') o.dst (En.ren (fun n => s.nx + n) r) = s1) (h : Gx P nt ops ws hs M K (k + 1) l s1) : Gx P nt ops ws hs M K k (o :: l) s := by
  subst hs1
  refine .step (s' := put (aft0 s m bl') o.dst (En.ren (fun n => s.nx + n) r)) ?_ h
  rw [hk]
  exact ⟨_, _, _, Wr.fnd (M := fun _ => true) hp hop hg hd hc he hf hom hor hoo hr hren (hid_all _ _), rfl⟩
end
end Go.Proofs.Ytejpklajfcngbaa.En
end
section
namespace Go.Proofs.Ytejpklajfcngbaa.En
open Go.RowKit
set_option linter.unusedSimpArgs false
set_option linter.unusedVariables false
section
attribute [local semireducible] G Gq Holds GS Pure Out Fn OutF
variable {P : Program} {nt : NT} {Q : Exit → AS → Prop} {s s' : AS} {K : AS → Prop} {c : Code}
end
end Go.Proofs.Ytejpklajfcngbaa.En
end
section
namespace Go.Proofs.Ytejpklajfcngbaa.En
open Go.RowKit
set_option linter.unusedSimpArgs false
set_option linter.unusedVariables false
section
attribute [local semireducible] G Gq Holds GS Pure Out Fn OutF
variable {P : Program} {nt : NT} {Q : Exit → AS → Prop} {s s' : AS} {K : AS → Prop} {ops : Array Oper} {o : Oper} {l : List Oper} {i : Nat}
def FnX {α : Type} (P : Program) (f : FuncId) (args : List AV) (r : α → AV) (m : Nat) (outs : α → List (Nat × Blk)) (R : α → Prop) : Prop :=
  Ent P f ∧ ∀ (W : World) (X S : Nat → Prop) (Ow : Owners) (L : Names) (us : List Value), RelX ⟨W, X, S, ⟨0, 0⟩, fixOf 0 L⟩ ⟨[], [], 0⟩ a0 W S Ow L →
    us.length = args.length → (∀ (i : Nat) (x : AV) (u : Value), args[i]? = some x → us[i]? = some u → Rep W S Ow L [0] x u) →
    Calls P f us.toArray W fun e w' => ∃ a, R a ∧ ∃ v, e = .returned v ∧ ∃ S' Ow' L', RelX ⟨W, X, S, ⟨0, 0⟩, fixOf 0 L⟩ ⟨[], outs a, m⟩ a0 w' S' Ow' L' ∧ Rep w' S' Ow' L' [0] (r a) v
theorem FnX.mk {α : Type} {f : FuncId} {fn : Func} {c : Code} {args : List AV} {rs : List ResultVar} {r : α → AV} {nt m : Nat} {outs : α → List (Nat × Blk)} {R : α → Prop} (hf : P.funcs[f]? = some fn) (hn : (fn.name == "runtime.NumGoroutine") = false) (hb : fn.body = some c) (hr : fn.results = rs.toArray) (hnt : fn.ntmps = nt) (hle : args.length ≤ nt)
    (h : Holds P ⟨nt, 0⟩ c (fun e s => ∃ a, R a ∧ OutF P rs 0 (r a) m (outs a) e s) ⟨sl 0 args, [], 0⟩) : FnX P f args r m outs R := by
  subst hnt
  refine ⟨⟨fn, hf, hn, by rw [hb]; rfl⟩, fun W X S Ow L us hR0 hl hrep => calls_of_wp hf hb ?_⟩
  have hR : RelX ⟨W, X, S, ⟨fn.ntmps, 0⟩, fixOf 0 L⟩ ⟨sl 0 args, [], 0⟩ { tmps := us.toArray ++ Array.replicate (fn.ntmps - us.toArray.size) undef, defers := [] } W S Ow L := by
    refine hR0.slots rfl rfl rfl rfl rfl (fun t x hx => ?_) ?_ rfl
    · obtain ⟨_, hx⟩ := lk_sl args 0 t x hx
      rw [Nat.sub_zero] at hx
      have hlt : t < us.length := by have := (List.getElem?_eq_some_iff.1 hx).1; omega
      have hu : us[t]? = some us[t] := List.getElem?_eq_getElem hlt
      refine ⟨us[t], ?_, hrep t x _ hx hu⟩
      rw [Array.getElem?_append_left (by simpa using hlt)]
      simp [hlt]
    · have hsz : us.toArray.size = args.length := by simpa using hl
      simp; omega
  refine wp_mono (h _ _ _ _ _ _ rfl hR) ?_
  rintro e a w ⟨s, S1, Ow1, L1, ⟨z, hz, he, s0, xs, ρ, hc, hx, hpk, hok, hb, hk⟩, hR1⟩
  obtain ⟨S2, Ow2, L2, hR2⟩ := hc _ _ _ _ _ _ rfl hR1
  obtain ⟨v, hv, hrv⟩ := results_run hR2 fn hr hx
  rw [hpk] at hrv
  obtain ⟨S3, Ow3, L3, hR3, hval, _⟩ := covk (s0 := ⟨[], outs z, m⟩) ρ (fun n hn => ⟨(hk n hn).1, fun _ => (hk n hn).2⟩) trivial hb rfl hR2
  have fin : a.defers = [] ∧ ∃ v, (results fn a.tmps).run P w = .ok v w ∧ ∃ a, R a ∧ ∃ v', Ending.returned v = .returned v' ∧ ∃ S' Ow' L', RelX ⟨W, X, S, ⟨0, 0⟩, fixOf 0 L⟩ ⟨[], outs a, m⟩ a0 w S' Ow' L' ∧ Rep w S' Ow' L' [0] (r a) v' :=
    ⟨hR1.defers, v, hv, z, hz, v, rfl, S3, Ow3, L3, hR3.slots rfl rfl rfl rfl rfl (fun t x hx => (by cases hx)) rfl rfl, hval (r z) v hok hrv⟩
  rcases he with rfl | rfl
  · exact fin
  · exact fin
end
attribute [irreducible] FnX
end Go.Proofs.Ytejpklajfcngbaa.En
end
section
namespace Go.Proofs.Ytejpklajfcngbaa.En
open Go.RowKit
set_option linter.unusedSimpArgs false
set_option linter.unusedVariables false
section
attribute [local semireducible] G Gq Holds GS Pure Out Fn OutF
variable {P : Program} {nt : NT} {Q : Exit → AS → Prop} {s s' : AS} {K : AS → Prop} {ops : Array Oper} {o : Oper} {l : List Oper} {i : Nat} {C : Ctx} {a : Act} {w : World} {S : Nat → Prop} {Ow : Owners} {L : Names}
theorem Rep.fz0 {S2 : Nat → Prop} (hle : ∀ k, S k → S2 k) {x y : AV} (hf : Fz [] x y) : ∀ {p : Path} {u : Value} {L1 : Names}, (∀ b q, Ow b = some (p ++ q) → S2 b ∧ b < w.heap.size) → Rep w S Ow L1 p x u → ∀ {p' : Path}, Rep w S2 noOwner noName p' y u := by
  have ext : ∀ {p : Path}, (∀ b q, Ow b = some (p ++ q) → S2 b ∧ b < w.heap.size) → ∀ (e : Path), ∀ b q, Ow b = some (p ++ e ++ q) → S2 b ∧ b < w.heap.size := fun {p} hp e b q hq => by
    rw [List.append_assoc] at hq
    exact hp b (e ++ q) hq
  induction hf with
  | v x => intro p u L1 hp hr p'; obtain ⟨rfl, h1⟩ := hr.v_inv; exact .v _ h1
  | nl sz =>
    intro p u L1 hp hr p'
    obtain ⟨rfl, _⟩ := hr.v_inv
    exact .im sz [] none 0 ⟨0, 0, none⟩ (fun _ _ => undef) (Nat.le_refl 0) (fun hx => absurd rfl hx) (fun hx => absurd rfl hx) (fun j row hj => by simp at hj) (fun j row i y hj => by simp at hj) (fun j row i y hj => by simp at hj)
  | im sz xs =>
    intro p u L1 hp hr p'
    cases hr with
    | im _ _ A c ad us hc ha hS hz hcell hrr =>
      exact (Rep.im sz xs A c ad us hc ha hS hz hcell hrr : Rep w S noOwner noName p' (.im sz xs) _).world (Nat.le_refl _) hle (fun _ _ => rfl) (fun _ _ _ => rfl)
  | pi xs =>
    intro p u L1 hp hr p'
    cases hr with
    | pi _ ad us hS hcell hrr =>
      exact (Rep.pi xs ad us hS hcell hrr : Rep w S noOwner noName p' (.pi xs) _).world (Nat.le_refl _) hle (fun _ _ => rfl) (fun _ _ _ => rfl)
  | ag xs ys hl _ ih =>
    intro p u L1 hp hr p'
    obtain ⟨us, rfl, h1, h2⟩ := hr.ag_inv
    refine .ag ys us (by omega) fun i y u hy hu => ?_
    obtain ⟨x, hx⟩ := get_of_len hl hy
    exact ih i x y hx hy (ext hp _) (h2 i x u hx hu)
  | tu xs ys hl _ ih =>
    intro p u L1 hp hr p'
    obtain ⟨us, rfl, h1, h2⟩ := hr.tu_inv
    refine .tu ys us (by omega) fun i y u hy hu => ?_
    obtain ⟨x, hx⟩ := get_of_len hl hy
    exact ih i x y hx hy (ext hp _) (h2 i x u hx hu)
  | fn g xs ys hl _ ih =>
    intro p u L1 hp hr p'
    obtain ⟨us, rfl, h1, h2⟩ := hr.fn_inv
    refine .fn g ys us (by omega) fun i y u hy hu => ?_
    obtain ⟨x, hx⟩ := get_of_len hl hy
    exact ih i x y hx hy (ext hp _) (h2 i x u hx hu)
  | ow e sz xs ys hl h1 _ ih =>
    intro p u L1 hp hr p'
    cases hr with
    | ow _ _ _ b o cap cs us ho hh hs hc hz hcell hrr =>
      have here := hp b [] (by simpa using ho)
      have e0 : xs.length = ys.length := hl.symm
      rw [e0]
      refine .im sz ys _ cap ⟨b, o * sz, none⟩ us (by omega) (fun _ => rfl) (fun _ => ⟨here.1, here.2, rfl⟩) (fun j row hj => ?_) (fun j row i y hj hi => ?_) (fun j row i y hj hi => ?_)
      · obtain ⟨r, hx⟩ := get_of_len hl hj
        rw [h1 j r row hx hj]; exact hz j r hx
      · obtain ⟨r, hx⟩ := get_of_len hl hj
        obtain ⟨x, hxi⟩ := get_of_len (h1 j r row hx hj) hi
        have := hcell j r i x hx hxi
        rw [cell_of_row w b _ cs e (0, 0) hh, ← this, Nat.add_mul, Nat.add_assoc]
      · obtain ⟨r, hx⟩ := get_of_len hl hj
        obtain ⟨x, hxi⟩ := get_of_len (h1 j r row hx hj) hi
        exact ih j r row i x y hx hj hxi hi (ext hp _) (hrr j r i x hx hxi)
    | ow_nil _ _ A0 =>
      have : ys = [] := List.eq_nil_of_length_eq_zero (by simpa using hl)
      subst this
      exact .im sz [] A0 0 ⟨0, 0, none⟩ (fun _ _ => undef) (Nat.le_refl 0) (fun hx => absurd rfl hx) (fun hx => absurd rfl hx) (fun j row hj => by simp at hj) (fun j row i y hj => by simp at hj) (fun j row i y hj => by simp at hj)
  | own n off len k ys zs hk => cases hk
  | pb n j i k row ys hk => cases hk
def innOw (n : Nat) : Path → Bool
  | (m + 1) :: _ :: _ => m == n
  | _ => false
theorem RelX.inner (h : RelX C s a w S Ow L) {n : Nat} {k k' : Blk} (hk : lb s.bl n = some k) (he : k'.e = k.e) (hz : k'.sz = k.sz) (hl : k'.xs.length = k.xs.length)
    (hr : ∀ (j : Nat) (row row' : List AV), k.xs[j]? = some row → k'.xs[j]? = some row' → row'.length = row.length ∧ ∀ (i : Nat) (x y : AV), row[i]? = some x → row'[i]? = some y → Fz [] x y) : ∃ S' Ow', RelX C { s with bl := st s.bl n k' } a w S' Ow' L := by
  let S' : Nat → Prop := fun b => S b ∨ ∃ p, Ow b = some p ∧ innOw n p = true
  let Ow' : Owners := fun b => (Ow b).bind fun p => if innOw n p = true then none else some p
  have hO : ∀ b p, Ow' b = some p → Ow b = some p := fun b p hb => by
    simp only [Ow', Option.bind_eq_some_iff] at hb
    obtain ⟨p0, h0, h1⟩ := hb
    split at h1
    · cases h1
    · cases h1; exact h0
  have hO2 : ∀ b p, Ow b = some p → innOw n p = false → Ow' b = some p := fun b p hb hn => by simp [Ow', hb, hn]
  have hS : ∀ k, S k → S' k := fun k hk => .inl hk
  have up : ∀ p x u, (∀ q, innOw n (p ++ q) = false) → Rep w S Ow L p x u → Rep w S' Ow' L p x u := fun p x u hp hx =>
    (hx.world (Nat.le_refl _) hS (fun _ _ => rfl) (fun _ _ _ => rfl)).names (fun _ => .inr (.inl rfl)) (fun b q hb => hO2 b _ hb (hp q))
  refine ⟨S', Ow', { fix := h.fix, keep := h.keep, inS := fun k hk => .inl (h.inS k hk), upS := fun k hk => ?_, ltS := fun k hk => ?_, owS := fun k hk => ?_, ow := fun k p hk => h.ow k p (hO k p hk), ow0 := fun k q hk => h.ow0 k q (hO _ _ hk), blk := fun m kk hm => ?_, fresh := h.fresh, named := h.named, freshO := fun k n q hk => h.freshO k n q (hO _ _ hk), slot := fun t y hy => ?_, size := h.size, defers := h.defers }⟩
  · rcases hk with hk | ⟨p, hk, _⟩
    · exact h.upS k hk
    · exact .inr (h.ow k _ hk).1
  · rcases hk with hk | ⟨p, hk, _⟩
    · exact h.ltS k hk
    · exact (h.ow k _ hk).2
  · rcases hk with hk | ⟨p, hk, hp⟩
    · simp [Ow', h.owS k hk]
    · simp [Ow', hk, hp]
  · simp only [lb_st] at hm
    by_cases e : n = m
    · subst e
      rw [if_pos rfl, hk] at hm
      cases hm
      obtain ⟨loc, hL, hB⟩ := h.blk n k hk
      refine ⟨loc, hL, ?_⟩
      match loc, hB with
      | none, hB =>
        have h0 : k.xs.length = 0 := by rw [show k.xs = [] from hB]; rfl
        show k'.xs = []
        exact List.eq_nil_of_length_eq_zero (by omega)
      | some (bb, o, cap, mp), ⟨h1, cs, us, h2, h3, h4, h5, h6, h7⟩ =>
        refine ⟨hO2 _ _ h1 rfl, cs, us, (by show w.heap[bb]? = some (objOf mp k'.xs.length cs k'.e); rw [he, hl]; exact h2), (by show cs.size = (o + cap) * k'.sz; rw [hz]; exact h3), (by show k'.xs.length ≤ cap; omega), fun j row hj => ?_, fun j row i x hj hi => ?_, fun j row i x hj hi => ?_⟩
        · obtain ⟨r, hx⟩ := get_of_len hl hj
          show row.length = k'.sz
          rw [(hr j r row hx hj).1, hz]; exact h5 j r hx
        · obtain ⟨r, hx⟩ := get_of_len hl hj
          obtain ⟨y, hy⟩ := get_of_len (hr j r row hx hj).1 hi
          show cs[(o + j) * k'.sz + i]? = some (us j i)
          rw [hz]; exact h6 j r i y hx hy
        · obtain ⟨r, hx⟩ := get_of_len hl hj
          obtain ⟨y, hy⟩ := get_of_len (hr j r row hx hj).1 hi
          have := (Rep.fz0 (S2 := S') hS ((hr j r row hx hj).2 i y x hy hi) (fun b q hq => ⟨.inr ⟨_, hq, by simp [innOw]⟩, (h.ow b _ hq).2⟩) (h7 j r i y hx hy) : Rep w S' noOwner noName [] x (us j i))
          exact this.any
    · rw [if_neg e] at hm
      obtain ⟨loc, hL, hB⟩ := h.blk m kk hm
      refine ⟨loc, hL, ?_⟩
      cases loc with
      | none => exact hB
      | some p =>
        obtain ⟨h1, cs, us, h2, h3, h4, h5, h6, h7⟩ := hB
        exact ⟨hO2 _ _ h1 rfl, cs, us, h2, h3, h4, h5, h6, fun j row i x hj hi => up _ x _ (fun q => by simp [innOw]; omega) (h7 j row i x hj hi)⟩
  · obtain ⟨u, hu, hR⟩ := h.slot t y hy
    refine ⟨u, hu, hR.world (Nat.le_refl _) hS (fun _ _ => rfl) (fun _ _ _ => rfl) |>.names (fun _ => .inr (.inl rfl)) (fun b q hb => absurd hb (h.ow0 b _))⟩
theorem Cov.inner {q n : Nat} {k k' : Blk} (hk : lb s.bl n = some k) (he : k'.e = k.e) (hz : k'.sz = k.sz) (hl : k'.xs.length = k.xs.length)
    (hr : ∀ (j : Nat) (row row' : List AV), k.xs[j]? = some row → k'.xs[j]? = some row' → row'.length = row.length ∧ ∀ (i : Nat) (x y : AV), row[i]? = some x → row'[i]? = some y → Fz [] x y) : Cov q { s with bl := st s.bl n k' } s := fun _ _ _ _ _ L _ h => by
  obtain ⟨S', Ow', h'⟩ := h.inner hk he hz hl hr
  exact ⟨S', Ow', L, h'⟩
end
end Go.Proofs.Ytejpklajfcngbaa.En
end
section
namespace Go.Proofs.Ytejpklajfcngbaa.En
open Go.RowKit
set_option linter.unusedSimpArgs false
set_option linter.unusedVariables false
section
attribute [local semireducible] G Gq Holds GS Pure Out Fn OutF
variable {P : Program} {nt : NT} {Q : Exit → AS → Prop} {s s' : AS} {K : AS → Prop} {ops : Array Oper} {o : Oper} {l : List Oper} {i : Nat} {C : Ctx} {a : Act} {w : World} {S : Nat → Prop} {Ow : Owners} {L : Names}
theorem RelX.short (h : RelX C s a w S Ow L) {n m : Nat} {b : Blk} (hb : lb s.bl n = some b) {z off len : Nat} {p0 : Path} {u0 : Value} (h0 : Rep w S Ow L p0 (.own n z off len) u0) : RelX C { s with bl := st s.bl n { b with xs := b.xs.take m } } a w S Ow L := by
  refine { fix := h.fix, keep := h.keep, inS := h.inS, upS := h.upS, ltS := h.ltS, owS := h.owS, ow := h.ow, ow0 := h.ow0, fresh := h.fresh, named := h.named, freshO := h.freshO, slot := h.slot, size := h.size, defers := h.defers, blk := fun k kk hm => ?_ }
  simp only [lb_st] at hm
  by_cases e : n = k
  · subst e
    rw [if_pos rfl, hb] at hm
    cases hm
    obtain ⟨loc, hL, hB⟩ := h.blk n b hb
    refine ⟨loc, hL, ?_⟩
    have up : ∀ (j : Nat) (row : List AV), (b.xs.take m)[j]? = some row → b.xs[j]? = some row := fun j row hj => by
      rw [List.getElem?_take] at hj
      split at hj
      · exact hj
      · cases hj
    match loc, hB with
    | none, hB =>
      show b.xs.take m = []
      rw [show b.xs = [] from hB]; simp
    | some (bb, o, cap, true), _ => rcases own_inv h0 with ⟨_, _, _, hL2, _⟩ | ⟨_, _, _, _, hL2, _⟩ | ⟨hL2, _⟩ | hL2 <;> (rw [hL] at hL2; cases hL2)
    | some (bb, o, cap, false), ⟨h1, cs, us, h2, h3, h4, h5, h6, h7⟩ =>
      exact ⟨h1, cs, us, h2, h3, (by show (b.xs.take m).length ≤ cap; rw [List.length_take]; omega), fun j row hj => h5 j row (up j row hj), fun j row i x hj hi => h6 j row i x (up j row hj) hi, fun j row i x hj hi => h7 j row i x (up j row hj) hi⟩
  · rw [if_neg e] at hm
    exact h.blk k kk hm
end
end Go.Proofs.Ytejpklajfcngbaa.En
end
section
namespace Go.Proofs.Ytejpklajfcngbaa.En
open Go.RowKit
set_option linter.unusedVariables false
theorem wk0 {G : Prop} (R : Prop) (r : R) (h : R → G := by
  intro r
  repeat' first | refine Holds.seq ?_ | refine Holds.skip ?_ | refine Holds.exit ?_ | refine Holds.ret ?_ | refine thenA_normal ?_ | refine thenA_exit ?_ | refine thenA_ret ?_ | refine inB_normal ?_ | refine inB_ret ?_ | refine inB_here ?_ | (refine inB_past ?_ ?_; (· exact rfl)) | refine Holds.reg ?_ | refine Holds.block ?_ | refine GS.nil ?_ | (refine GS.step (s' := ?_) ?_ ?_ ?_; rotate_left; (· exact rfl); (· (simp [go_sem, List.take_of_length_le] <;> with_reducible rfl))) | (refine GS.skip ?_ ?_ ?_; (· exact rfl); (· exact rfl)) | fail
  exact r) : G := h r
theorem wk {P G : Prop} (hH : P) (R : P → Prop) (r : R hH) (h : (hH : P) → R hH → G := by
  intro hH r
  repeat' first | refine Holds.seq ?_ | refine Holds.skip ?_ | refine Holds.exit ?_ | refine Holds.ret ?_ | refine thenA_normal ?_ | refine thenA_exit ?_ | refine thenA_ret ?_ | refine inB_normal ?_ | refine inB_ret ?_ | refine inB_here ?_ | (refine inB_past ?_ ?_; (· exact rfl)) | refine Holds.reg ?_ | refine Holds.block ?_ | refine GS.nil ?_ | (refine GS.step (s' := ?_) ?_ ?_ ?_; rotate_left; (· exact rfl); (· (simp [go_sem, List.take_of_length_le, hH] <;> with_reducible rfl))) | (refine GS.skip ?_ ?_ ?_; (· exact rfl); (· exact rfl)) | fail
  exact r) : G := h hH r
theorem wkc0 {G : Prop} (R : Prop) (r : R) (h : R → G := by
  intro r
  repeat' first | (refine Holds.condT ?_ ?_; (· (simp [go_sem, List.take_of_length_le] <;> with_reducible rfl))) | (refine Holds.condF ?_ ?_; (· (simp [go_sem, List.take_of_length_le] <;> with_reducible rfl))) | refine Holds.seq ?_ | refine Holds.skip ?_ | refine Holds.exit ?_ | refine Holds.ret ?_ | refine thenA_normal ?_ | refine thenA_exit ?_ | refine thenA_ret ?_ | refine inB_normal ?_ | refine inB_ret ?_ | refine inB_here ?_ | (refine inB_past ?_ ?_; (· exact rfl)) | refine Holds.reg ?_ | refine Holds.block ?_ | refine GS.nil ?_ | (refine GS.step (s' := ?_) ?_ ?_ ?_; rotate_left; (· exact rfl); (· (simp [go_sem, List.take_of_length_le] <;> with_reducible rfl))) | (refine GS.skip ?_ ?_ ?_; (· exact rfl); (· exact rfl)) | fail
  exact r) : G := h r
theorem wkc {P G : Prop} (hH : P) (R : P → Prop) (r : R hH) (h : (hH : P) → R hH → G := by
  intro hH r
  repeat' first | (refine Holds.condT ?_ ?_; (· (simp [go_sem, List.take_of_length_le, hH] <;> with_reducible rfl))) | (refine Holds.condF ?_ ?_; (· (simp [go_sem, List.take_of_length_le, hH] <;> with_reducible rfl))) | refine Holds.seq ?_ | refine Holds.skip ?_ | refine Holds.exit ?_ | refine Holds.ret ?_ | refine thenA_normal ?_ | refine thenA_exit ?_ | refine thenA_ret ?_ | refine inB_normal ?_ | refine inB_ret ?_ | refine inB_here ?_ | (refine inB_past ?_ ?_; (· exact rfl)) | refine Holds.reg ?_ | refine Holds.block ?_ | refine GS.nil ?_ | (refine GS.step (s' := ?_) ?_ ?_ ?_; rotate_left; (· exact rfl); (· (simp [go_sem, List.take_of_length_le, hH] <;> with_reducible rfl))) | (refine GS.skip ?_ ?_ ?_; (· exact rfl); (· exact rfl)) | fail
  exact r) : G := h hH r
theorem wkd0 {G : Prop} (R : Prop) (r : R) (h : R → G := by
  intro r
  repeat' first | refine Holds.seq ?_ | refine Holds.skip ?_ | refine Holds.exit ?_ | refine Holds.ret ?_ | refine thenA_normal ?_ | refine thenA_exit ?_ | refine thenA_ret ?_ | refine inB_normal ?_ | refine inB_ret ?_ | refine inB_here ?_ | (refine inB_past ?_ ?_; (· exact rfl)) | refine Holds.reg ?_ | refine Holds.block ?_ | refine GS.nil ?_ | refine Gd.nil ?_ | (refine Holds.any mixed ?_ ?_; (· kernel_rfl)) | (refine GS.step (s' := ?_) ?_ ?_ ?_; rotate_left; (· exact rfl); (· (simp [go_sem, List.take_of_length_le] <;> with_reducible rfl))) | (refine GS.skip ?_ ?_ ?_; (· exact rfl); (· exact rfl)) | (refine Gd.go (s' := ?_) ?_ ?_ ?_; rotate_left; (· exact rfl); (· (simp [go_sem, List.take_of_length_le] <;> with_reducible rfl))) | (refine Gd.skip ?_ ?_ ?_; (· exact rfl); (· exact rfl)) | fail
  exact r) : G := h r
theorem wkd {P G : Prop} (hH : P) (R : P → Prop) (r : R hH) (h : (hH : P) → R hH → G := by
  intro hH r
  repeat' first | refine Holds.seq ?_ | refine Holds.skip ?_ | refine Holds.exit ?_ | refine Holds.ret ?_ | refine thenA_normal ?_ | refine thenA_exit ?_ | refine thenA_ret ?_ | refine inB_normal ?_ | refine inB_ret ?_ | refine inB_here ?_ | (refine inB_past ?_ ?_; (· exact rfl)) | refine Holds.reg ?_ | refine Holds.block ?_ | refine GS.nil ?_ | refine Gd.nil ?_ | (refine Holds.any mixed ?_ ?_; (· kernel_rfl)) | (refine GS.step (s' := ?_) ?_ ?_ ?_; rotate_left; (· exact rfl); (· (simp [go_sem, List.take_of_length_le, hH] <;> with_reducible rfl))) | (refine GS.skip ?_ ?_ ?_; (· exact rfl); (· exact rfl)) | (refine Gd.go (s' := ?_) ?_ ?_ ?_; rotate_left; (· exact rfl); (· (simp [go_sem, List.take_of_length_le, hH] <;> with_reducible rfl))) | (refine Gd.skip ?_ ?_ ?_; (· exact rfl); (· exact rfl)) | fail
  exact r) : G := h hH r
theorem wkdc0 {G : Prop} (R : Prop) (r : R) (h : R → G := by
  intro r
  repeat' first | (refine Holds.condT ?_ ?_; (· (simp [go_sem, List.take_of_length_le] <;> with_reducible rfl))) | (refine Holds.condF ?_ ?_; (· (simp [go_sem, List.take_of_length_le] <;> with_reducible rfl))) | refine Holds.seq ?_ | refine Holds.skip ?_ | refine Holds.exit ?_ | refine Holds.ret ?_ | refine thenA_normal ?_ | refine thenA_exit ?_ | refine thenA_ret ?_ | refine inB_normal ?_ | refine inB_ret ?_ | refine inB_here ?_ | (refine inB_past ?_ ?_; (· exact rfl)) | refine Holds.reg ?_ | refine Holds.block ?_ | refine GS.nil ?_ | refine Gd.nil ?_ | (refine Holds.any mixed ?_ ?_; (· kernel_rfl)) | (refine GS.step (s' := ?_) ?_ ?_ ?_; rotate_left; (· exact rfl); (· (simp [go_sem, List.take_of_length_le] <;> with_reducible rfl))) | (refine GS.skip ?_ ?_ ?_; (· exact rfl); (· exact rfl)) | (refine Gd.go (s' := ?_) ?_ ?_ ?_; rotate_left; (· exact rfl); (· (simp [go_sem, List.take_of_length_le] <;> with_reducible rfl))) | (refine Gd.skip ?_ ?_ ?_; (· exact rfl); (· exact rfl)) | fail
  exact r) : G := h r
theorem wkdc {P G : Prop} (hH : P) (R : P → Prop) (r : R hH) (h : (hH : P) → R hH → G := by
  intro hH r
  repeat' first | (refine Holds.condT ?_ ?_; (· (simp [go_sem, List.take_of_length_le, hH] <;> with_reducible rfl))) | (refine Holds.condF ?_ ?_; (· (simp [go_sem, List.take_of_length_le, hH] <;> with_reducible rfl))) | refine Holds.seq ?_ | refine Holds.skip ?_ | refine Holds.exit ?_ | refine Holds.ret ?_ | refine thenA_normal ?_ | refine thenA_exit ?_ | refine thenA_ret ?_ | refine inB_normal ?_ | refine inB_ret ?_ | refine inB_here ?_ | (refine inB_past ?_ ?_; (· exact rfl)) | refine Holds.reg ?_ | refine Holds.block ?_ | refine GS.nil ?_ | refine Gd.nil ?_ | (refine Holds.any mixed ?_ ?_; (· kernel_rfl)) | (refine GS.step (s' := ?_) ?_ ?_ ?_; rotate_left; (· exact rfl); (· (simp [go_sem, List.take_of_length_le, hH] <;> with_reducible rfl))) | (refine GS.skip ?_ ?_ ?_; (· exact rfl); (· exact rfl)) | (refine Gd.go (s' := ?_) ?_ ?_ ?_; rotate_left; (· exact rfl); (· (simp [go_sem, List.take_of_length_le, hH] <;> with_reducible rfl))) | (refine Gd.skip ?_ ?_ ?_; (· exact rfl); (· exact rfl)) | fail
  exact r) : G := h hH r
theorem wkdsc0 {G : Prop} (R : Prop) (r : R) (h : R → G := by
  intro r
  repeat' first | (refine Holds.condT ?_ ?_; (· (simp [go_sem, List.take_of_length_le] <;> with_reducible rfl))) | (refine Holds.condF ?_ ?_; (· (simp [go_sem, List.take_of_length_le] <;> with_reducible rfl))) | refine Holds.seq ?_ | refine Holds.skip ?_ | refine Holds.exit ?_ | refine Holds.ret ?_ | refine thenA_normal ?_ | refine thenA_exit ?_ | refine thenA_ret ?_ | refine inB_normal ?_ | refine inB_ret ?_ | refine inB_here ?_ | (refine inB_past ?_ ?_; (· exact rfl)) | refine Holds.reg ?_ | refine Holds.block ?_ | refine GS.nil ?_ | refine Gd.nil ?_ | (refine GS.step (s' := ?_) ?_ ?_ ?_; rotate_left; (· exact rfl); (· (simp [go_sem, List.take_of_length_le] <;> with_reducible rfl))) | (refine GS.skip ?_ ?_ ?_; (· exact rfl); (· exact rfl)) | (refine Gd.go (s' := ?_) ?_ ?_ ?_; rotate_left; (· exact rfl); (· (simp [go_sem, List.take_of_length_le] <;> with_reducible rfl))) | (refine Gd.skip ?_ ?_ ?_; (· exact rfl); (· exact rfl)) | fail
  exact r) : G := h r
theorem wkdsc {P G : Prop} (hH : P) (R : P → Prop) (r : R hH) (h : (hH : P) → R hH → G := by
  intro hH r
  repeat' first | (refine Holds.condT ?_ ?_; (· (simp [go_sem, List.take_of_length_le, hH] <;> with_reducible rfl))) | (refine Holds.condF ?_ ?_; (· (simp [go_sem, List.take_of_length_le, hH] <;> with_reducible rfl))) | refine Holds.seq ?_ | refine Holds.skip ?_ | refine Holds.exit ?_ | refine Holds.ret ?_ | refine thenA_normal ?_ | refine thenA_exit ?_ | refine thenA_ret ?_ | refine inB_normal ?_ | refine inB_ret ?_ | refine inB_here ?_ | (refine inB_past ?_ ?_; (· exact rfl)) | refine Holds.reg ?_ | refine Holds.block ?_ | refine GS.nil ?_ | refine Gd.nil ?_ | (refine GS.step (s' := ?_) ?_ ?_ ?_; rotate_left; (· exact rfl); (· (simp [go_sem, List.take_of_length_le, hH] <;> with_reducible rfl))) | (refine GS.skip ?_ ?_ ?_; (· exact rfl); (· exact rfl)) | (refine Gd.go (s' := ?_) ?_ ?_ ?_; rotate_left; (· exact rfl); (· (simp [go_sem, List.take_of_length_le, hH] <;> with_reducible rfl))) | (refine Gd.skip ?_ ?_ ?_; (· exact rfl); (· exact rfl)) | fail
  exact r) : G := h hH r
theorem wkdac0 {G : Prop} (R : Prop) (r : R) (h : R → G := by
  intro r
  repeat' first | (refine Holds.condT ?_ ?_; (· (simp [go_sem, List.take_of_length_le] <;> with_reducible rfl))) | (refine Holds.condF ?_ ?_; (· (simp [go_sem, List.take_of_length_le] <;> with_reducible rfl))) | refine Holds.seq ?_ | refine Holds.skip ?_ | refine Holds.exit ?_ | refine Holds.ret ?_ | refine thenA_normal ?_ | refine thenA_exit ?_ | refine thenA_ret ?_ | refine inB_normal ?_ | refine inB_ret ?_ | refine inB_here ?_ | (refine inB_past ?_ ?_; (· exact rfl)) | refine Holds.reg ?_ | refine Holds.block ?_ | refine GS.nil ?_ | refine Gd.nil ?_ | (refine Holds.any mixed ?_ ?_; (· kernel_rfl)) | (refine GS.step (s' := ?_) ?_ ?_ ?_; rotate_left; (· exact rfl); (· (simp [go_sem, List.take_of_length_le] <;> with_reducible rfl))) | (refine GS.skip ?_ ?_ ?_; (· exact rfl); (· exact rfl)) | (refine Gd.go (s' := ?_) ?_ ?_ ?_; rotate_left; (· exact rfl); (· (simp [go_sem, List.take_of_length_le] <;> with_reducible rfl))) | (refine Gd.skip ?_ ?_ ?_; (· exact rfl); (· exact rfl)) | refine Gx.nil ?_ | (refine Gx.go (s' := ?_) rfl ?_ ?_ ?_; rotate_left; (· exact rfl); (· (simp [go_sem, List.take_of_length_le] <;> with_reducible rfl))) | (refine Gx.skip rfl ?_ ?_ ?_; (· exact rfl); (· exact rfl)) | (refine Gx.skipO rfl ?_ ?_ ?_; (· exact rfl); (· exact rfl)) | (refine Gx.wo (s' := ?_) rfl ?_ ?_ ?_; rotate_left; (· exact rfl); (· (simp [go_sem, List.take_of_length_le] <;> with_reducible rfl))) | (refine Gx.skipW rfl ?_ ?_ ?_; (· exact rfl); (· exact rfl)) | (refine Gx.skipH rfl ?_ ?_ ?_; (· exact rfl); (· exact rfl)) | (refine Gx.hid (r := ?_) rfl ?_ ?_ ?_ ?_; rotate_left; (· exact rfl); (· exact rfl); (· (simp [go_sem, List.take_of_length_le] <;> with_reducible rfl))) | (refine Gx.wr (s' := ?_) rfl ?_ ?_ ?_ ?_; rotate_left; (· exact rfl); (· (simp [go_sem, List.take_of_length_le] <;> with_reducible rfl)); (· (simp [go_sem, List.take_of_length_le]))) | fail
  exact r) : G := h r
theorem wkdac {P G : Prop} (hH : P) (R : P → Prop) (r : R hH) (h : (hH : P) → R hH → G := by
  intro hH r
  repeat' first | (refine Holds.condT ?_ ?_; (· (simp [go_sem, List.take_of_length_le, hH] <;> with_reducible rfl))) | (refine Holds.condF ?_ ?_; (· (simp [go_sem, List.take_of_length_le, hH] <;> with_reducible rfl))) | refine Holds.seq ?_ | refine Holds.skip ?_ | refine Holds.exit ?_ | refine Holds.ret ?_ | refine thenA_normal ?_ | refine thenA_exit ?_ | refine thenA_ret ?_ | refine inB_normal ?_ | refine inB_ret ?_ | refine inB_here ?_ | (refine inB_past ?_ ?_; (· exact rfl)) | refine Holds.reg ?_ | refine Holds.block ?_ | refine GS.nil ?_ | refine Gd.nil ?_ | (refine Holds.any mixed ?_ ?_; (· kernel_rfl)) | (refine GS.step (s' := ?_) ?_ ?_ ?_; rotate_left; (· exact rfl); (· (simp [go_sem, List.take_of_length_le, hH] <;> with_reducible rfl))) | (refine GS.skip ?_ ?_ ?_; (· exact rfl); (· exact rfl)) | (refine Gd.go (s' := ?_) ?_ ?_ ?_; rotate_left; (· exact rfl); (· (simp [go_sem, List.take_of_length_le, hH] <;> with_reducible rfl))) | (refine Gd.skip ?_ ?_ ?_; (· exact rfl); (· exact rfl)) | refine Gx.nil ?_ | (refine Gx.go (s' := ?_) rfl ?_ ?_ ?_; rotate_left; (· exact rfl); (· (simp [go_sem, List.take_of_length_le, hH] <;> with_reducible rfl))) | (refine Gx.skip rfl ?_ ?_ ?_; (· exact rfl); (· exact rfl)) | (refine Gx.skipO rfl ?_ ?_ ?_; (· exact rfl); (· exact rfl)) | (refine Gx.wo (s' := ?_) rfl ?_ ?_ ?_; rotate_left; (· exact rfl); (· (simp [go_sem, List.take_of_length_le, hH] <;> with_reducible rfl))) | (refine Gx.skipW rfl ?_ ?_ ?_; (· exact rfl); (· exact rfl)) | (refine Gx.skipH rfl ?_ ?_ ?_; (· exact rfl); (· exact rfl)) | (refine Gx.hid (r := ?_) rfl ?_ ?_ ?_ ?_; rotate_left; (· exact rfl); (· exact rfl); (· (simp [go_sem, List.take_of_length_le, hH] <;> with_reducible rfl))) | (refine Gx.wr (s' := ?_) rfl ?_ ?_ ?_ ?_; rotate_left; (· exact rfl); (· (simp [go_sem, List.take_of_length_le, hH] <;> with_reducible rfl)); (· (simp [go_sem, List.take_of_length_le, hH]))) | fail
  exact r) : G := h hH r
theorem wkdasc0 {G : Prop} (R : Prop) (r : R) (h : R → G := by
  intro r
  repeat' first | (refine Holds.condT ?_ ?_; (· (simp [go_sem, List.take_of_length_le] <;> with_reducible rfl))) | (refine Holds.condF ?_ ?_; (· (simp [go_sem, List.take_of_length_le] <;> with_reducible rfl))) | refine Holds.seq ?_ | refine Holds.skip ?_ | refine Holds.exit ?_ | refine Holds.ret ?_ | refine thenA_normal ?_ | refine thenA_exit ?_ | refine thenA_ret ?_ | refine inB_normal ?_ | refine inB_ret ?_ | refine inB_here ?_ | (refine inB_past ?_ ?_; (· exact rfl)) | refine Holds.reg ?_ | refine Holds.block ?_ | refine GS.nil ?_ | refine Gd.nil ?_ | (refine GS.step (s' := ?_) ?_ ?_ ?_; rotate_left; (· exact rfl); (· (simp [go_sem, List.take_of_length_le] <;> with_reducible rfl))) | (refine GS.skip ?_ ?_ ?_; (· exact rfl); (· exact rfl)) | (refine Gd.go (s' := ?_) ?_ ?_ ?_; rotate_left; (· exact rfl); (· (simp [go_sem, List.take_of_length_le] <;> with_reducible rfl))) | (refine Gd.skip ?_ ?_ ?_; (· exact rfl); (· exact rfl)) | refine Gx.nil ?_ | (refine Gx.go (s' := ?_) rfl ?_ ?_ ?_; rotate_left; (· exact rfl); (· (simp [go_sem, List.take_of_length_le] <;> with_reducible rfl))) | (refine Gx.skip rfl ?_ ?_ ?_; (· exact rfl); (· exact rfl)) | (refine Gx.skipO rfl ?_ ?_ ?_; (· exact rfl); (· exact rfl)) | (refine Gx.wo (s' := ?_) rfl ?_ ?_ ?_; rotate_left; (· exact rfl); (· (simp [go_sem, List.take_of_length_le] <;> with_reducible rfl))) | (refine Gx.skipW rfl ?_ ?_ ?_; (· exact rfl); (· exact rfl)) | (refine Gx.skipH rfl ?_ ?_ ?_; (· exact rfl); (· exact rfl)) | (refine Gx.hid (r := ?_) rfl ?_ ?_ ?_ ?_; rotate_left; (· exact rfl); (· exact rfl); (· (simp [go_sem, List.take_of_length_le] <;> with_reducible rfl))) | (refine Gx.wr (s' := ?_) rfl ?_ ?_ ?_ ?_; rotate_left; (· exact rfl); (· (simp [go_sem, List.take_of_length_le] <;> with_reducible rfl)); (· (simp [go_sem, List.take_of_length_le]))) | fail
  exact r) : G := h r
theorem wkdasc {P G : Prop} (hH : P) (R : P → Prop) (r : R hH) (h : (hH : P) → R hH → G := by
  intro hH r
  repeat' first | (refine Holds.condT ?_ ?_; (· (simp [go_sem, List.take_of_length_le, hH] <;> with_reducible rfl))) | (refine Holds.condF ?_ ?_; (· (simp [go_sem, List.take_of_length_le, hH] <;> with_reducible rfl))) | refine Holds.seq ?_ | refine Holds.skip ?_ | refine Holds.exit ?_ | refine Holds.ret ?_ | refine thenA_normal ?_ | refine thenA_exit ?_ | refine thenA_ret ?_ | refine inB_normal ?_ | refine inB_ret ?_ | refine inB_here ?_ | (refine inB_past ?_ ?_; (· exact rfl)) | refine Holds.reg ?_ | refine Holds.block ?_ | refine GS.nil ?_ | refine Gd.nil ?_ | (refine GS.step (s' := ?_) ?_ ?_ ?_; rotate_left; (· exact rfl); (· (simp [go_sem, List.take_of_length_le, hH] <;> with_reducible rfl))) | (refine GS.skip ?_ ?_ ?_; (· exact rfl); (· exact rfl)) | (refine Gd.go (s' := ?_) ?_ ?_ ?_; rotate_left; (· exact rfl); (· (simp [go_sem, List.take_of_length_le, hH] <;> with_reducible rfl))) | (refine Gd.skip ?_ ?_ ?_; (· exact rfl); (· exact rfl)) | refine Gx.nil ?_ | (refine Gx.go (s' := ?_) rfl ?_ ?_ ?_; rotate_left; (· exact rfl); (· (simp [go_sem, List.take_of_length_le, hH] <;> with_reducible rfl))) | (refine Gx.skip rfl ?_ ?_ ?_; (· exact rfl); (· exact rfl)) | (refine Gx.skipO rfl ?_ ?_ ?_; (· exact rfl); (· exact rfl)) | (refine Gx.wo (s' := ?_) rfl ?_ ?_ ?_; rotate_left; (· exact rfl); (· (simp [go_sem, List.take_of_length_le, hH] <;> with_reducible rfl))) | (refine Gx.skipW rfl ?_ ?_ ?_; (· exact rfl); (· exact rfl)) | (refine Gx.skipH rfl ?_ ?_ ?_; (· exact rfl); (· exact rfl)) | (refine Gx.hid (r := ?_) rfl ?_ ?_ ?_ ?_; rotate_left; (· exact rfl); (· exact rfl); (· (simp [go_sem, List.take_of_length_le, hH] <;> with_reducible rfl))) | (refine Gx.wr (s' := ?_) rfl ?_ ?_ ?_ ?_; rotate_left; (· exact rfl); (· (simp [go_sem, List.take_of_length_le, hH] <;> with_reducible rfl)); (· (simp [go_sem, List.take_of_length_le, hH]))) | fail
  exact r) : G := h hH r
end Go.Proofs.Ytejpklajfcngbaa.En
end
