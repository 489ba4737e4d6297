/- Own words, 16: what a function returns out of slots and out of memory. -/
import Derived.Test.YtaiefncpgkoniaaEn15
namespace Go.Proofs.Ytaiefncpgkoniaa.En
open Go.RowKit
set_option linter.unusedSimpArgs false
set_option linter.unusedVariables false
section
attribute [local semireducible] Holds Pure
variable {P : Program} {nt : NT} {s s' : AS} {C : Ctx} {a : Act} {w : World} {S : Nat → Prop} {Ow : Owners} {L : Names}

theorem qload_sound (h : RelX C s a w S Ow L) {t : TypeId} {p : Operand} {x : AV} (hx : qload P s t p = some x) : ∃ ad u, a.eval p = .pointer (some ad) ∧ (loadVar t ad).run P w = .ok u w ∧ Rep w S Ow L [0] x u := by
  unfold qload at hx
  split at hx
  · rename_i n sz j i k hp hi
    split at hx
    · rename_i b hb
      split at hx
      · rename_i hsz
        split at hx
        · rename_i row hrow
          obtain ⟨b', o', cap, hl, eu⟩ := pb_known h hb (ev_rep h hp)
          obtain ⟨loc, hl', hB⟩ := h.blk n b hb
          rw [hl] at hl'
          cases hl'
          obtain ⟨_, _, _, e1, hob, hrl, cs, us, hh, hfit, hcell, hrep⟩ := blk_row hB hrow
          cases e1
          subst hsz
          have hc : ∀ q y, row[q]? = some y → w.cell? ⟨b', (o' + j) * b.sz + q, none⟩ = some (us q) := fun q y hq => by
            rw [cell_of_row w b' _ cs b.e (0, 0) hh]; exact hcell q y hq
          split at hx
          · rename_i hag
            split at hx
            · rename_i hall
              cases hx
              have hlen : ((row.drop i).take k.sz).length = k.sz := by rw [List.length_take, List.length_drop]; omega
              refine ⟨_, .agg ((List.range k.sz).map fun q => us (i + q)).toArray, eu, load_cells t k hi hag _ _ (by simp) (fun q v hq => ?_), ?_⟩
              · have hlt : q < k.sz := by have := (List.getElem?_eq_some_iff.1 hq).1; simpa using this
                simp only [List.getElem?_map, List.getElem?_range hlt, Option.map_some, Option.some.injEq] at hq
                subst hq
                rw [Addr.add_lit, Nat.add_assoc]
                exact hc (i + q) row[i + q] (List.getElem?_eq_getElem (by omega))
              · refine .ag _ _ (by simp [hlen]) (fun q y v hy hv => ?_)
                rw [List.getElem?_take] at hy
                split at hy
                · rename_i hq
                  rw [List.getElem?_drop] at hy
                  simp only [List.getElem?_map, List.getElem?_range hq, Option.map_some, Option.some.injEq] at hv
                  subst hv
                  refine (hrep _ y hy).flat ?_
                  have := hall.1
                  rw [List.all_eq_true] at this
                  exact this y (List.mem_of_getElem? (i := q) (by rw [List.getElem?_take, if_pos hq, List.getElem?_drop]; exact hy))
                · cases hy
            · cases hx
          · rename_i hag
            have hag : k.agg = false := by simpa using hag
            split at hx
            · cases hx
            · rename_i y _ hy
              split at hx
              · rename_i hf
                cases hx
                exact ⟨_, us i, eu, load_cell t k hi hag _ _ (hc i _ hy), (hrep i _ hy).flat hf⟩
              · cases hx
            · cases hx
        · cases hx
      · cases hx
    · cases hx
  · rename_i xs k hp hi
    obtain ⟨ad, eu, hI⟩ := (ev_rep h hp).pi_inv
    obtain ⟨hS, us, hcell, hrep⟩ := hI
    have hadd : ∀ q, ad.add q = ⟨ad.block, ad.off + q, none⟩ := fun q => by
      obtain ⟨bb, oo, sp⟩ := ad
      have : sp = none := hS.2.2
      subst this
      simp [Addr.add_lit]
    split at hx
    · rename_i hag
      split at hx
      · rename_i hall
        cases hx
        have hlen : (xs.take k.sz).length = k.sz := by rw [List.length_take]; omega
        refine ⟨_, .agg ((List.range k.sz).map us).toArray, eu, load_cells t k hi hag _ _ (by simp) (fun q v hq => ?_), ?_⟩
        · have hlt : q < k.sz := by have := (List.getElem?_eq_some_iff.1 hq).1; simpa using this
          simp only [List.getElem?_map, List.getElem?_range hlt, Option.map_some, Option.some.injEq] at hq
          subst hq
          rw [hadd]
          exact hcell q xs[q] (List.getElem?_eq_getElem (by omega))
        · refine .ag _ _ (by simp [hlen]) (fun q y v hy hv => ?_)
          rw [List.getElem?_take] at hy
          split at hy
          · rename_i hq
            simp only [List.getElem?_map, List.getElem?_range hq, Option.map_some, Option.some.injEq] at hv
            subst hv
            exact (hrep _ y hy).any
          · cases hy
      · cases hx
    · rename_i hag
      have hag : k.agg = false := by simpa using hag
      refine ⟨_, us 0, eu, load_cell t k hi hag _ _ ?_, (hrep 0 x hx).any⟩
      have := hcell 0 x hx
      rwa [← hadd, Addr.add_zero'] at this
  · cases hx

/-- A result, out of a slot or out of memory. -/
def rval (P : Program) (s : AS) : ResultVar → Option AV
  | .tmp t => lk s.tm t
  | .cell a t => qload P s t (.tmp a)
def pack : List AV → AV
  | [x] => x
  | xs => .tu xs
def Out (P : Program) (rs : List ResultVar) (r : AV) (e : Exit) (s : AS) : Prop := (e = .normal ∨ e = .ret) ∧ ∃ xs, rs.mapM (rval P s) = some xs ∧ Fz s.bl (pack xs) r
theorem Out.mk {rs : List ResultVar} {r : AV} {e : Exit} {xs : List AV} (hx : rs.mapM (rval P s) = some xs) (hf : Fz s.bl (pack xs) r) (he : e = .normal ∨ e = .ret) : Out P rs r e s := ⟨he, xs, hx, hf⟩
def rrun (tmps : Array Value) : ResultVar → Sem Value
  | .tmp t => pure (tmps.getD t undef)
  | .cell a t => do loadVar t (← asAddr (tmps.getD a undef))
theorem rval_run (h : RelX C s a w S Ow L) {v : ResultVar} {x : AV} (hx : rval P s v = some x) : ∃ u, (rrun a.tmps v).run P w = .ok u w ∧ Rep w S Ow L [0] x u := by
  cases v with
  | tmp t =>
    obtain ⟨u, hu, hr⟩ := h.slot t x hx
    exact ⟨u, by simp [rrun, hu], hr⟩
  | cell b t =>
    obtain ⟨ad, u, e, hr, hR⟩ := qload_sound h hx
    have e' : a.tmps.getD b undef = .pointer (some ad) := e
    have e2 : (a.tmps[b]?).getD undef = .pointer (some ad) := by rw [← e']; simp [Array.getD_eq_getD_getElem?]
    exact ⟨u, by simp [rrun, e2, asAddr, hr], hR⟩
theorem rvals_run (h : RelX C s a w S Ow L) : ∀ {rs : List ResultVar} {xs : List AV}, rs.mapM (rval P s) = some xs → ∃ us : List Value, (rs.mapM (rrun a.tmps)).run P w = .ok us w ∧ us.length = xs.length ∧ ∀ (i : Nat) (x : AV) (u : Value), xs[i]? = some x → us[i]? = some u → Rep w S Ow L [0] x u
  | [], xs, hx => by
    simp at hx
    subst hx
    exact ⟨[], by simp, rfl, fun i x u h1 => by simp at h1⟩
  | v :: rs, xs, hx => by
    rw [List.mapM_cons] at hx
    simp only [bind, Option.bind_eq_some_iff, pure, Option.some.injEq] at hx
    obtain ⟨x, hx1, ys, hy, rfl⟩ := hx
    obtain ⟨u, hu, hr⟩ := rval_run h hx1
    obtain ⟨us, hus, hl, hR⟩ := rvals_run h hy
    refine ⟨u :: us, by rw [List.mapM_cons]; simp [hu, hus], by simp [hl], fun i x' u' h1 h2 => ?_⟩
    cases i with
    | zero => simp at h1 h2; subst h1 h2; exact hr
    | succ i => exact hR i x' u' (by simpa using h1) (by simpa using h2)
theorem results_run (h : RelX C s a w S Ow L) (fn : Func) {rs : List ResultVar} (hr : fn.results = rs.toArray) {xs : List AV} (hx : rs.mapM (rval P s) = some xs) : ∃ v, (results fn a.tmps).run P w = .ok v w ∧ Rep w S Ow L [0] (pack xs) v := by
  obtain ⟨us, hus, hl, hR⟩ := rvals_run h hx
  have e : ∀ f : ResultVar → Sem Value, (∀ v, f v = rrun a.tmps v) → rs.mapM f = rs.mapM (rrun a.tmps) := fun f hf => by rw [show f = rrun a.tmps from funext hf]
  unfold results
  simp only [hr, List.mapM_toArray]
  rw [e _ (fun v => by cases v <;> rfl)]
  have tup : Rep w S Ow L [0] (.tu xs) (.tuple us.toArray) := .tu xs us hl fun i x u h1 h2 => (hR i x u h1 h2).names (fun _ => .inr (.inl rfl)) fun b q hq => absurd hq (h.ow0 b _)
  match xs, us, hl, hus, hR, tup with
  | [], [], _, hus, _, tup => exact ⟨_, by simp [hus], tup⟩
  | [x], [u], _, hus, hR, _ => exact ⟨u, by simp [hus], hR 0 x u rfl rfl⟩
  | x :: y :: xs, u :: v :: us, _, hus, _, tup => exact ⟨_, by simp [hus], tup⟩

/-- A function's contract, out of the walk of its body. -/
theorem Pure.mk {f : FuncId} {fn : Func} {c : Code} {args : List AV} {rs : List ResultVar} {r : AV} {nt : Nat} (hf : P.funcs[f]? = some fn) (hn : (fn.name == "runtime.NumGoroutine") = false) (hb : fn.body = some c) (hr : fn.results = rs.toArray) (hnt : fn.ntmps = nt) (hle : args.length ≤ nt)
    (h : Holds P ⟨nt, 0⟩ c (Out P rs r) ⟨sl 0 args, [], 0⟩) : Pure P f args r := by
  subst hnt
  refine ⟨⟨fn, hf, hn, by rw [hb]; rfl⟩, fun W S us hS hl hrep => calls_of_wp hf hb ?_⟩
  have hsz : us.toArray.size = args.length := by simpa using hl
  have hR : RelX ⟨W, fun _ => False, S, ⟨fn.ntmps, 0⟩, fun _ => none⟩ ⟨sl 0 args, [], 0⟩ { tmps := us.toArray ++ Array.replicate (fn.ntmps - us.toArray.size) undef, defers := [] } W S noOwner noName := by
    refine { fix := fun n loc hn => (by cases hn), keep := Keep.refl W _, inS := fun k hk => hk, upS := fun k hk => .inl hk, ltS := hS, owS := fun k _ => rfl, ow := fun k p hk => (by cases hk), ow0 := fun k q hk => (by cases hk), blk := fun n k hk => (by simp [lb] at hk), fresh := fun n _ => rfl, named := fun n hn => absurd hn (Nat.not_lt_zero n), freshO := fun k n q hk => (by cases hk), slot := fun t x hx => ?_, size := ?_, defers := rfl }
    · obtain ⟨_, hx⟩ := lk_sl args 0 t x hx
      rw [Nat.sub_zero] at hx
      have hlt : t < us.length := by have := (List.getElem?_eq_some_iff.1 hx).1; omega
      have hu : us[t]? = some us[t] := List.getElem?_eq_getElem hlt
      refine ⟨us[t], ?_, (hrep t x _ hx hu).any⟩
      rw [Array.getElem?_append_left (by simpa using hlt)]
      simp [hlt]
    · simp; omega
  refine wp_mono (h _ _ _ _ _ _ rfl hR) ?_
  rintro e a w ⟨s, S1, Ow, L, ⟨he, xs, hx, hz⟩, hR1⟩
  obtain ⟨v, hv, hrv⟩ := results_run hR1 fn hr hx
  have fin : a.defers = [] ∧ ∃ v, (results fn a.tmps).run P w = .ok v w ∧ ∃ v', Ending.returned v = .returned v' ∧ Below W.heap.size W w ∧ ∃ S' : Nat → Prop, (∀ k, S k → S' k) ∧ (∀ k, S' k → k < w.heap.size ∧ (S k ∨ W.heap.size ≤ k)) ∧ Rep w S' noOwner noName [] r v' := by
    refine ⟨hR1.defers, v, hv, v, rfl, hR1.keep.below, lent S1 Ow, fun k hk => .inl (hR1.inS k hk), fun k hk => ⟨lent_lt hR1 k hk, ?_⟩, hrv.fz hR1 hz⟩
    rcases hk with hk | hk
    · rcases hR1.upS k hk with g | g | g
      · exact .inl g
      · exact .inr g
      · exact g.elim
    · cases e : Ow k with
      | none => exact absurd e hk
      | some p => exact .inr ((hR1.ow k p e).1.resolve_right fun g => g)
  rcases he with rfl | rfl
  · exact fin
  · exact fin
end
attribute [go_sem] rval pack
attribute [irreducible] Out
end Go.Proofs.Ytaiefncpgkoniaa.En
