/- Own words, 12: regions, operation by operation; the words that the walks unfold. -/
import Derived.Test.YtaiefncpgkoniaaEn11
import Derived.KernelRfl
namespace Go.Proofs.Ytaiefncpgkoniaa.En
open Go.RowKit
set_option linter.unusedSimpArgs false
set_option linter.unusedVariables false
section
attribute [local semireducible] G Gq Holds
variable {P : Program} {nt : NT} {Q : Exit → AS → Prop} {s s' : AS} {ops : Array Oper} {K : AS → Prop} {i : Nat} {o : Oper} {l : List Oper}
/-- A slot told once more. -/
def again (s : AS) (t : Nat) (x : AV) : AS := { s with tm := (t, x) :: s.tm }
theorem RelX.again {C : Ctx} {a : Act} {w : World} {S : Nat → Prop} {Ow : Owners} {L : Names} (h : RelX C s a w S Ow L) {t : Nat} {x : AV} (hx : lk s.tm t = some x) : RelX C (En.again s t x) a w S Ow L :=
  { fix := h.fix, keep := h.keep, inS := h.inS, upS := h.upS, ltS := h.ltS, owS := h.owS, ow := h.ow, ow0 := h.ow0, blk := h.blk, fresh := h.fresh, named := h.named, freshO := h.freshO, size := h.size, defers := h.defers, slot := fun t' y hy => by
      by_cases e : t = t'
      · subst e
        simp only [En.again, lk, if_true, Option.some.injEq] at hy
        subst hy
        exact h.slot t _ hx
      · simp only [En.again, lk, if_neg e] at hy
        exact h.slot t' y hy }
/-- The operations l, of which the first has number i. -/
def GS (P : Program) (nt : NT) (ops : Array Oper) (K : AS → Prop) (l : List Oper) (i : Nat) (s : AS) : Prop := ops.toList.drop i = l → G P nt ops K (List.range' i l.length) s
theorem Holds.reg {id : Nat} (h : GS P nt l.toArray (fun s => Q .normal s) l 0 s) : Holds P nt (.region id l.toArray false) Q s := by
  refine Holds.region ?_
  have := h (by simp)
  rwa [List.range_eq_range', List.size_toArray]
theorem GS.nil (h : K s) : GS P nt ops K [] i s := fun _ => G.nil h
theorem drop_cons {α : Type} {xs l : List α} {i : Nat} {o : α} (h : xs.drop i = o :: l) : xs[i]? = some o ∧ xs.drop (i + 1) = l := by
  have h0 : (xs.drop i)[0]? = some o := by rw [h]; rfl
  refine ⟨by simpa using h0, ?_⟩
  rw [← List.drop_drop, h]; rfl
theorem GS.cons (h : ops[i]? = some o → ∀ r, (G P nt ops K r s' → G P nt ops K (i :: r) s)) (hk : GS P nt ops K l (i + 1) s') : GS P nt ops K (o :: l) i s := fun hd => by
  obtain ⟨h1, h2⟩ := drop_cons hd
  exact h (by simpa using h1) _ (hk h2)
theorem GS.step (hg : gd ops s o = some true) (ha : astep P nt s o = some s') (h : GS P nt ops K l (i + 1) s') : GS P nt ops K (o :: l) i s := GS.cons (fun ho _ hr => G.step ho hg ha hr) h
theorem GS.skip (hg : gd ops s o = some false) (hd : okd nt.n o.dst = true) (h : GS P nt ops K l (i + 1) (put s o.dst (.tu []))) : GS P nt ops K (o :: l) i s := GS.cons (fun ho _ hr => G.skip ho hg hd hr) h
theorem GS.guard {c : Bool} {t : Nat} (hl : lk s.tm t = some (.v (.bool c))) (h1 : c = true → GS P nt ops K l i (again s t (.v (.bool true)))) (h2 : c = false → GS P nt ops K l i (again s t (.v (.bool false)))) : GS P nt ops K l i s := by
  intro hd
  cases c with
  | true => exact fun C a w S Ow L Q hn hR hQ => h1 rfl hd C a w S Ow L Q hn (hR.again hl) hQ
  | false => exact fun C a w S Ow L Q hn hR hQ => h2 rfl hd C a w S Ow L Q hn (hR.again hl) hQ
theorem GS.call {c : Operand} {as : Array Operand} {ts : Array TypeId} {f : FuncId} {xs cap ys : List AV} {r : AV} (hop : o.op = .call ⟨.value c, as, ts⟩) (hg : gd ops s o = some true) (hd : okd nt.n o.dst = true)
    (hc : ev s c = some (.fn f cap)) (he : as.toList.mapM (ev s) = some xs) (hf : FzL s.bl (xs ++ cap) ys) (hp : Pure P f ys r) (hr : dry r = true) (h : GS P nt ops K l (i + 1) (put s o.dst r)) : GS P nt ops K (o :: l) i s :=
  GS.cons (fun ho _ hr' => G.call ho hg hop hd hc he hf hp hr hr') h
theorem Gq.guardS {c : Bool} {t : Nat} (hl : lk s.tm t = some (.v (.bool c))) (h1 : c = true → Gq P nt ops K l (again s t (.v (.bool true)))) (h2 : c = false → Gq P nt ops K l (again s t (.v (.bool false)))) : Gq P nt ops K l s := by
  cases c with
  | true => exact fun C a w S Ow L hn hR => h1 rfl C a w S Ow L hn (hR.again hl)
  | false => exact fun C a w S Ow L hn hR => h2 rfl C a w S Ow L hn (hR.again hl)
theorem Holds.drw {id : Nat} (hm : P.follows .mixedOrders = true) (hB : Region.lexB .any l.toArray = true) (h : Gq P nt l.toArray (fun s => Q .normal s) l s) : Holds P nt (.region id l.toArray true) Q s := Holds.draw hm hB h
theorem FzL.refl_im {bl : List (Nat × Blk)} {sz : Nat} {xs : List (List AV)} {l r : List AV} (h : FzL bl l r) : FzL bl (.im sz xs :: l) (.im sz xs :: r) := .cons (.im sz xs) h
theorem FzL.refl_v {bl : List (Nat × Blk)} {x : Value} {l r : List AV} (h : FzL bl l r) : FzL bl (.v x :: l) (.v x :: r) := .cons (.v x) h
end
attribute [go_sem] astep qstep okd aval ev lk lb put cvl gd bin binB aload astore aalloc abox abuild abuildSlice amake aslice bnd aappend loadOne prt anew st rm spl cel ok1 flat sim again
attribute [irreducible] GS
end Go.Proofs.Ytaiefncpgkoniaa.En
