/- Own words, 21: handy forms of calls that write. -/
import Derived.Test.YtaiefncpgkoniaaEn20
namespace Go.Proofs.Ytaiefncpgkoniaa.En
open Go.RowKit
set_option linter.unusedSimpArgs false
set_option linter.unusedVariables false
section
variable {P : Program} {nt : NT} {Q : Exit → AS → Prop} {s s' s1 : AS} {ops : Array Oper} {K : AS → Prop} {i : Nat} {o : Oper} {l : List Oper} {ws hs : List Nat} {M : Nat → Bool}
/-- The callers' names, one after the other. -/
def nm : List Nat → Nat → Nat
  | [], n => n
  | x :: _, 0 => x
  | _ :: r, n + 1 => nm r n
theorem GS.fnn {c : Operand} {as : Array Operand} {ts : Array TypeId} {f : FuncId} {xs cap args : List AV} {k m : Nat} {ins outs bl' : List (Nat × Blk)} {r : AV} (ns : List Nat) (hp : Fn P f k args ins r m outs) (hop : o.op = .call ⟨.value c, as, ts⟩) (hg : gd ops s o = some true) (hd : okd nt.n o.dst = true)
    (hc : ev s c = some (.fn f cap)) (he : as.toList.mapM (ev s) = some xs) (hargs : xs ++ cap = args.map (En.ren (nm ns))) (hok : args.all (okr k) = true) (hins : (List.range k).all (fun n => (lb ins n).isSome) = true) (hb : ChkB (nm ns) k s.bl ins) (hkm : k ≤ m) (hom : outs.all (fun p => decide (p.1 < m)) = true)
    (hr : okr m r = true) (hren : RenB (nme k s.nx (nm ns)) m outs bl') (hs1 : put (aft s k (nm ns) m bl') o.dst (En.ren (nme k s.nx (nm ns)) r) = s1) (h : GS P nt ops K l (i + 1) s1) : GS P nt ops K (o :: l) i s := by
  subst hs1
  exact GS.fn (nm ns) hp hop hg hd hc he hargs hok hins hb hkm hom hr hren h
theorem Gx.fnn {k : Nat} {c : Operand} {as : Array Operand} {ts : Array TypeId} {f : FuncId} {xs cap args : List AV} {q m : Nat} {ins outs bl' : List (Nat × Blk)} {r : AV} (ns : List Nat) (hp : Fn P f q args ins r m outs) (hk : kind ws hs k = .w) (hop : o.op = .call ⟨.value c, as, ts⟩) (hg : gd ops s o = some true) (hd : okd nt.n o.dst = true)
    (hc : ev s c = some (.fn f cap)) (he : as.toList.mapM (ev s) = some xs) (hargs : xs ++ cap = args.map (En.ren (nm ns))) (hok : args.all (okr q) = true) (hins : (List.range q).all (fun n => (lb ins n).isSome) = true) (hb : ChkB (nm ns) q s.bl ins) (hkm : q ≤ m) (hom : outs.all (fun p => decide (p.1 < m)) = true)
    (hr : okr m r = true) (hren : RenB (nme q s.nx (nm ns)) m outs bl') (hM : (aft s q (nm ns) m bl').bl.filter (fun p => !M p.1) = s.bl.filter fun p => !M p.1) (hs1 : put (aft s q (nm ns) m bl') o.dst (En.ren (nme q s.nx (nm ns)) r) = s1) (h : Gx P nt ops ws hs M K (k + 1) l s1) : Gx P nt ops ws hs M K k (o :: l) s := by
  subst hs1
  exact Gx.fn (nm ns) hp hk hop hg hd hc he hargs hok hins hb hkm hom hr hren hM h
theorem Gx.fnno {k : Nat} {c : Operand} {as : Array Operand} {ts : Array TypeId} {f : FuncId} {xs cap args : List AV} {q m : Nat} {ins outs bl' : List (Nat × Blk)} {r : AV} (ns : List Nat) (hp : Fn P f q args ins r m outs) (hk : kind ws hs k = .o) (hop : o.op = .call ⟨.value c, as, ts⟩) (hg : gd ops s o = some true) (hd : okd nt.n o.dst = true)
    (hc : ev s c = some (.fn f cap)) (he : as.toList.mapM (ev s) = some xs) (hargs : xs ++ cap = args.map (En.ren (nm ns))) (hok : args.all (okr q) = true) (hins : (List.range q).all (fun n => (lb ins n).isSome) = true) (hb : ChkB (nm ns) q s.bl ins) (hkm : q ≤ m) (hom : outs.all (fun p => decide (p.1 < m)) = true)
    (hr : okr m r = true) (hren : RenB (nme q s.nx (nm ns)) m outs bl') (hs1 : put (aft s q (nm ns) m bl') o.dst (En.ren (nme q s.nx (nm ns)) r) = s1) (h : Gx P nt ops ws hs M K (k + 1) l s1) : Gx P nt ops ws hs M K k (o :: l) s := by
  subst hs1
  exact Gx.fno (nm ns) hp hk hop hg hd hc he hargs hok hins hb hkm hom hr hren h
theorem Gx.guard {k : Nat} {c : Bool} {t : Nat} (hl : lk s.tm t = some (.v (.bool c))) (h1 : c = true → Gx P nt ops ws hs M K k l (again s t (.v (.bool true)))) (h2 : c = false → Gx P nt ops ws hs M K k l (again s t (.v (.bool false)))) : Gx P nt ops ws hs M K k l s := by
  have e : ∀ x, lk s.tm t = some x → Eqv s (again s t x) := fun x hx => ⟨fun t' => by
    simp only [again, lk]
    split
    · rename_i g; rw [← g]; exact hx
    · rfl, rfl, rfl⟩
  cases c with
  | true => exact .eqv (e _ hl) (h1 rfl)
  | false => exact .eqv (e _ hl) (h2 rfl)
end
attribute [go_sem] nm hide
end Go.Proofs.Ytaiefncpgkoniaa.En
