/- Own words, 15: handy forms of the rules. -/
import Derived.Test.YtaiefncpgkoniaaEn14
namespace Go.Proofs.Ytaiefncpgkoniaa.En
open Go.RowKit
set_option linter.unusedSimpArgs false
set_option linter.unusedVariables false
section
variable {P : Program} {nt : NT} {Q : Exit → AS → Prop} {s s' : AS} {ops : Array Oper} {K : AS → Prop} {i : Nat} {o : Oper} {l : List Oper} {bl : List (Nat × Blk)}
theorem GS.cc {c : Operand} {as : Array Operand} {ts : Array TypeId} {f : FuncId} {xs cap ys : List AV} {r : AV} (hp : Pure P f ys r) (hop : o.op = .call ⟨.value c, as, ts⟩) (hg : gd ops s o = some true) (hd : okd nt.n o.dst = true)
    (hc : ev s c = some (.fn f cap)) (he : as.toList.mapM (ev s) = some xs) (hy : xs ++ cap = ys) (hcl : ys.all cl = true) (h : GS P nt ops K l (i + 1) (put s o.dst r)) : GS P nt ops K (o :: l) i s := by
  subst hy
  exact GS.callC hop hg hd hc he hcl hp h
theorem Gd.cc {c : Operand} {as : Array Operand} {ts : Array TypeId} {f : FuncId} {xs cap ys : List AV} {r : AV} (hp : Pure P f ys r) (hop : o.op = .call ⟨.value c, as, ts⟩) (hg : gd ops s o = some true) (hd : okd nt.n o.dst = true)
    (hc : ev s c = some (.fn f cap)) (he : as.toList.mapM (ev s) = some xs) (hy : xs ++ cap = ys) (hcl : ys.all cl = true) (h : Gd P nt ops K l (put s o.dst r)) : Gd P nt ops K (o :: l) s := by
  subst hy
  exact Gd.callC hop hg hd hc he hcl hp h
theorem GS.cd {c : Operand} {as : Array Operand} {ts : Array TypeId} {f : FuncId} {xs cap ys zs : List AV} {r : AV} (hp : Pure P f ys r) (hop : o.op = .call ⟨.value c, as, ts⟩) (hg : gd ops s o = some true) (hd : okd nt.n o.dst = true)
    (hc : ev s c = some (.fn f cap)) (he : as.toList.mapM (ev s) = some xs) (hz : xs ++ cap = zs) (hf : FzL s.bl zs ys) (hr : dry r = true) (h : GS P nt ops K l (i + 1) (put s o.dst r)) : GS P nt ops K (o :: l) i s := by
  subst hz
  exact GS.call hop hg hd hc he hf hp hr h
theorem Gd.cd {c : Operand} {as : Array Operand} {ts : Array TypeId} {f : FuncId} {xs cap ys zs : List AV} {r : AV} (hp : Pure P f ys r) (hop : o.op = .call ⟨.value c, as, ts⟩) (hg : gd ops s o = some true) (hd : okd nt.n o.dst = true)
    (hc : ev s c = some (.fn f cap)) (he : as.toList.mapM (ev s) = some xs) (hz : xs ++ cap = zs) (hf : FzL s.bl zs ys) (hr : dry r = true) (h : Gd P nt ops K l (put s o.dst r)) : Gd P nt ops K (o :: l) s := by
  subst hz
  exact Gd.call hop hg hd hc he hf hp hr h
def qput (P : Program) (nt : NT) (s : AS) (o : Oper) : Option AS := if okd nt.n o.dst then (qval P s o.op).map fun v => put s o.dst v else none
theorem Gd.go (hg : gd ops s o = some true) (ha : qput P nt s o = some s') (h : Gd P nt ops K l s') : Gd P nt ops K (o :: l) s := by
  unfold qput at ha
  split at ha
  · rename_i hd
    simp only [Option.map_eq_some_iff] at ha
    obtain ⟨r, hr, rfl⟩ := ha
    exact .look hg hd hr h
  · cases ha
theorem Gd.calm {r : AV} (hg : gd ops s o = some true) (hd : okd nt.n o.dst = true) (hc : Calm P s o.op r) (h : Gd P nt ops K l (put s o.dst r)) : Gd P nt ops K (o :: l) s := .step ⟨hd, .inr ⟨hg, hc⟩⟩ h
theorem GS.calm1 {r : AV} (hg : gd ops s o = some true) (hd : okd nt.n o.dst = true) (hc : Calm P s o.op r) (h : GS P nt ops K l (i + 1) (put s o.dst r)) : GS P nt ops K (o :: l) i s := GS.calm ⟨hd, .inr ⟨hg, hc⟩⟩ h
theorem Fz.cl1 {x : AV} (h : En.cl1 x = true) : Fz bl x x := by
  cases x with
  | v x => exact .v x
  | im sz xs => exact .im sz xs
  | pi xs => exact .pi xs
  | _ => simp [En.cl1] at h
theorem Fz.cl {x : AV} (h : En.cl x = true) : Fz bl x x := by
  have at' : ∀ xs : List AV, xs.all En.cl1 = true → ∀ (i : Nat) (x y : AV), xs[i]? = some x → xs[i]? = some y → Fz bl x y := fun xs h i x y hx hy => by
    rw [hx] at hy; cases hy
    rw [List.all_eq_true] at h
    exact .cl1 (h x (List.mem_of_getElem? hx))
  cases x with
  | v x => exact .v x
  | im sz xs => exact .im sz xs
  | pi xs => exact .pi xs
  | ag xs => exact .ag xs xs rfl (at' xs h)
  | tu xs => exact .tu xs xs rfl (at' xs h)
  | fn g xs => exact .fn g xs xs rfl (at' xs h)
  | _ => simp [En.cl, En.cl1] at h
theorem Fz.agL {xs ys : List AV} (h : FzL bl xs ys) : Fz bl (.ag xs) (.ag ys) := .ag xs ys h.len h.get
theorem Fz.tuL {xs ys : List AV} (h : FzL bl xs ys) : Fz bl (.tu xs) (.tu ys) := .tu xs ys h.len h.get
theorem Fz.fnL {g : FuncId} {xs ys : List AV} (h : FzL bl xs ys) : Fz bl (.fn g xs) (.fn g ys) := .fn g xs ys h.len h.get
/-- A row of one's own whose cells bear no names, as it is seen. -/
theorem Fz.row {n sz off len : Nat} {k : Blk} {zs : List (List AV)} (hk : lb bl n = some k) (hz : k.sz = sz) (hn : ∀ row ∈ k.xs, ∀ x ∈ row, En.cl1 x = true) (hl : off + len ≤ k.xs.length) (he : zs = (k.xs.drop off).take len) : Fz bl (.own n sz off len) (.im sz zs) := by
  subst hz
  refine .own n off len k k.xs zs hk rfl (fun j r r' h1 h2 => by rw [h1] at h2; cases h2; rfl) (fun j r r' i x y h1 h2 h3 h4 => ?_) hl he
  rw [h1] at h2; cases h2
  rw [h3] at h4; cases h4
  exact .cl1 (hn r (List.mem_of_getElem? h1) x (List.mem_of_getElem? h3))
theorem Fz.all {n sz len : Nat} {k : Blk} {zs : List (List AV)} (hk : lb bl n = some k) (hz : k.sz = sz) (hl : len = k.xs.length) (he : zs = k.xs) (hn : ∀ row ∈ zs, ∀ x ∈ row, En.cl1 x = true) : Fz bl (.own n sz 0 len) (.im sz zs) := by
  subst he
  exact .row hk hz hn (by omega) (by subst hl; simp)
theorem wr64_id {n : Int} (h0 : -9223372036854775808 ≤ n) (h1 : n ≤ 9223372036854775807) : wr64 n = n := wr64_in h0 h1
/-- The loop's state comes by. -/
theorem Cov.same (ρ : Nat → Nat) {s0 s : AS} (ht : ChkT ρ s0.nx s.tm s0.tm) (hb : ChkB ρ s0.nx s.bl s0.bl) : Cov 0 s0 s := Cov.of ρ ht hb
end

attribute [go_sem] qput
end Go.Proofs.Ytaiefncpgkoniaa.En
