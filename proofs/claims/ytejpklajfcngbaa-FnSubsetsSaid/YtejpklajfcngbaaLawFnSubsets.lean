/- The row of the law FnSubsets: for every input the law answers true, and its arguments read behind the call as before. -/
import Derived.Test.YtejpklajfcngbaaRows
import Derived.Test.YtejpklajfcngbaaM2
import Derived.Test.YtejpklajfcngbaaM4
import Derived.WalkKit
import Derived.ProofKit
import Derived.OpenShut
import Derived.ShutString
import Derived.ChangeOld
import Derived.Below
import Derived.SizedLaws
namespace Go.Proofs.Ytejpklajfcngbaa.fnSubsets
open Go.ChangeShapes Go.WideShapes Go.ChangeAt Go.RowKit Go.Proofs.Ytejpklajfcngbaa.En
set_option linter.unusedVariables false
set_option linter.unusedSimpArgs false
theorem own : ownKnob Try.prog.godebug = none := by kernel_rfl
theorem laidOut : laidOutB Try.prog = true := by kernel_rfl
theorem raw5 : OpA Try.prog 5 1 (fun n : Int => [AV.v (.int .u8 n)]) WfB := opa_u8 Try.underlying5
theorem raw38 : OpA Try.prog 38 1 (fun xs : List Int => [AV.im 1 (xs.map (fun n : Int => [AV.v (.int .u8 n)]))]) (RowQ 1 WfB) := opa_slice (enc := (fun n : Int => [AV.v (.int .u8 n)])) (Q := WfB) Try.underlying38 (by kernel_rfl) (by kernel_rfl) (by decide) raw5
set_option maxRecDepth 100000 in
theorem lifted (os : Os) (started : os.Started) (H : Type) (enc : TypeId × Value → H) :
    ReturnsInHanded {} Try.checked os 4 .any (Rows.fnSubsetsSpec.pre6 enc Try.prog Try.f4 Rows.fnSubsetsRow.domain false) (Rows.fnSubsetsSpec.post enc Try.prog Try.f4 false true false false) := by
  refine returnsInHanded_of_change_sized (C := Try.checked) own started (by kernel_rfl) Try.func4
    (ChangeSpec.witness6 (enc := enc) (C := Try.checked) false ⟨#[], #[.slice none 0 0, .slice none 0 0], []⟩ 8 (by kernel_rfl) (by kernel_rfl) (by kernel_rfl) (by kernel_rfl)) ?_
  intro W base args ds gs before hval0 hW hcnd hsz0 _
  have hsz : (DataW.weightsEach Try.prog (Try.f4.params.toList ++ Rows.fnSubsetsSpec.plain.varTypes Try.prog) (ds ++ gs)).all (· ≤ reachBytes) = true := hsz0
  have hval : ∀ (j : Nat) t v, Try.f4.params[j]? = some t → args[j]? = some v → Value.okWide Try.prog W .any base t v := hval0
  have hW' := hW
  obtain ⟨p, q, hA0, hV, rfl, hfz, hnd⟩ := hW
  have hA : DataW.TrodAll enc Try.prog W 0 (fun _ => true) true Try.f4.params.toList args.toList ds p := hA0
  rw [Try.params4] at hA hval hsz
  obtain ⟨v0, vs0, d0, ds0, p0, q0, hargs, rfl, rfl, h0, r0⟩ := trodAll_cons hA
  obtain ⟨v1, vs1, d1, ds1, p1, q1, rfl, rfl, rfl, h1, r1⟩ := trodAll_cons r0
  obtain ⟨rfl, rfl, rfl⟩ := trodAll_nil r1
  obtain rfl : args = #[v0, v1] := by cases args; simp_all
  obtain ⟨rfl, rfl⟩ := trodVars_none hV
  have k0 := h0
  have lt0 : ∀ x ∈ p0, x.block < W.heap.size := by obtain ⟨m, hm⟩ := k0; exact DataW.trod_lt m _ _ _ hm
  have ww0 := weights_arg hsz (j := 0) (t := 38) rfl rfl
  obtain ⟨a0, hr0, Q0⟩ := opened_cell raw38 (by obtain ⟨A, m, c, rfl⟩ := okWide_slice Try.underlying38 (hval 0 38 v0 rfl rfl); rfl) h0 ww0
  have k1 := h1
  have lt1 : ∀ x ∈ p1, x.block < W.heap.size := by obtain ⟨m, hm⟩ := k1; exact DataW.trod_lt m _ _ _ hm
  have ww1 := weights_arg hsz (j := 1) (t := 38) rfl rfl
  obtain ⟨a1, hr1, Q1⟩ := opened_cell raw38 (by obtain ⟨A, m, c, rfl⟩ := okWide_slice Try.underlying38 (hval 1 38 v1 rfl rfl); rfl) h1 ww1
  clear hA0 hval0 hsz0 hsz
  obtain ⟨r1, r2⟩ := Q0
  obtain ⟨s1, s2⟩ := Q1
  have hc := pure_calls (lawSubsets a0 a1 (by omega) (by omega) (fun b hb => r2 b hb) (fun b hb => s2 b hb)) W [v0, v1] rfl (by
    intro i x u hx hu
    match i, hx, hu with
    | 0, hx, hu => cases hx; cases hu; exact hr0
    | 1, hx, hu => cases hx; cases hu; exact hr1
    | n + 2, hx, hu => cases hx)
  refine hc.mono fun e W' ⟨he, bel⟩ => ?_
  subst he
  exact ⟨_, rfl, _, _, _, [], _, [], hW', trodAll_mk1 (shut_bool Try.underlying4 _), (trodAll_cons_mk (Below.trod laidOut (by kernel_rfl) (of_decide_eq_true (by kernel_rfl)) k0 bel lt0) (trodAll_cons_mk (Below.trod laidOut (by kernel_rfl) (of_decide_eq_true (by kernel_rfl)) k1 bel lt1) trodAll_mk0)), rfl, bel.frame _, fun h => by cases h⟩
theorem over : Rows.fnSubsetsRow.holds Try.pinned (OpenSpec.ofChange Rows.fnSubsetsSpec) :=
  OpenClaim.holds_of_wide 4 Try.f4 rfl rfl rfl rfl rfl rfl rfl ⟨rfl, rfl, rfl, rfl, rfl⟩ rfl rfl rfl rfl rfl (by kernel_rfl) Try.func4 (by kernel_rfl)
    (of_decide_eq_true (by kernel_rfl)) (by unfold Func.isWrapper; first | (rw [if_pos (by decide +kernel)]; kernel_rfl) | (rw [if_neg (by decide +kernel)]; exact ⟨rfl, rfl⟩))
    (fun os started H enc _ => lifted os started H enc)
theorem proved : Rows.FnSubsetsSaid := over
#print axioms proved
end Go.Proofs.Ytejpklajfcngbaa.fnSubsets
namespace Go.Proofs.Ytejpklajfcngbaa
/-- The row, under a short name, for the claim. -/
theorem fnSubsets_holds : Rows.FnSubsetsSaid := fnSubsets.proved
end Go.Proofs.Ytejpklajfcngbaa
