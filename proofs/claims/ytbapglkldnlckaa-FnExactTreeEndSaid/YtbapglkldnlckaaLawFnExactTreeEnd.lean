/- The row of the law FnExactTreeEnd: for every input the law answers true, and its arguments read behind the call as before. -/
import Derived.Test.YtbapglkldnlckaaRows
import Derived.Test.YtbapglkldnlckaaOa
import Derived.Test.YtbapglkldnlckaaTd
import Derived.WalkKit
import Derived.ProofKit
import Derived.OpenShut
import Derived.ShutString
import Derived.ChangeOld
import Derived.Below
import Derived.SizedLaws
namespace Go.Proofs.Ytbapglkldnlckaa.fnExactTreeEnd
open Go.ChangeShapes Go.WideShapes Go.ChangeAt Go.RowKit Go.Proofs.Ytbapglkldnlckaa.En
set_option linter.unusedVariables false
set_option linter.unusedSimpArgs false
theorem own : ownKnob Try.prog.godebug = none := by kernel_rfl
theorem laidOut : laidOutB Try.prog = true := by kernel_rfl
theorem raw3 : OpA Try.prog 3 1 (fun n : Int => [AV.v (.int .i64 n)]) WfI := opa_int Try.underlying3
theorem raw22 : OpA Try.prog 22 1 (fun xs : List Int => [AV.im 1 (xs.map (fun n : Int => [AV.v (.int .i64 n)]))]) (RowQ 8 WfI) := opa_slice (enc := (fun n : Int => [AV.v (.int .i64 n)])) (Q := WfI) Try.underlying22 (by kernel_rfl) (by kernel_rfl) (by decide) raw3
def en172 : (Int × (List Int)) → List AV := (fun x : Int × (List Int) => (fun n : Int => [AV.v (.int .i64 n)]) x.1 ++ (fun xs : List Int => [AV.im 1 (xs.map (fun n : Int => [AV.v (.int .i64 n)]))]) x.2)
def qu172 : (Int × (List Int)) → Prop := (fun x : Int × (List Int) => WfI x.1 ∧ (RowQ 8 WfI) x.2)
theorem raw172 : OpA Try.prog 172 2 en172 qu172 := opa_struct (sz := 2) (enc := (fun x : Int × (List Int) => (fun n : Int => [AV.v (.int .i64 n)]) x.1 ++ (fun xs : List Int => [AV.im 1 (xs.map (fun n : Int => [AV.v (.int .i64 n)]))]) x.2)) (Q := (fun x : Int × (List Int) => WfI x.1 ∧ (RowQ 8 WfI) x.2)) Try.underlying172 rfl (by kernel_rfl) (opaF_cons (sz := 1) (sz' := 1) (enc := (fun n : Int => [AV.v (.int .i64 n)])) (enc' := (fun xs : List Int => [AV.im 1 (xs.map (fun n : Int => [AV.v (.int .i64 n)]))])) (Q := WfI) (Q' := (RowQ 8 WfI)) (by kernel_rfl) raw3 (opaF_one (sz := 1) (enc := (fun xs : List Int => [AV.im 1 (xs.map (fun n : Int => [AV.v (.int .i64 n)]))])) (Q := (RowQ 8 WfI)) (by kernel_rfl) raw22))
theorem raw62 : OpA Try.prog 62 1 (fun xs : List (Int × (List Int)) => [AV.im 2 (xs.map en172)]) (RowQ 32 qu172) := opa_slice (enc := en172) (Q := qu172) Try.underlying62 (by kernel_rfl) (by kernel_rfl) (by decide) raw172
def en64 : (Int × (Int × (List (Int × (List Int))))) → List AV := (fun x : Int × (Int × (List (Int × (List Int)))) => (fun n : Int => [AV.v (.int .i64 n)]) x.1 ++ (fun x : Int × (List (Int × (List Int))) => (fun n : Int => [AV.v (.int .i64 n)]) x.1 ++ (fun xs : List (Int × (List Int)) => [AV.im 2 (xs.map en172)]) x.2) x.2)
def qu64 : (Int × (Int × (List (Int × (List Int))))) → Prop := (fun x : Int × (Int × (List (Int × (List Int)))) => WfI x.1 ∧ (fun x : Int × (List (Int × (List Int))) => WfI x.1 ∧ (RowQ 32 qu172) x.2) x.2)
theorem raw64 : OpA Try.prog 64 3 en64 qu64 := opa_struct (sz := 3) (enc := (fun x : Int × (Int × (List (Int × (List Int)))) => (fun n : Int => [AV.v (.int .i64 n)]) x.1 ++ (fun x : Int × (List (Int × (List Int))) => (fun n : Int => [AV.v (.int .i64 n)]) x.1 ++ (fun xs : List (Int × (List Int)) => [AV.im 2 (xs.map en172)]) x.2) x.2)) (Q := (fun x : Int × (Int × (List (Int × (List Int)))) => WfI x.1 ∧ (fun x : Int × (List (Int × (List Int))) => WfI x.1 ∧ (RowQ 32 qu172) x.2) x.2)) Try.underlying64 rfl (by kernel_rfl) (opaF_cons (sz := 1) (sz' := 2) (enc := (fun n : Int => [AV.v (.int .i64 n)])) (enc' := (fun x : Int × (List (Int × (List Int))) => (fun n : Int => [AV.v (.int .i64 n)]) x.1 ++ (fun xs : List (Int × (List Int)) => [AV.im 2 (xs.map en172)]) x.2)) (Q := WfI) (Q' := (fun x : Int × (List (Int × (List Int))) => WfI x.1 ∧ (RowQ 32 qu172) x.2)) (by kernel_rfl) raw3 (opaF_cons (sz := 1) (sz' := 1) (enc := (fun n : Int => [AV.v (.int .i64 n)])) (enc' := (fun xs : List (Int × (List Int)) => [AV.im 2 (xs.map en172)])) (Q := WfI) (Q' := (RowQ 32 qu172)) (by kernel_rfl) raw3 (opaF_one (sz := 1) (enc := (fun xs : List (Int × (List Int)) => [AV.im 2 (xs.map en172)])) (Q := (RowQ 32 qu172)) (by kernel_rfl) raw62)))
set_option maxRecDepth 100000 in
theorem lifted (os : Os) (started : os.Started) (H : Type) (enc : TypeId × Value → H) :
    ReturnsInHanded {} Try.checked os 13 .any (Rows.fnExactTreeEndSpec.pre6 enc Try.prog Try.f13 Rows.fnExactTreeEndRow.domain false) (Rows.fnExactTreeEndSpec.post enc Try.prog Try.f13 false true false false) := by
  refine returnsInHanded_of_change_sized (C := Try.checked) own started (by kernel_rfl) Try.func13
    (ChangeSpec.witness6 (enc := enc) (C := Try.checked) false ⟨#[], #[.agg #[.int .i64 0, .int .i64 0, .slice none 0 0], .int .i64 0, .slice none 0 0], []⟩ 8 (by kernel_rfl) (by kernel_rfl) (by kernel_rfl) (by kernel_rfl)) ?_
  intro W base args ds gs before hval0 hW hcnd hsz0 _
  have hsz : (DataW.weightsEach Try.prog (Try.f13.params.toList ++ Rows.fnExactTreeEndSpec.plain.varTypes Try.prog) (ds ++ gs)).all (· ≤ reachBytes) = true := hsz0
  have hval : ∀ (j : Nat) t v, Try.f13.params[j]? = some t → args[j]? = some v → Value.okWide Try.prog W .any base t v := hval0
  have hW' := hW
  obtain ⟨p, q, hA0, hV, rfl, hfz, hnd⟩ := hW
  have hA : DataW.TrodAll enc Try.prog W 0 (fun _ => true) true Try.f13.params.toList args.toList ds p := hA0
  rw [Try.params13] at hA hval hsz
  obtain ⟨v0, vs0, d0, ds0, p0, q0, hargs, rfl, rfl, h0, r0⟩ := trodAll_cons hA
  obtain ⟨v1, vs1, d1, ds1, p1, q1, rfl, rfl, rfl, h1, r1⟩ := trodAll_cons r0
  obtain ⟨v2, vs2, d2, ds2, p2, q2, rfl, rfl, rfl, h2, r2⟩ := trodAll_cons r1
  obtain ⟨rfl, rfl, rfl⟩ := trodAll_nil r2
  obtain rfl : args = #[v0, v1, v2] := by cases args; simp_all
  obtain ⟨rfl, rfl⟩ := trodVars_none hV
  have k0 := h0
  have lt0 : ∀ x ∈ p0, x.block < W.heap.size := by obtain ⟨m, hm⟩ := k0; exact DataW.trod_lt m _ _ _ hm
  have ww0 := weights_arg hsz (j := 0) (t := 64) rfl rfl
  obtain ⟨a0, hr0, Q0⟩ := opened_struct raw64 Try.underlying64 (hval 0 64 v0 rfl rfl) h0 ww0
  have k1 := h1
  have lt1 : ∀ x ∈ p1, x.block < W.heap.size := by obtain ⟨m, hm⟩ := k1; exact DataW.trod_lt m _ _ _ hm
  have ww1 := weights_arg hsz (j := 1) (t := 3) rfl rfl
  obtain ⟨a1, hr1, Q1⟩ := opened_cell raw3 (by obtain ⟨m, rfl⟩ := okWide_int Try.underlying3 (hval 1 3 v1 rfl rfl); rfl) h1 ww1
  have k2 := h2
  have lt2 : ∀ x ∈ p2, x.block < W.heap.size := by obtain ⟨m, hm⟩ := k2; exact DataW.trod_lt m _ _ _ hm
  have ww2 := weights_arg hsz (j := 2) (t := 22) rfl rfl
  obtain ⟨a2, hr2, Q2⟩ := opened_cell raw22 (by obtain ⟨A, m, c, rfl⟩ := okWide_slice Try.underlying22 (hval 2 22 v2 rfl rfl); rfl) h2 ww2
  clear hA0 hval0 hsz0 hsz
  obtain ⟨_, _, q1, q2⟩ := Q0
  obtain ⟨r1, _⟩ := Q2
  have hc := pure_calls (lawTreeEnd a0 a1 a2 (by omega) (fun e he => by have := (q2 e he).2.1; omega) (by omega)) W [v0, v1, v2] rfl (by
    intro i x u hx hu
    match i, hx, hu with
    | 0, hx, hu => cases hx; cases hu; exact hr0
    | 1, hx, hu => cases hx; cases hu; exact hr1
    | 2, hx, hu => cases hx; cases hu; exact hr2
    | n + 3, hx, hu => cases hx)
  refine hc.mono fun e W' ⟨he, bel⟩ => ?_
  subst he
  exact ⟨_, rfl, _, _, _, [], _, [], hW', trodAll_mk1 (shut_bool Try.underlying4 _), (trodAll_cons_mk (Below.trod laidOut (by kernel_rfl) (of_decide_eq_true (by kernel_rfl)) k0 bel lt0) (trodAll_cons_mk (Below.trod laidOut (by kernel_rfl) (of_decide_eq_true (by kernel_rfl)) k1 bel lt1) (trodAll_cons_mk (Below.trod laidOut (by kernel_rfl) (of_decide_eq_true (by kernel_rfl)) k2 bel lt2) trodAll_mk0))), rfl, bel.frame _, fun h => by cases h⟩
theorem over : Rows.fnExactTreeEndRow.holds Try.pinned (OpenSpec.ofChange Rows.fnExactTreeEndSpec) :=
  OpenClaim.holds_of_wide 13 Try.f13 rfl rfl rfl rfl rfl rfl rfl ⟨rfl, rfl, rfl, rfl, rfl⟩ rfl rfl rfl rfl rfl (by kernel_rfl) Try.func13 (by kernel_rfl)
    (of_decide_eq_true (by kernel_rfl)) (by unfold Func.isWrapper; first | (rw [if_pos (by decide +kernel)]; kernel_rfl) | (rw [if_neg (by decide +kernel)]; exact ⟨rfl, rfl⟩))
    (fun os started H enc _ => lifted os started H enc)
theorem proved : Rows.FnExactTreeEndSaid := over
#print axioms proved
end Go.Proofs.Ytbapglkldnlckaa.fnExactTreeEnd
namespace Go.Proofs.Ytbapglkldnlckaa
/-- The row, under a short name, for the claim. -/
theorem fnExactTreeEnd_holds : Rows.FnExactTreeEndSaid := fnExactTreeEnd.proved
end Go.Proofs.Ytbapglkldnlckaa
