/- The row of the law FnExactEdgesOf: for every input the law answers true, and its arguments read behind the call as before. -/
import Derived.Test.YtcgfhjglalhjjaaRows
import Derived.Test.YtcgfhjglalhjjaaM2
import Derived.Test.YtcgfhjglalhjjaaM4
import Derived.WalkKit
import Derived.ProofKit
import Derived.OpenShut
import Derived.ShutString
import Derived.ChangeOld
import Derived.Below
import Derived.SizedLaws
namespace Go.Proofs.Ytcgfhjglalhjjaa.fnExactEdgesOf
open Go.ChangeShapes Go.WideShapes Go.ChangeAt Go.RowKit Go.Proofs.Ytcgfhjglalhjjaa.En
set_option linter.unusedVariables false
set_option linter.unusedSimpArgs false
theorem own : ownKnob Try.prog.godebug = none := by kernel_rfl
theorem laidOut : laidOutB Try.prog = true := by kernel_rfl
theorem raw3 : OpA Try.prog 3 1 (fun n : Int => [AV.v (.int .i64 n)]) WfI := opa_int Try.underlying3
def en133 : (Int × (Int × Int)) → List AV := (fun x : Int × (Int × Int) => (fun n : Int => [AV.v (.int .i64 n)]) x.1 ++ (fun x : Int × Int => (fun n : Int => [AV.v (.int .i64 n)]) x.1 ++ (fun n : Int => [AV.v (.int .i64 n)]) x.2) x.2)
def qu133 : (Int × (Int × Int)) → Prop := (fun x : Int × (Int × Int) => WfI x.1 ∧ (fun x : Int × Int => WfI x.1 ∧ WfI x.2) x.2)
theorem raw133 : OpA Try.prog 133 3 en133 qu133 := opa_struct (sz := 3) (enc := (fun x : Int × (Int × Int) => (fun n : Int => [AV.v (.int .i64 n)]) x.1 ++ (fun x : Int × Int => (fun n : Int => [AV.v (.int .i64 n)]) x.1 ++ (fun n : Int => [AV.v (.int .i64 n)]) x.2) x.2)) (Q := (fun x : Int × (Int × Int) => WfI x.1 ∧ (fun x : Int × Int => WfI x.1 ∧ WfI x.2) x.2)) Try.underlying133 rfl (by kernel_rfl) (opaF_cons (sz := 1) (sz' := 2) (enc := (fun n : Int => [AV.v (.int .i64 n)])) (enc' := (fun x : Int × Int => (fun n : Int => [AV.v (.int .i64 n)]) x.1 ++ (fun n : Int => [AV.v (.int .i64 n)]) x.2)) (Q := WfI) (Q' := (fun x : Int × Int => WfI x.1 ∧ WfI x.2)) (by kernel_rfl) raw3 (opaF_cons (sz := 1) (sz' := 1) (enc := (fun n : Int => [AV.v (.int .i64 n)])) (enc' := (fun n : Int => [AV.v (.int .i64 n)])) (Q := WfI) (Q' := WfI) (by kernel_rfl) raw3 (opaF_one (sz := 1) (enc := (fun n : Int => [AV.v (.int .i64 n)])) (Q := WfI) (by kernel_rfl) raw3)))
theorem raw34 : OpA Try.prog 34 1 (fun xs : List (Int × (Int × Int)) => [AV.im 3 (xs.map en133)]) (RowQ 24 qu133) := opa_slice (enc := en133) (Q := qu133) Try.underlying34 (by kernel_rfl) (by kernel_rfl) (by decide) raw133
theorem raw39 : OpA Try.prog 39 1 (fun xs : List Int => [AV.im 1 (xs.map (fun n : Int => [AV.v (.int .i64 n)]))]) (RowQ 8 WfI) := opa_slice (enc := (fun n : Int => [AV.v (.int .i64 n)])) (Q := WfI) Try.underlying39 (by kernel_rfl) (by kernel_rfl) (by decide) raw3
def en129 : (Int × (Int × (List Int))) → List AV := (fun x : Int × (Int × (List Int)) => (fun n : Int => [AV.v (.int .i64 n)]) x.1 ++ (fun x : Int × (List Int) => (fun n : Int => [AV.v (.int .i64 n)]) x.1 ++ (fun xs : List Int => [AV.im 1 (xs.map (fun n : Int => [AV.v (.int .i64 n)]))]) x.2) x.2)
def qu129 : (Int × (Int × (List Int))) → Prop := (fun x : Int × (Int × (List Int)) => WfI x.1 ∧ (fun x : Int × (List Int) => WfI x.1 ∧ (RowQ 8 WfI) x.2) x.2)
theorem raw129 : OpA Try.prog 129 3 en129 qu129 := opa_struct (sz := 3) (enc := (fun x : Int × (Int × (List Int)) => (fun n : Int => [AV.v (.int .i64 n)]) x.1 ++ (fun x : Int × (List Int) => (fun n : Int => [AV.v (.int .i64 n)]) x.1 ++ (fun xs : List Int => [AV.im 1 (xs.map (fun n : Int => [AV.v (.int .i64 n)]))]) x.2) x.2)) (Q := (fun x : Int × (Int × (List Int)) => WfI x.1 ∧ (fun x : Int × (List Int) => WfI x.1 ∧ (RowQ 8 WfI) x.2) x.2)) Try.underlying129 rfl (by kernel_rfl) (opaF_cons (sz := 1) (sz' := 2) (enc := (fun n : Int => [AV.v (.int .i64 n)])) (enc' := (fun x : Int × (List Int) => (fun n : Int => [AV.v (.int .i64 n)]) x.1 ++ (fun xs : List Int => [AV.im 1 (xs.map (fun n : Int => [AV.v (.int .i64 n)]))]) x.2)) (Q := WfI) (Q' := (fun x : Int × (List Int) => WfI x.1 ∧ (RowQ 8 WfI) x.2)) (by kernel_rfl) raw3 (opaF_cons (sz := 1) (sz' := 1) (enc := (fun n : Int => [AV.v (.int .i64 n)])) (enc' := (fun xs : List Int => [AV.im 1 (xs.map (fun n : Int => [AV.v (.int .i64 n)]))])) (Q := WfI) (Q' := (RowQ 8 WfI)) (by kernel_rfl) raw3 (opaF_one (sz := 1) (enc := (fun xs : List Int => [AV.im 1 (xs.map (fun n : Int => [AV.v (.int .i64 n)]))])) (Q := (RowQ 8 WfI)) (by kernel_rfl) raw39)))
theorem raw35 : OpA Try.prog 35 1 (fun xs : List (Int × (Int × (List Int))) => [AV.im 3 (xs.map en129)]) (RowQ 40 qu129) := opa_slice (enc := en129) (Q := qu129) Try.underlying35 (by kernel_rfl) (by kernel_rfl) (by decide) raw129
def en37 : ((List (Int × (Int × Int))) × (List (Int × (Int × (List Int))))) → List AV := (fun x : (List (Int × (Int × Int))) × (List (Int × (Int × (List Int)))) => (fun xs : List (Int × (Int × Int)) => [AV.im 3 (xs.map en133)]) x.1 ++ (fun xs : List (Int × (Int × (List Int))) => [AV.im 3 (xs.map en129)]) x.2)
def qu37 : ((List (Int × (Int × Int))) × (List (Int × (Int × (List Int))))) → Prop := (fun x : (List (Int × (Int × Int))) × (List (Int × (Int × (List Int)))) => (RowQ 24 qu133) x.1 ∧ (RowQ 40 qu129) x.2)
theorem raw37 : OpA Try.prog 37 2 en37 qu37 := opa_struct (sz := 2) (enc := (fun x : (List (Int × (Int × Int))) × (List (Int × (Int × (List Int)))) => (fun xs : List (Int × (Int × Int)) => [AV.im 3 (xs.map en133)]) x.1 ++ (fun xs : List (Int × (Int × (List Int))) => [AV.im 3 (xs.map en129)]) x.2)) (Q := (fun x : (List (Int × (Int × Int))) × (List (Int × (Int × (List Int)))) => (RowQ 24 qu133) x.1 ∧ (RowQ 40 qu129) x.2)) Try.underlying37 rfl (by kernel_rfl) (opaF_cons (sz := 1) (sz' := 1) (enc := (fun xs : List (Int × (Int × Int)) => [AV.im 3 (xs.map en133)])) (enc' := (fun xs : List (Int × (Int × (List Int))) => [AV.im 3 (xs.map en129)])) (Q := (RowQ 24 qu133)) (Q' := (RowQ 40 qu129)) (by kernel_rfl) raw34 (opaF_one (sz := 1) (enc := (fun xs : List (Int × (Int × (List Int))) => [AV.im 3 (xs.map en129)])) (Q := (RowQ 40 qu129)) (by kernel_rfl) raw35))
set_option maxRecDepth 100000 in
theorem lifted (os : Os) (started : os.Started) (H : Type) (enc : TypeId × Value → H) :
    ReturnsInHanded {} Try.checked os 4 .any (Rows.fnExactEdgesOfSpec.pre6 enc Try.prog Try.f4 Rows.fnExactEdgesOfRow.domain false) (Rows.fnExactEdgesOfSpec.post enc Try.prog Try.f4 false true false false) := by
  refine returnsInHanded_of_change_sized (C := Try.checked) own started (by kernel_rfl) Try.func4
    (ChangeSpec.witness6 (enc := enc) (C := Try.checked) false ⟨#[], #[.agg #[.slice none 0 0, .slice none 0 0], .int .i64 0], []⟩ 8 (by kernel_rfl) (by kernel_rfl) (by kernel_rfl) (by kernel_rfl)) ?_
  intro W base args ds gs before hval0 hW hcnd hsz0 _
  have hsz : (DataW.weightsEach Try.prog (Try.f4.params.toList ++ Rows.fnExactEdgesOfSpec.plain.varTypes Try.prog) (ds ++ gs)).all (· ≤ reachBytes) = true := hsz0
  have hval : ∀ (j : Nat) t v, Try.f4.params[j]? = some t → args[j]? = some v → Value.okWide Try.prog W .any base t v := hval0
  have hW' := hW
  obtain ⟨p, q, hA0, hV, rfl, hfz, hnd⟩ := hW
  have hA : DataW.TrodAll enc Try.prog W 0 (fun _ => true) true Try.f4.params.toList args.toList ds p := hA0
  rw [Try.params4] at hA hval hsz
  obtain ⟨v0, vs0, d0, ds0, p0, q0, hargs, rfl, rfl, h0, r0⟩ := trodAll_cons hA
  obtain ⟨v1, vs1, d1, ds1, p1, q1, rfl, rfl, rfl, h1, r1⟩ := trodAll_cons r0
  obtain ⟨rfl, rfl, rfl⟩ := trodAll_nil r1
  obtain rfl : args = #[v0, v1] := by cases args; simp_all
  obtain ⟨rfl, rfl⟩ := trodVars_none hV
  have k0 := h0
  have lt0 : ∀ x ∈ p0, x.block < W.heap.size := by obtain ⟨m, hm⟩ := k0; exact DataW.trod_lt m _ _ _ hm
  have ww0 := weights_arg hsz (j := 0) (t := 37) rfl rfl
  obtain ⟨a0, hr0, Q0⟩ := opened_struct raw37 Try.underlying37 (hval 0 37 v0 rfl rfl) h0 ww0
  have k1 := h1
  have lt1 : ∀ x ∈ p1, x.block < W.heap.size := by obtain ⟨m, hm⟩ := k1; exact DataW.trod_lt m _ _ _ hm
  have ww1 := weights_arg hsz (j := 1) (t := 3) rfl rfl
  obtain ⟨a1, hr1, Q1⟩ := opened_cell raw3 (by obtain ⟨m, rfl⟩ := okWide_int Try.underlying3 (hval 1 3 v1 rfl rfl); rfl) h1 ww1
  clear hA0 hval0 hsz0 hsz
  obtain ⟨⟨q1, _⟩, q2, q3⟩ := Q0
  have hc := pure_calls (lawEdges a0 a1 (by omega) (by omega) (fun e he => by have := (q3 e he).2.2.1; omega)) W [v0, v1] rfl (by
    intro i x u hx hu
    match i, hx, hu with
    | 0, hx, hu => cases hx; cases hu; exact hr0
    | 1, hx, hu => cases hx; cases hu; exact hr1
    | n + 2, hx, hu => cases hx)
  refine hc.mono fun e W' ⟨he, bel⟩ => ?_
  subst he
  exact ⟨_, rfl, _, _, _, [], _, [], hW', trodAll_mk1 (shut_bool Try.underlying4 _), (trodAll_cons_mk (Below.trod laidOut (by kernel_rfl) (of_decide_eq_true (by kernel_rfl)) k0 bel lt0) (trodAll_cons_mk (Below.trod laidOut (by kernel_rfl) (of_decide_eq_true (by kernel_rfl)) k1 bel lt1) trodAll_mk0)), rfl, bel.frame _, fun h => by cases h⟩
theorem over : Rows.fnExactEdgesOfRow.holds Try.pinned (OpenSpec.ofChange Rows.fnExactEdgesOfSpec) :=
  OpenClaim.holds_of_wide 4 Try.f4 rfl rfl rfl rfl rfl rfl rfl ⟨rfl, rfl, rfl, rfl, rfl⟩ rfl rfl rfl rfl rfl (by kernel_rfl) Try.func4 (by kernel_rfl)
    (of_decide_eq_true (by kernel_rfl)) (by unfold Func.isWrapper; first | (rw [if_pos (by decide +kernel)]; kernel_rfl) | (rw [if_neg (by decide +kernel)]; exact ⟨rfl, rfl⟩))
    (fun os started H enc _ => lifted os started H enc)
theorem proved : Rows.FnExactEdgesOfSaid := over
#print axioms proved
end Go.Proofs.Ytcgfhjglalhjjaa.fnExactEdgesOf
namespace Go.Proofs.Ytcgfhjglalhjjaa
/-- The row, under a short name, for the claim. -/
theorem fnExactEdgesOf_holds : Rows.FnExactEdgesOfSaid := fnExactEdgesOf.proved
end Go.Proofs.Ytcgfhjglalhjjaa
