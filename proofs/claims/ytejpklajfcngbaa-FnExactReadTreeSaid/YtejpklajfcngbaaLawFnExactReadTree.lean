/- The row of the law FnExactReadTree: for every input the law answers true, and its arguments read behind the call as before. -/
import Derived.Test.YtejpklajfcngbaaRows
import Derived.Test.YtejpklajfcngbaaM2
import Derived.Test.YtejpklajfcngbaaM4
import Derived.WalkKit
import Derived.ProofKit
import Derived.OpenShut
import Derived.ShutString
import Derived.ChangeOld
import Derived.Below
import Derived.SizedLaws
namespace Go.Proofs.Ytejpklajfcngbaa.fnExactReadTree
open Go.ChangeShapes Go.WideShapes Go.ChangeAt Go.RowKit Go.Proofs.Ytejpklajfcngbaa.En
set_option linter.unusedVariables false
set_option linter.unusedSimpArgs false
theorem own : ownKnob Try.prog.godebug = none := by kernel_rfl
theorem laidOut : laidOutB Try.prog = true := by kernel_rfl
theorem raw3 : OpA Try.prog 3 1 (fun n : Int => [AV.v (.int .i64 n)]) WfI := opa_int Try.underlying3
theorem raw26 : OpA Try.prog 26 1 (fun xs : List Int => [AV.im 1 (xs.map (fun n : Int => [AV.v (.int .i64 n)]))]) (RowQ 8 WfI) := opa_slice (enc := (fun n : Int => [AV.v (.int .i64 n)])) (Q := WfI) Try.underlying26 (by kernel_rfl) (by kernel_rfl) (by decide) raw3
def en101 : (Int × (List Int)) → List AV := (fun x : Int × (List Int) => (fun n : Int => [AV.v (.int .i64 n)]) x.1 ++ (fun xs : List Int => [AV.im 1 (xs.map (fun n : Int => [AV.v (.int .i64 n)]))]) x.2)
def qu101 : (Int × (List Int)) → Prop := (fun x : Int × (List Int) => WfI x.1 ∧ (RowQ 8 WfI) x.2)
theorem raw101 : OpA Try.prog 101 2 en101 qu101 := opa_struct (sz := 2) (enc := (fun x : Int × (List Int) => (fun n : Int => [AV.v (.int .i64 n)]) x.1 ++ (fun xs : List Int => [AV.im 1 (xs.map (fun n : Int => [AV.v (.int .i64 n)]))]) x.2)) (Q := (fun x : Int × (List Int) => WfI x.1 ∧ (RowQ 8 WfI) x.2)) Try.underlying101 rfl (by kernel_rfl) (opaF_cons (sz := 1) (sz' := 1) (enc := (fun n : Int => [AV.v (.int .i64 n)])) (enc' := (fun xs : List Int => [AV.im 1 (xs.map (fun n : Int => [AV.v (.int .i64 n)]))])) (Q := WfI) (Q' := (RowQ 8 WfI)) (by kernel_rfl) raw3 (opaF_one (sz := 1) (enc := (fun xs : List Int => [AV.im 1 (xs.map (fun n : Int => [AV.v (.int .i64 n)]))])) (Q := (RowQ 8 WfI)) (by kernel_rfl) raw26))
theorem raw22 : OpA Try.prog 22 1 (fun xs : List (Int × (List Int)) => [AV.im 2 (xs.map en101)]) (RowQ 32 qu101) := opa_slice (enc := en101) (Q := qu101) Try.underlying22 (by kernel_rfl) (by kernel_rfl) (by decide) raw101
def en24 : (Int × (Int × (List (Int × (List Int))))) → List AV := (fun x : Int × (Int × (List (Int × (List Int)))) => (fun n : Int => [AV.v (.int .i64 n)]) x.1 ++ (fun x : Int × (List (Int × (List Int))) => (fun n : Int => [AV.v (.int .i64 n)]) x.1 ++ (fun xs : List (Int × (List Int)) => [AV.im 2 (xs.map en101)]) x.2) x.2)
def qu24 : (Int × (Int × (List (Int × (List Int))))) → Prop := (fun x : Int × (Int × (List (Int × (List Int)))) => WfI x.1 ∧ (fun x : Int × (List (Int × (List Int))) => WfI x.1 ∧ (RowQ 32 qu101) x.2) x.2)
theorem raw24 : OpA Try.prog 24 3 en24 qu24 := opa_struct (sz := 3) (enc := (fun x : Int × (Int × (List (Int × (List Int)))) => (fun n : Int => [AV.v (.int .i64 n)]) x.1 ++ (fun x : Int × (List (Int × (List Int))) => (fun n : Int => [AV.v (.int .i64 n)]) x.1 ++ (fun xs : List (Int × (List Int)) => [AV.im 2 (xs.map en101)]) x.2) x.2)) (Q := (fun x : Int × (Int × (List (Int × (List Int)))) => WfI x.1 ∧ (fun x : Int × (List (Int × (List Int))) => WfI x.1 ∧ (RowQ 32 qu101) x.2) x.2)) Try.underlying24 rfl (by kernel_rfl) (opaF_cons (sz := 1) (sz' := 2) (enc := (fun n : Int => [AV.v (.int .i64 n)])) (enc' := (fun x : Int × (List (Int × (List Int))) => (fun n : Int => [AV.v (.int .i64 n)]) x.1 ++ (fun xs : List (Int × (List Int)) => [AV.im 2 (xs.map en101)]) x.2)) (Q := WfI) (Q' := (fun x : Int × (List (Int × (List Int))) => WfI x.1 ∧ (RowQ 32 qu101) x.2)) (by kernel_rfl) raw3 (opaF_cons (sz := 1) (sz' := 1) (enc := (fun n : Int => [AV.v (.int .i64 n)])) (enc' := (fun xs : List (Int × (List Int)) => [AV.im 2 (xs.map en101)])) (Q := WfI) (Q' := (RowQ 32 qu101)) (by kernel_rfl) raw3 (opaF_one (sz := 1) (enc := (fun xs : List (Int × (List Int)) => [AV.im 2 (xs.map en101)])) (Q := (RowQ 32 qu101)) (by kernel_rfl) raw22)))
theorem raw9 : OpA Try.prog 9 1 (fun s : List UInt8 => [AV.v (.string ⟨s.toArray⟩)]) (fun _ : List UInt8 => True) := opa_str Try.underlying9
set_option maxRecDepth 100000 in
theorem lifted (os : Os) (started : os.Started) (H : Type) (enc : TypeId × Value → H) :
    ReturnsInHanded {} Try.checked os 3 .any (Rows.fnExactReadTreeSpec.pre6 enc Try.prog Try.f3 Rows.fnExactReadTreeRow.domain false) (Rows.fnExactReadTreeSpec.post enc Try.prog Try.f3 false true false false) := by
  refine returnsInHanded_of_change_sized (C := Try.checked) own started (by kernel_rfl) Try.func3
    (ChangeSpec.witness6 (enc := enc) (C := Try.checked) false ⟨#[], #[.agg #[.int .i64 0, .int .i64 0, .slice none 0 0], .string ⟨#[]⟩], []⟩ 8 (by kernel_rfl) (by kernel_rfl) (by kernel_rfl) (by kernel_rfl)) ?_
  intro W base args ds gs before hval0 hW hcnd hsz0 _
  have hsz : (DataW.weightsEach Try.prog (Try.f3.params.toList ++ Rows.fnExactReadTreeSpec.plain.varTypes Try.prog) (ds ++ gs)).all (· ≤ reachBytes) = true := hsz0
  have hval : ∀ (j : Nat) t v, Try.f3.params[j]? = some t → args[j]? = some v → Value.okWide Try.prog W .any base t v := hval0
  have hW' := hW
  obtain ⟨p, q, hA0, hV, rfl, hfz, hnd⟩ := hW
  have hA : DataW.TrodAll enc Try.prog W 0 (fun _ => true) true Try.f3.params.toList args.toList ds p := hA0
  rw [Try.params3] at hA hval hsz
  obtain ⟨v0, vs0, d0, ds0, p0, q0, hargs, rfl, rfl, h0, r0⟩ := trodAll_cons hA
  obtain ⟨v1, vs1, d1, ds1, p1, q1, rfl, rfl, rfl, h1, r1⟩ := trodAll_cons r0
  obtain ⟨rfl, rfl, rfl⟩ := trodAll_nil r1
  obtain rfl : args = #[v0, v1] := by cases args; simp_all
  obtain ⟨rfl, rfl⟩ := trodVars_none hV
  have k0 := h0
  have lt0 : ∀ x ∈ p0, x.block < W.heap.size := by obtain ⟨m, hm⟩ := k0; exact DataW.trod_lt m _ _ _ hm
  have ww0 := weights_arg hsz (j := 0) (t := 24) rfl rfl
  obtain ⟨a0, hr0, Q0⟩ := opened_struct raw24 Try.underlying24 (hval 0 24 v0 rfl rfl) h0 ww0
  have k1 := h1
  have lt1 : ∀ x ∈ p1, x.block < W.heap.size := by obtain ⟨m, hm⟩ := k1; exact DataW.trod_lt m _ _ _ hm
  have ww1 := weights_arg hsz (j := 1) (t := 9) rfl rfl
  obtain ⟨a1, hr1, Q1⟩ := opened_cell raw9 (by obtain ⟨m, rfl⟩ := okWide_string Try.underlying9 (hval 1 9 v1 rfl rfl); rfl) h1 ww1
  clear hA0 hval0 hsz0 hsz
  obtain ⟨_, _, q1, q2⟩ := Q0
  have hc := pure_calls (lawReadT a0 a1 (by omega) (fun e he => by have := (q2 e he).2.1; omega)) W [v0, v1] rfl (by
    intro i x u hx hu
    match i, hx, hu with
    | 0, hx, hu => cases hx; cases hu; exact hr0
    | 1, hx, hu => cases hx; cases hu; exact hr1
    | n + 2, hx, hu => cases hx)
  refine hc.mono fun e W' ⟨he, bel⟩ => ?_
  subst he
  exact ⟨_, rfl, _, _, _, [], _, [], hW', trodAll_mk1 (shut_bool Try.underlying4 _), (trodAll_cons_mk (Below.trod laidOut (by kernel_rfl) (of_decide_eq_true (by kernel_rfl)) k0 bel lt0) (trodAll_cons_mk (Below.trod laidOut (by kernel_rfl) (of_decide_eq_true (by kernel_rfl)) k1 bel lt1) trodAll_mk0)), rfl, bel.frame _, fun h => by cases h⟩
theorem over : Rows.fnExactReadTreeRow.holds Try.pinned (OpenSpec.ofChange Rows.fnExactReadTreeSpec) :=
  OpenClaim.holds_of_wide 3 Try.f3 rfl rfl rfl rfl rfl rfl rfl ⟨rfl, rfl, rfl, rfl, rfl⟩ rfl rfl rfl rfl rfl (by kernel_rfl) Try.func3 (by kernel_rfl)
    (of_decide_eq_true (by kernel_rfl)) (by unfold Func.isWrapper; first | (rw [if_pos (by decide +kernel)]; kernel_rfl) | (rw [if_neg (by decide +kernel)]; exact ⟨rfl, rfl⟩))
    (fun os started H enc _ => lifted os started H enc)
theorem proved : Rows.FnExactReadTreeSaid := over
#print axioms proved
end Go.Proofs.Ytejpklajfcngbaa.fnExactReadTree
namespace Go.Proofs.Ytejpklajfcngbaa
/-- The row, under a short name, for the claim. -/
theorem fnExactReadTree_holds : Rows.FnExactReadTreeSaid := fnExactReadTree.proved
end Go.Proofs.Ytejpklajfcngbaa
