/- The row of the law FnExactChildrenOf: for every input the law answers true, and its arguments read behind the call as before. -/
import Derived.Test.YtjgeklhocjcgjaaRows
import Derived.Test.YtjgeklhocjcgjaaM2
import Derived.Test.YtjgeklhocjcgjaaM5
import Derived.WalkKit
import Derived.ProofKit
import Derived.OpenShut
import Derived.ShutString
import Derived.ChangeOld
import Derived.Below
import Derived.SizedLaws
namespace Go.Proofs.Ytjgeklhocjcgjaa.fnExactChildrenOf
open Go.ChangeShapes Go.WideShapes Go.ChangeAt Go.RowKit Go.Proofs.Ytjgeklhocjcgjaa.En
set_option linter.unusedVariables false
set_option linter.unusedSimpArgs false
theorem own : ownKnob Try.prog.godebug = none := by kernel_rfl
theorem laidOut : laidOutB Try.prog = true := by kernel_rfl
theorem raw3 : OpA Try.prog 3 1 (fun n : Int => [AV.v (.int .i64 n)]) WfI := opa_int Try.underlying3
theorem raw31 : OpA Try.prog 31 1 (fun xs : List Int => [AV.im 1 (xs.map (fun n : Int => [AV.v (.int .i64 n)]))]) (RowQ 8 WfI) := opa_slice (enc := (fun n : Int => [AV.v (.int .i64 n)])) (Q := WfI) Try.underlying31 (by kernel_rfl) (by kernel_rfl) (by decide) raw3
def en74 : (Int × (List Int)) → List AV := (fun x : Int × (List Int) => (fun n : Int => [AV.v (.int .i64 n)]) x.1 ++ (fun xs : List Int => [AV.im 1 (xs.map (fun n : Int => [AV.v (.int .i64 n)]))]) x.2)
def qu74 : (Int × (List Int)) → Prop := (fun x : Int × (List Int) => WfI x.1 ∧ (RowQ 8 WfI) x.2)
theorem raw74 : OpA Try.prog 74 2 en74 qu74 := opa_struct (sz := 2) (enc := (fun x : Int × (List Int) => (fun n : Int => [AV.v (.int .i64 n)]) x.1 ++ (fun xs : List Int => [AV.im 1 (xs.map (fun n : Int => [AV.v (.int .i64 n)]))]) x.2)) (Q := (fun x : Int × (List Int) => WfI x.1 ∧ (RowQ 8 WfI) x.2)) Try.underlying74 rfl (by kernel_rfl) (opaF_cons (sz := 1) (sz' := 1) (enc := (fun n : Int => [AV.v (.int .i64 n)])) (enc' := (fun xs : List Int => [AV.im 1 (xs.map (fun n : Int => [AV.v (.int .i64 n)]))])) (Q := WfI) (Q' := (RowQ 8 WfI)) (by kernel_rfl) raw3 (opaF_one (sz := 1) (enc := (fun xs : List Int => [AV.im 1 (xs.map (fun n : Int => [AV.v (.int .i64 n)]))])) (Q := (RowQ 8 WfI)) (by kernel_rfl) raw31))
theorem raw22 : OpA Try.prog 22 1 (fun xs : List (Int × (List Int)) => [AV.im 2 (xs.map en74)]) (RowQ 32 qu74) := opa_slice (enc := en74) (Q := qu74) Try.underlying22 (by kernel_rfl) (by kernel_rfl) (by decide) raw74
def en24 : (Int × (Int × (List (Int × (List Int))))) → List AV := (fun x : Int × (Int × (List (Int × (List Int)))) => (fun n : Int => [AV.v (.int .i64 n)]) x.1 ++ (fun x : Int × (List (Int × (List Int))) => (fun n : Int => [AV.v (.int .i64 n)]) x.1 ++ (fun xs : List (Int × (List Int)) => [AV.im 2 (xs.map en74)]) x.2) x.2)
def qu24 : (Int × (Int × (List (Int × (List Int))))) → Prop := (fun x : Int × (Int × (List (Int × (List Int)))) => WfI x.1 ∧ (fun x : Int × (List (Int × (List Int))) => WfI x.1 ∧ (RowQ 32 qu74) x.2) x.2)
theorem raw24 : OpA Try.prog 24 3 en24 qu24 := opa_struct (sz := 3) (enc := (fun x : Int × (Int × (List (Int × (List Int)))) => (fun n : Int => [AV.v (.int .i64 n)]) x.1 ++ (fun x : Int × (List (Int × (List Int))) => (fun n : Int => [AV.v (.int .i64 n)]) x.1 ++ (fun xs : List (Int × (List Int)) => [AV.im 2 (xs.map en74)]) x.2) x.2)) (Q := (fun x : Int × (Int × (List (Int × (List Int)))) => WfI x.1 ∧ (fun x : Int × (List (Int × (List Int))) => WfI x.1 ∧ (RowQ 32 qu74) x.2) x.2)) Try.underlying24 rfl (by kernel_rfl) (opaF_cons (sz := 1) (sz' := 2) (enc := (fun n : Int => [AV.v (.int .i64 n)])) (enc' := (fun x : Int × (List (Int × (List Int))) => (fun n : Int => [AV.v (.int .i64 n)]) x.1 ++ (fun xs : List (Int × (List Int)) => [AV.im 2 (xs.map en74)]) x.2)) (Q := WfI) (Q' := (fun x : Int × (List (Int × (List Int))) => WfI x.1 ∧ (RowQ 32 qu74) x.2)) (by kernel_rfl) raw3 (opaF_cons (sz := 1) (sz' := 1) (enc := (fun n : Int => [AV.v (.int .i64 n)])) (enc' := (fun xs : List (Int × (List Int)) => [AV.im 2 (xs.map en74)])) (Q := WfI) (Q' := (RowQ 32 qu74)) (by kernel_rfl) raw3 (opaF_one (sz := 1) (enc := (fun xs : List (Int × (List Int)) => [AV.im 2 (xs.map en74)])) (Q := (RowQ 32 qu74)) (by kernel_rfl) raw22)))
def en86 : (Int × (Int × Int)) → List AV := (fun x : Int × (Int × Int) => (fun n : Int => [AV.v (.int .i64 n)]) x.1 ++ (fun x : Int × Int => (fun n : Int => [AV.v (.int .i64 n)]) x.1 ++ (fun n : Int => [AV.v (.int .i64 n)]) x.2) x.2)
def qu86 : (Int × (Int × Int)) → Prop := (fun x : Int × (Int × Int) => WfI x.1 ∧ (fun x : Int × Int => WfI x.1 ∧ WfI x.2) x.2)
theorem raw86 : OpA Try.prog 86 3 en86 qu86 := opa_struct (sz := 3) (enc := (fun x : Int × (Int × Int) => (fun n : Int => [AV.v (.int .i64 n)]) x.1 ++ (fun x : Int × Int => (fun n : Int => [AV.v (.int .i64 n)]) x.1 ++ (fun n : Int => [AV.v (.int .i64 n)]) x.2) x.2)) (Q := (fun x : Int × (Int × Int) => WfI x.1 ∧ (fun x : Int × Int => WfI x.1 ∧ WfI x.2) x.2)) Try.underlying86 rfl (by kernel_rfl) (opaF_cons (sz := 1) (sz' := 2) (enc := (fun n : Int => [AV.v (.int .i64 n)])) (enc' := (fun x : Int × Int => (fun n : Int => [AV.v (.int .i64 n)]) x.1 ++ (fun n : Int => [AV.v (.int .i64 n)]) x.2)) (Q := WfI) (Q' := (fun x : Int × Int => WfI x.1 ∧ WfI x.2)) (by kernel_rfl) raw3 (opaF_cons (sz := 1) (sz' := 1) (enc := (fun n : Int => [AV.v (.int .i64 n)])) (enc' := (fun n : Int => [AV.v (.int .i64 n)])) (Q := WfI) (Q' := WfI) (by kernel_rfl) raw3 (opaF_one (sz := 1) (enc := (fun n : Int => [AV.v (.int .i64 n)])) (Q := WfI) (by kernel_rfl) raw3)))
theorem raw25 : OpA Try.prog 25 1 (fun xs : List (Int × (Int × Int)) => [AV.im 3 (xs.map en86)]) (RowQ 24 qu86) := opa_slice (enc := en86) (Q := qu86) Try.underlying25 (by kernel_rfl) (by kernel_rfl) (by decide) raw86
def en76 : (Int × (Int × (List Int))) → List AV := (fun x : Int × (Int × (List Int)) => (fun n : Int => [AV.v (.int .i64 n)]) x.1 ++ (fun x : Int × (List Int) => (fun n : Int => [AV.v (.int .i64 n)]) x.1 ++ (fun xs : List Int => [AV.im 1 (xs.map (fun n : Int => [AV.v (.int .i64 n)]))]) x.2) x.2)
def qu76 : (Int × (Int × (List Int))) → Prop := (fun x : Int × (Int × (List Int)) => WfI x.1 ∧ (fun x : Int × (List Int) => WfI x.1 ∧ (RowQ 8 WfI) x.2) x.2)
theorem raw76 : OpA Try.prog 76 3 en76 qu76 := opa_struct (sz := 3) (enc := (fun x : Int × (Int × (List Int)) => (fun n : Int => [AV.v (.int .i64 n)]) x.1 ++ (fun x : Int × (List Int) => (fun n : Int => [AV.v (.int .i64 n)]) x.1 ++ (fun xs : List Int => [AV.im 1 (xs.map (fun n : Int => [AV.v (.int .i64 n)]))]) x.2) x.2)) (Q := (fun x : Int × (Int × (List Int)) => WfI x.1 ∧ (fun x : Int × (List Int) => WfI x.1 ∧ (RowQ 8 WfI) x.2) x.2)) Try.underlying76 rfl (by kernel_rfl) (opaF_cons (sz := 1) (sz' := 2) (enc := (fun n : Int => [AV.v (.int .i64 n)])) (enc' := (fun x : Int × (List Int) => (fun n : Int => [AV.v (.int .i64 n)]) x.1 ++ (fun xs : List Int => [AV.im 1 (xs.map (fun n : Int => [AV.v (.int .i64 n)]))]) x.2)) (Q := WfI) (Q' := (fun x : Int × (List Int) => WfI x.1 ∧ (RowQ 8 WfI) x.2)) (by kernel_rfl) raw3 (opaF_cons (sz := 1) (sz' := 1) (enc := (fun n : Int => [AV.v (.int .i64 n)])) (enc' := (fun xs : List Int => [AV.im 1 (xs.map (fun n : Int => [AV.v (.int .i64 n)]))])) (Q := WfI) (Q' := (RowQ 8 WfI)) (by kernel_rfl) raw3 (opaF_one (sz := 1) (enc := (fun xs : List Int => [AV.im 1 (xs.map (fun n : Int => [AV.v (.int .i64 n)]))])) (Q := (RowQ 8 WfI)) (by kernel_rfl) raw31)))
theorem raw26 : OpA Try.prog 26 1 (fun xs : List (Int × (Int × (List Int))) => [AV.im 3 (xs.map en76)]) (RowQ 40 qu76) := opa_slice (enc := en76) (Q := qu76) Try.underlying26 (by kernel_rfl) (by kernel_rfl) (by decide) raw76
def en28 : ((List (Int × (Int × Int))) × (List (Int × (Int × (List Int))))) → List AV := (fun x : (List (Int × (Int × Int))) × (List (Int × (Int × (List Int)))) => (fun xs : List (Int × (Int × Int)) => [AV.im 3 (xs.map en86)]) x.1 ++ (fun xs : List (Int × (Int × (List Int))) => [AV.im 3 (xs.map en76)]) x.2)
def qu28 : ((List (Int × (Int × Int))) × (List (Int × (Int × (List Int))))) → Prop := (fun x : (List (Int × (Int × Int))) × (List (Int × (Int × (List Int)))) => (RowQ 24 qu86) x.1 ∧ (RowQ 40 qu76) x.2)
theorem raw28 : OpA Try.prog 28 2 en28 qu28 := opa_struct (sz := 2) (enc := (fun x : (List (Int × (Int × Int))) × (List (Int × (Int × (List Int)))) => (fun xs : List (Int × (Int × Int)) => [AV.im 3 (xs.map en86)]) x.1 ++ (fun xs : List (Int × (Int × (List Int))) => [AV.im 3 (xs.map en76)]) x.2)) (Q := (fun x : (List (Int × (Int × Int))) × (List (Int × (Int × (List Int)))) => (RowQ 24 qu86) x.1 ∧ (RowQ 40 qu76) x.2)) Try.underlying28 rfl (by kernel_rfl) (opaF_cons (sz := 1) (sz' := 1) (enc := (fun xs : List (Int × (Int × Int)) => [AV.im 3 (xs.map en86)])) (enc' := (fun xs : List (Int × (Int × (List Int))) => [AV.im 3 (xs.map en76)])) (Q := (RowQ 24 qu86)) (Q' := (RowQ 40 qu76)) (by kernel_rfl) raw25 (opaF_one (sz := 1) (enc := (fun xs : List (Int × (Int × (List Int))) => [AV.im 3 (xs.map en76)])) (Q := (RowQ 40 qu76)) (by kernel_rfl) raw26))
set_option maxRecDepth 100000 in
theorem lifted (os : Os) (started : os.Started) (H : Type) (enc : TypeId × Value → H) :
    ReturnsInHanded {} Try.checked os 3 .any (Rows.fnExactChildrenOfSpec.pre6 enc Try.prog Try.f3 Rows.fnExactChildrenOfRow.domain false) (Rows.fnExactChildrenOfSpec.post enc Try.prog Try.f3 false true false false) := by
  refine returnsInHanded_of_change_sized (C := Try.checked) own started (by kernel_rfl) Try.func3
    (ChangeSpec.witness6 (enc := enc) (C := Try.checked) false ⟨#[], #[.agg #[.int .i64 0, .int .i64 0, .slice none 0 0], .agg #[.slice none 0 0, .slice none 0 0], .int .i64 0], []⟩ 8 (by kernel_rfl) (by kernel_rfl) (by kernel_rfl) (by kernel_rfl)) ?_
  intro W base args ds gs before hval0 hW hcnd hsz0 _
  have hsz : (DataW.weightsEach Try.prog (Try.f3.params.toList ++ Rows.fnExactChildrenOfSpec.plain.varTypes Try.prog) (ds ++ gs)).all (· ≤ reachBytes) = true := hsz0
  have hval : ∀ (j : Nat) t v, Try.f3.params[j]? = some t → args[j]? = some v → Value.okWide Try.prog W .any base t v := hval0
  have hW' := hW
  obtain ⟨p, q, hA0, hV, rfl, hfz, hnd⟩ := hW
  have hA : DataW.TrodAll enc Try.prog W 0 (fun _ => true) true Try.f3.params.toList args.toList ds p := hA0
  rw [Try.params3] at hA hval hsz
  obtain ⟨v0, vs0, d0, ds0, p0, q0, hargs, rfl, rfl, h0, r0⟩ := trodAll_cons hA
  obtain ⟨v1, vs1, d1, ds1, p1, q1, rfl, rfl, rfl, h1, r1⟩ := trodAll_cons r0
  obtain ⟨v2, vs2, d2, ds2, p2, q2, rfl, rfl, rfl, h2, r2⟩ := trodAll_cons r1
  obtain ⟨rfl, rfl, rfl⟩ := trodAll_nil r2
  obtain rfl : args = #[v0, v1, v2] := by cases args; simp_all
  obtain ⟨rfl, rfl⟩ := trodVars_none hV
  have k0 := h0
  have lt0 : ∀ x ∈ p0, x.block < W.heap.size := by obtain ⟨m, hm⟩ := k0; exact DataW.trod_lt m _ _ _ hm
  have ww0 := weights_arg hsz (j := 0) (t := 24) rfl rfl
  obtain ⟨a0, hr0, Q0⟩ := opened_struct raw24 Try.underlying24 (hval 0 24 v0 rfl rfl) h0 ww0
  have k1 := h1
  have lt1 : ∀ x ∈ p1, x.block < W.heap.size := by obtain ⟨m, hm⟩ := k1; exact DataW.trod_lt m _ _ _ hm
  have ww1 := weights_arg hsz (j := 1) (t := 28) rfl rfl
  obtain ⟨a1, hr1, Q1⟩ := opened_struct raw28 Try.underlying28 (hval 1 28 v1 rfl rfl) h1 ww1
  have k2 := h2
  have lt2 : ∀ x ∈ p2, x.block < W.heap.size := by obtain ⟨m, hm⟩ := k2; exact DataW.trod_lt m _ _ _ hm
  have ww2 := weights_arg hsz (j := 2) (t := 3) rfl rfl
  obtain ⟨a2, hr2, Q2⟩ := opened_cell raw3 (by obtain ⟨m, rfl⟩ := okWide_int Try.underlying3 (hval 2 3 v2 rfl rfl); rfl) h2 ww2
  clear hA0 hval0 hsz0 hsz
  obtain ⟨_, _, q1, q2⟩ := Q0
  obtain ⟨⟨r1, _⟩, r2, r3⟩ := Q1
  have hc := pure_calls (lawChild a0 a1 a2 (by have := q1; omega) (fun e he => by have := (q2 e he).2.1; omega) (by omega) (by omega) (fun e he => by have := (r3 e he).2.2.1; omega)) W [v0, v1, v2] rfl (by
    intro i x u hx hu
    match i, hx, hu with
    | 0, hx, hu => cases hx; cases hu; exact hr0
    | 1, hx, hu => cases hx; cases hu; exact hr1
    | 2, hx, hu => cases hx; cases hu; exact hr2
    | n + 3, hx, hu => cases hx)
  refine hc.mono fun e W' ⟨he, bel⟩ => ?_
  subst he
  exact ⟨_, rfl, _, _, _, [], _, [], hW', trodAll_mk1 (shut_bool Try.underlying4 _), (trodAll_cons_mk (Below.trod laidOut (by kernel_rfl) (of_decide_eq_true (by kernel_rfl)) k0 bel lt0) (trodAll_cons_mk (Below.trod laidOut (by kernel_rfl) (of_decide_eq_true (by kernel_rfl)) k1 bel lt1) (trodAll_cons_mk (Below.trod laidOut (by kernel_rfl) (of_decide_eq_true (by kernel_rfl)) k2 bel lt2) trodAll_mk0))), rfl, bel.frame _, fun h => by cases h⟩
theorem over : Rows.fnExactChildrenOfRow.holds Try.pinned (OpenSpec.ofChange Rows.fnExactChildrenOfSpec) :=
  OpenClaim.holds_of_wide 3 Try.f3 rfl rfl rfl rfl rfl rfl rfl ⟨rfl, rfl, rfl, rfl, rfl⟩ rfl rfl rfl rfl rfl (by kernel_rfl) Try.func3 (by kernel_rfl)
    (of_decide_eq_true (by kernel_rfl)) (by unfold Func.isWrapper; first | (rw [if_pos (by decide +kernel)]; kernel_rfl) | (rw [if_neg (by decide +kernel)]; exact ⟨rfl, rfl⟩))
    (fun os started H enc _ => lifted os started H enc)
theorem proved : Rows.FnExactChildrenOfSaid := over
#print axioms proved
end Go.Proofs.Ytjgeklhocjcgjaa.fnExactChildrenOf
namespace Go.Proofs.Ytjgeklhocjcgjaa
/-- The row, under a short name, for the claim. -/
theorem fnExactChildrenOf_holds : Rows.FnExactChildrenOfSaid := fnExactChildrenOf.proved
end Go.Proofs.Ytjgeklhocjcgjaa
