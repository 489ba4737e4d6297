/- The row of the law FnExactHasRound: for every input the law answers true, and its arguments read behind the call as before. -/
import Derived.Test.YtiabaknmgbpmoaaRows
import Derived.Test.YtiabaknmgbpmoaaM2
import Derived.Test.YtiabaknmgbpmoaaM6
import Derived.WalkKit
import Derived.ProofKit
import Derived.OpenShut
import Derived.ShutString
import Derived.ChangeOld
import Derived.Below
import Derived.SizedLaws
namespace Go.Proofs.Ytiabaknmgbpmoaa.fnExactHasRound
open Go.ChangeShapes Go.WideShapes Go.ChangeAt Go.RowKit Go.Proofs.Ytiabaknmgbpmoaa.En
set_option linter.unusedVariables false
set_option linter.unusedSimpArgs false
theorem own : ownKnob Try.prog.godebug = none := by kernel_rfl
theorem laidOut : laidOutB Try.prog = true := by kernel_rfl
theorem raw3 : OpA Try.prog 3 1 (fun n : Int => [AV.v (.int .i64 n)]) WfI := opa_int Try.underlying3
theorem raw25 : OpA Try.prog 25 1 (fun xs : List Int => [AV.im 1 (xs.map (fun n : Int => [AV.v (.int .i64 n)]))]) (RowQ 8 WfI) := opa_slice (enc := (fun n : Int => [AV.v (.int .i64 n)])) (Q := WfI) Try.underlying25 (by kernel_rfl) (by kernel_rfl) (by decide) raw3
def en115 : (Int × (List Int)) → List AV := (fun x : Int × (List Int) => (fun n : Int => [AV.v (.int .i64 n)]) x.1 ++ (fun xs : List Int => [AV.im 1 (xs.map (fun n : Int => [AV.v (.int .i64 n)]))]) x.2)
def qu115 : (Int × (List Int)) → Prop := (fun x : Int × (List Int) => WfI x.1 ∧ (RowQ 8 WfI) x.2)
theorem raw115 : OpA Try.prog 115 2 en115 qu115 := opa_struct (sz := 2) (enc := (fun x : Int × (List Int) => (fun n : Int => [AV.v (.int .i64 n)]) x.1 ++ (fun xs : List Int => [AV.im 1 (xs.map (fun n : Int => [AV.v (.int .i64 n)]))]) x.2)) (Q := (fun x : Int × (List Int) => WfI x.1 ∧ (RowQ 8 WfI) x.2)) Try.underlying115 rfl (by kernel_rfl) (opaF_cons (sz := 1) (sz' := 1) (enc := (fun n : Int => [AV.v (.int .i64 n)])) (enc' := (fun xs : List Int => [AV.im 1 (xs.map (fun n : Int => [AV.v (.int .i64 n)]))])) (Q := WfI) (Q' := (RowQ 8 WfI)) (by kernel_rfl) raw3 (opaF_one (sz := 1) (enc := (fun xs : List Int => [AV.im 1 (xs.map (fun n : Int => [AV.v (.int .i64 n)]))])) (Q := (RowQ 8 WfI)) (by kernel_rfl) raw25))
theorem raw22 : OpA Try.prog 22 1 (fun xs : List (Int × (List Int)) => [AV.im 2 (xs.map en115)]) (RowQ 32 qu115) := opa_slice (enc := en115) (Q := qu115) Try.underlying22 (by kernel_rfl) (by kernel_rfl) (by decide) raw115
def en24 : (Int × (Int × (List (Int × (List Int))))) → List AV := (fun x : Int × (Int × (List (Int × (List Int)))) => (fun n : Int => [AV.v (.int .i64 n)]) x.1 ++ (fun x : Int × (List (Int × (List Int))) => (fun n : Int => [AV.v (.int .i64 n)]) x.1 ++ (fun xs : List (Int × (List Int)) => [AV.im 2 (xs.map en115)]) x.2) x.2)
def qu24 : (Int × (Int × (List (Int × (List Int))))) → Prop := (fun x : Int × (Int × (List (Int × (List Int)))) => WfI x.1 ∧ (fun x : Int × (List (Int × (List Int))) => WfI x.1 ∧ (RowQ 32 qu115) x.2) x.2)
theorem raw24 : OpA Try.prog 24 3 en24 qu24 := opa_struct (sz := 3) (enc := (fun x : Int × (Int × (List (Int × (List Int)))) => (fun n : Int => [AV.v (.int .i64 n)]) x.1 ++ (fun x : Int × (List (Int × (List Int))) => (fun n : Int => [AV.v (.int .i64 n)]) x.1 ++ (fun xs : List (Int × (List Int)) => [AV.im 2 (xs.map en115)]) x.2) x.2)) (Q := (fun x : Int × (Int × (List (Int × (List Int)))) => WfI x.1 ∧ (fun x : Int × (List (Int × (List Int))) => WfI x.1 ∧ (RowQ 32 qu115) x.2) x.2)) Try.underlying24 rfl (by kernel_rfl) (opaF_cons (sz := 1) (sz' := 2) (enc := (fun n : Int => [AV.v (.int .i64 n)])) (enc' := (fun x : Int × (List (Int × (List Int))) => (fun n : Int => [AV.v (.int .i64 n)]) x.1 ++ (fun xs : List (Int × (List Int)) => [AV.im 2 (xs.map en115)]) x.2)) (Q := WfI) (Q' := (fun x : Int × (List (Int × (List Int))) => WfI x.1 ∧ (RowQ 32 qu115) x.2)) (by kernel_rfl) raw3 (opaF_cons (sz := 1) (sz' := 1) (enc := (fun n : Int => [AV.v (.int .i64 n)])) (enc' := (fun xs : List (Int × (List Int)) => [AV.im 2 (xs.map en115)])) (Q := WfI) (Q' := (RowQ 32 qu115)) (by kernel_rfl) raw3 (opaF_one (sz := 1) (enc := (fun xs : List (Int × (List Int)) => [AV.im 2 (xs.map en115)])) (Q := (RowQ 32 qu115)) (by kernel_rfl) raw22)))
def en139 : (Int × (Int × Int)) → List AV := (fun x : Int × (Int × Int) => (fun n : Int => [AV.v (.int .i64 n)]) x.1 ++ (fun x : Int × Int => (fun n : Int => [AV.v (.int .i64 n)]) x.1 ++ (fun n : Int => [AV.v (.int .i64 n)]) x.2) x.2)
def qu139 : (Int × (Int × Int)) → Prop := (fun x : Int × (Int × Int) => WfI x.1 ∧ (fun x : Int × Int => WfI x.1 ∧ WfI x.2) x.2)
theorem raw139 : OpA Try.prog 139 3 en139 qu139 := opa_struct (sz := 3) (enc := (fun x : Int × (Int × Int) => (fun n : Int => [AV.v (.int .i64 n)]) x.1 ++ (fun x : Int × Int => (fun n : Int => [AV.v (.int .i64 n)]) x.1 ++ (fun n : Int => [AV.v (.int .i64 n)]) x.2) x.2)) (Q := (fun x : Int × (Int × Int) => WfI x.1 ∧ (fun x : Int × Int => WfI x.1 ∧ WfI x.2) x.2)) Try.underlying139 rfl (by kernel_rfl) (opaF_cons (sz := 1) (sz' := 2) (enc := (fun n : Int => [AV.v (.int .i64 n)])) (enc' := (fun x : Int × Int => (fun n : Int => [AV.v (.int .i64 n)]) x.1 ++ (fun n : Int => [AV.v (.int .i64 n)]) x.2)) (Q := WfI) (Q' := (fun x : Int × Int => WfI x.1 ∧ WfI x.2)) (by kernel_rfl) raw3 (opaF_cons (sz := 1) (sz' := 1) (enc := (fun n : Int => [AV.v (.int .i64 n)])) (enc' := (fun n : Int => [AV.v (.int .i64 n)])) (Q := WfI) (Q' := WfI) (by kernel_rfl) raw3 (opaF_one (sz := 1) (enc := (fun n : Int => [AV.v (.int .i64 n)])) (Q := WfI) (by kernel_rfl) raw3)))
theorem raw41 : OpA Try.prog 41 1 (fun xs : List (Int × (Int × Int)) => [AV.im 3 (xs.map en139)]) (RowQ 24 qu139) := opa_slice (enc := en139) (Q := qu139) Try.underlying41 (by kernel_rfl) (by kernel_rfl) (by decide) raw139
def en132 : (Int × (Int × (List Int))) → List AV := (fun x : Int × (Int × (List Int)) => (fun n : Int => [AV.v (.int .i64 n)]) x.1 ++ (fun x : Int × (List Int) => (fun n : Int => [AV.v (.int .i64 n)]) x.1 ++ (fun xs : List Int => [AV.im 1 (xs.map (fun n : Int => [AV.v (.int .i64 n)]))]) x.2) x.2)
def qu132 : (Int × (Int × (List Int))) → Prop := (fun x : Int × (Int × (List Int)) => WfI x.1 ∧ (fun x : Int × (List Int) => WfI x.1 ∧ (RowQ 8 WfI) x.2) x.2)
theorem raw132 : OpA Try.prog 132 3 en132 qu132 := opa_struct (sz := 3) (enc := (fun x : Int × (Int × (List Int)) => (fun n : Int => [AV.v (.int .i64 n)]) x.1 ++ (fun x : Int × (List Int) => (fun n : Int => [AV.v (.int .i64 n)]) x.1 ++ (fun xs : List Int => [AV.im 1 (xs.map (fun n : Int => [AV.v (.int .i64 n)]))]) x.2) x.2)) (Q := (fun x : Int × (Int × (List Int)) => WfI x.1 ∧ (fun x : Int × (List Int) => WfI x.1 ∧ (RowQ 8 WfI) x.2) x.2)) Try.underlying132 rfl (by kernel_rfl) (opaF_cons (sz := 1) (sz' := 2) (enc := (fun n : Int => [AV.v (.int .i64 n)])) (enc' := (fun x : Int × (List Int) => (fun n : Int => [AV.v (.int .i64 n)]) x.1 ++ (fun xs : List Int => [AV.im 1 (xs.map (fun n : Int => [AV.v (.int .i64 n)]))]) x.2)) (Q := WfI) (Q' := (fun x : Int × (List Int) => WfI x.1 ∧ (RowQ 8 WfI) x.2)) (by kernel_rfl) raw3 (opaF_cons (sz := 1) (sz' := 1) (enc := (fun n : Int => [AV.v (.int .i64 n)])) (enc' := (fun xs : List Int => [AV.im 1 (xs.map (fun n : Int => [AV.v (.int .i64 n)]))])) (Q := WfI) (Q' := (RowQ 8 WfI)) (by kernel_rfl) raw3 (opaF_one (sz := 1) (enc := (fun xs : List Int => [AV.im 1 (xs.map (fun n : Int => [AV.v (.int .i64 n)]))])) (Q := (RowQ 8 WfI)) (by kernel_rfl) raw25)))
theorem raw42 : OpA Try.prog 42 1 (fun xs : List (Int × (Int × (List Int))) => [AV.im 3 (xs.map en132)]) (RowQ 40 qu132) := opa_slice (enc := en132) (Q := qu132) Try.underlying42 (by kernel_rfl) (by kernel_rfl) (by decide) raw132
def en44 : ((List (Int × (Int × Int))) × (List (Int × (Int × (List Int))))) → List AV := (fun x : (List (Int × (Int × Int))) × (List (Int × (Int × (List Int)))) => (fun xs : List (Int × (Int × Int)) => [AV.im 3 (xs.map en139)]) x.1 ++ (fun xs : List (Int × (Int × (List Int))) => [AV.im 3 (xs.map en132)]) x.2)
def qu44 : ((List (Int × (Int × Int))) × (List (Int × (Int × (List Int))))) → Prop := (fun x : (List (Int × (Int × Int))) × (List (Int × (Int × (List Int)))) => (RowQ 24 qu139) x.1 ∧ (RowQ 40 qu132) x.2)
theorem raw44 : OpA Try.prog 44 2 en44 qu44 := opa_struct (sz := 2) (enc := (fun x : (List (Int × (Int × Int))) × (List (Int × (Int × (List Int)))) => (fun xs : List (Int × (Int × Int)) => [AV.im 3 (xs.map en139)]) x.1 ++ (fun xs : List (Int × (Int × (List Int))) => [AV.im 3 (xs.map en132)]) x.2)) (Q := (fun x : (List (Int × (Int × Int))) × (List (Int × (Int × (List Int)))) => (RowQ 24 qu139) x.1 ∧ (RowQ 40 qu132) x.2)) Try.underlying44 rfl (by kernel_rfl) (opaF_cons (sz := 1) (sz' := 1) (enc := (fun xs : List (Int × (Int × Int)) => [AV.im 3 (xs.map en139)])) (enc' := (fun xs : List (Int × (Int × (List Int))) => [AV.im 3 (xs.map en132)])) (Q := (RowQ 24 qu139)) (Q' := (RowQ 40 qu132)) (by kernel_rfl) raw41 (opaF_one (sz := 1) (enc := (fun xs : List (Int × (Int × (List Int))) => [AV.im 3 (xs.map en132)])) (Q := (RowQ 40 qu132)) (by kernel_rfl) raw42))
set_option maxRecDepth 100000 in
theorem lifted (os : Os) (started : os.Started) (H : Type) (enc : TypeId × Value → H) :
    ReturnsInHanded {} Try.checked os 5 .any (Rows.fnExactHasRoundSpec.pre6 enc Try.prog Try.f5 Rows.fnExactHasRoundRow.domain false) (Rows.fnExactHasRoundSpec.post enc Try.prog Try.f5 false true false false) := by
  refine returnsInHanded_of_change_sized (C := Try.checked) own started (by kernel_rfl) Try.func5
    (ChangeSpec.witness6 (enc := enc) (C := Try.checked) false ⟨#[], #[.agg #[.int .i64 0, .int .i64 0, .slice none 0 0], .agg #[.slice none 0 0, .slice none 0 0]], []⟩ 8 (by kernel_rfl) (by kernel_rfl) (by kernel_rfl) (by kernel_rfl)) ?_
  intro W base args ds gs before hval0 hW hcnd hsz0 _
  have hsz : (DataW.weightsEach Try.prog (Try.f5.params.toList ++ Rows.fnExactHasRoundSpec.plain.varTypes Try.prog) (ds ++ gs)).all (· ≤ reachBytes) = true := hsz0
  have hval : ∀ (j : Nat) t v, Try.f5.params[j]? = some t → args[j]? = some v → Value.okWide Try.prog W .any base t v := hval0
  have hW' := hW
  obtain ⟨p, q, hA0, hV, rfl, hfz, hnd⟩ := hW
  have hA : DataW.TrodAll enc Try.prog W 0 (fun _ => true) true Try.f5.params.toList args.toList ds p := hA0
  rw [Try.params5] at hA hval hsz
  obtain ⟨v0, vs0, d0, ds0, p0, q0, hargs, rfl, rfl, h0, r0⟩ := trodAll_cons hA
  obtain ⟨v1, vs1, d1, ds1, p1, q1, rfl, rfl, rfl, h1, r1⟩ := trodAll_cons r0
  obtain ⟨rfl, rfl, rfl⟩ := trodAll_nil r1
  obtain rfl : args = #[v0, v1] := by cases args; simp_all
  obtain ⟨rfl, rfl⟩ := trodVars_none hV
  have k0 := h0
  have lt0 : ∀ x ∈ p0, x.block < W.heap.size := by obtain ⟨m, hm⟩ := k0; exact DataW.trod_lt m _ _ _ hm
  have ww0 := weights_arg hsz (j := 0) (t := 24) rfl rfl
  obtain ⟨a0, hr0, Q0⟩ := opened_struct raw24 Try.underlying24 (hval 0 24 v0 rfl rfl) h0 ww0
  have k1 := h1
  have lt1 : ∀ x ∈ p1, x.block < W.heap.size := by obtain ⟨m, hm⟩ := k1; exact DataW.trod_lt m _ _ _ hm
  have ww1 := weights_arg hsz (j := 1) (t := 44) rfl rfl
  obtain ⟨a1, hr1, Q1⟩ := opened_struct raw44 Try.underlying44 (hval 1 44 v1 rfl rfl) h1 ww1
  clear hA0 hval0 hsz0 hsz
  obtain ⟨_, _, q1, q2⟩ := Q0
  obtain ⟨⟨r1, _⟩, r2, r3⟩ := Q1
  have hc := pure_calls (lawRound a0 a1 (by have := q1; omega) (fun e he => by have := (q2 e he).2.1; omega) (by omega) (by omega) (fun e he => by have := (r3 e he).2.2.1; omega)) W [v0, v1] rfl (by
    intro i x u hx hu
    match i, hx, hu with
    | 0, hx, hu => cases hx; cases hu; exact hr0
    | 1, hx, hu => cases hx; cases hu; exact hr1
    | n + 2, hx, hu => cases hx)
  refine hc.mono fun e W' ⟨he, bel⟩ => ?_
  subst he
  exact ⟨_, rfl, _, _, _, [], _, [], hW', trodAll_mk1 (shut_bool Try.underlying4 _), (trodAll_cons_mk (Below.trod laidOut (by kernel_rfl) (of_decide_eq_true (by kernel_rfl)) k0 bel lt0) (trodAll_cons_mk (Below.trod laidOut (by kernel_rfl) (of_decide_eq_true (by kernel_rfl)) k1 bel lt1) trodAll_mk0)), rfl, bel.frame _, fun h => by cases h⟩
theorem over : Rows.fnExactHasRoundRow.holds Try.pinned (OpenSpec.ofChange Rows.fnExactHasRoundSpec) :=
  OpenClaim.holds_of_wide 5 Try.f5 rfl rfl rfl rfl rfl rfl rfl ⟨rfl, rfl, rfl, rfl, rfl⟩ rfl rfl rfl rfl rfl (by kernel_rfl) Try.func5 (by kernel_rfl)
    (of_decide_eq_true (by kernel_rfl)) (by unfold Func.isWrapper; first | (rw [if_pos (by decide +kernel)]; kernel_rfl) | (rw [if_neg (by decide +kernel)]; exact ⟨rfl, rfl⟩))
    (fun os started H enc _ => lifted os started H enc)
theorem proved : Rows.FnExactHasRoundSaid := over
#print axioms proved
end Go.Proofs.Ytiabaknmgbpmoaa.fnExactHasRound
namespace Go.Proofs.Ytiabaknmgbpmoaa
/-- The row, under a short name, for the claim. -/
theorem fnExactHasRound_holds : Rows.FnExactHasRoundSaid := fnExactHasRound.proved
end Go.Proofs.Ytiabaknmgbpmoaa
