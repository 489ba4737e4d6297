/- The row of the law FnExactIsBehind: for every input the law answers true, and its arguments read behind the call as before. -/
import Derived.Test.YtkolhcoeifghpaaGreatRows
import Derived.Test.YtkolhcoeifghpaaGreatM2
import Derived.Test.YtkolhcoeifghpaaGreatM6
import Derived.WalkKit
import Derived.ProofKit
import Derived.OpenShut
import Derived.ShutString
import Derived.ChangeOld
import Derived.Below
import Derived.SizedLaws
namespace Go.Proofs.YtkolhcoeifghpaaGreat.fnExactIsBehind
open Go.ChangeShapes Go.WideShapes Go.ChangeAt Go.RowKit Go.Proofs.YtkolhcoeifghpaaGreat.En
set_option linter.unusedVariables false
set_option linter.unusedSimpArgs false
theorem own : ownKnob Tryz.prog.godebug = none := by kernel_rfl
theorem laidOut : laidOutB Tryz.prog = true := by kernel_rfl
theorem raw3 : OpA Tryz.prog 3 1 (fun n : Int => [AV.v (.int .i64 n)]) WfI := opa_int Tryz.underlying3
theorem raw25 : OpA Tryz.prog 25 1 (fun xs : List Int => [AV.im 1 (xs.map (fun n : Int => [AV.v (.int .i64 n)]))]) (RowQ 8 WfI) := opa_slice (enc := (fun n : Int => [AV.v (.int .i64 n)])) (Q := WfI) Tryz.underlying25 (by kernel_rfl) (by kernel_rfl) (by decide) raw3
def en91 : (Int × (List Int)) → List AV := (fun x : Int × (List Int) => (fun n : Int => [AV.v (.int .i64 n)]) x.1 ++ (fun xs : List Int => [AV.im 1 (xs.map (fun n : Int => [AV.v (.int .i64 n)]))]) x.2)
def qu91 : (Int × (List Int)) → Prop := (fun x : Int × (List Int) => WfI x.1 ∧ (RowQ 8 WfI) x.2)
theorem raw91 : OpA Tryz.prog 91 2 en91 qu91 := opa_struct (sz := 2) (enc := (fun x : Int × (List Int) => (fun n : Int => [AV.v (.int .i64 n)]) x.1 ++ (fun xs : List Int => [AV.im 1 (xs.map (fun n : Int => [AV.v (.int .i64 n)]))]) x.2)) (Q := (fun x : Int × (List Int) => WfI x.1 ∧ (RowQ 8 WfI) x.2)) Tryz.underlying91 rfl (by kernel_rfl) (opaF_cons (sz := 1) (sz' := 1) (enc := (fun n : Int => [AV.v (.int .i64 n)])) (enc' := (fun xs : List Int => [AV.im 1 (xs.map (fun n : Int => [AV.v (.int .i64 n)]))])) (Q := WfI) (Q' := (RowQ 8 WfI)) (by kernel_rfl) raw3 (opaF_one (sz := 1) (enc := (fun xs : List Int => [AV.im 1 (xs.map (fun n : Int => [AV.v (.int .i64 n)]))])) (Q := (RowQ 8 WfI)) (by kernel_rfl) raw25))
theorem raw22 : OpA Tryz.prog 22 1 (fun xs : List (Int × (List Int)) => [AV.im 2 (xs.map en91)]) (RowQ 32 qu91) := opa_slice (enc := en91) (Q := qu91) Tryz.underlying22 (by kernel_rfl) (by kernel_rfl) (by decide) raw91
def en24 : (Int × (Int × (List (Int × (List Int))))) → List AV := (fun x : Int × (Int × (List (Int × (List Int)))) => (fun n : Int => [AV.v (.int .i64 n)]) x.1 ++ (fun x : Int × (List (Int × (List Int))) => (fun n : Int => [AV.v (.int .i64 n)]) x.1 ++ (fun xs : List (Int × (List Int)) => [AV.im 2 (xs.map en91)]) x.2) x.2)
def qu24 : (Int × (Int × (List (Int × (List Int))))) → Prop := (fun x : Int × (Int × (List (Int × (List Int)))) => WfI x.1 ∧ (fun x : Int × (List (Int × (List Int))) => WfI x.1 ∧ (RowQ 32 qu91) x.2) x.2)
theorem raw24 : OpA Tryz.prog 24 3 en24 qu24 := opa_struct (sz := 3) (enc := (fun x : Int × (Int × (List (Int × (List Int)))) => (fun n : Int => [AV.v (.int .i64 n)]) x.1 ++ (fun x : Int × (List (Int × (List Int))) => (fun n : Int => [AV.v (.int .i64 n)]) x.1 ++ (fun xs : List (Int × (List Int)) => [AV.im 2 (xs.map en91)]) x.2) x.2)) (Q := (fun x : Int × (Int × (List (Int × (List Int)))) => WfI x.1 ∧ (fun x : Int × (List (Int × (List Int))) => WfI x.1 ∧ (RowQ 32 qu91) x.2) x.2)) Tryz.underlying24 rfl (by kernel_rfl) (opaF_cons (sz := 1) (sz' := 2) (enc := (fun n : Int => [AV.v (.int .i64 n)])) (enc' := (fun x : Int × (List (Int × (List Int))) => (fun n : Int => [AV.v (.int .i64 n)]) x.1 ++ (fun xs : List (Int × (List Int)) => [AV.im 2 (xs.map en91)]) x.2)) (Q := WfI) (Q' := (fun x : Int × (List (Int × (List Int))) => WfI x.1 ∧ (RowQ 32 qu91) x.2)) (by kernel_rfl) raw3 (opaF_cons (sz := 1) (sz' := 1) (enc := (fun n : Int => [AV.v (.int .i64 n)])) (enc' := (fun xs : List (Int × (List Int)) => [AV.im 2 (xs.map en91)])) (Q := WfI) (Q' := (RowQ 32 qu91)) (by kernel_rfl) raw3 (opaF_one (sz := 1) (enc := (fun xs : List (Int × (List Int)) => [AV.im 2 (xs.map en91)])) (Q := (RowQ 32 qu91)) (by kernel_rfl) raw22)))
set_option maxRecDepth 100000 in
theorem lifted (os : Os) (started : os.Started) (H : Type) (enc : TypeId × Value → H) :
    ReturnsInHanded {} Tryz.checked os 6 .any (Rows.fnExactIsBehindSpec.pre6 enc Tryz.prog Tryz.f6 Rows.fnExactIsBehindRow.domain false) (Rows.fnExactIsBehindSpec.post enc Tryz.prog Tryz.f6 false true false false) := by
  refine returnsInHanded_of_change_sized (C := Tryz.checked) own started (by kernel_rfl) Tryz.func6
    (ChangeSpec.witness6 (enc := enc) (C := Tryz.checked) false ⟨#[], #[.agg #[.int .i64 0, .int .i64 0, .slice none 0 0]], []⟩ 8 (by kernel_rfl) (by kernel_rfl) (by kernel_rfl) (by kernel_rfl)) ?_
  intro W base args ds gs before hval0 hW hcnd hsz0 _
  have hsz : (DataW.weightsEach Tryz.prog (Tryz.f6.params.toList ++ Rows.fnExactIsBehindSpec.plain.varTypes Tryz.prog) (ds ++ gs)).all (· ≤ reachBytes) = true := hsz0
  have hval : ∀ (j : Nat) t v, Tryz.f6.params[j]? = some t → args[j]? = some v → Value.okWide Tryz.prog W .any base t v := hval0
  have hW' := hW
  obtain ⟨p, q, hA0, hV, rfl, hfz, hnd⟩ := hW
  have hA : DataW.TrodAll enc Tryz.prog W 0 (fun _ => true) true Tryz.f6.params.toList args.toList ds p := hA0
  rw [Tryz.params6] at hA hval hsz
  obtain ⟨v0, vs0, d0, ds0, p0, q0, hargs, rfl, rfl, h0, r0⟩ := trodAll_cons hA
  obtain ⟨rfl, rfl, rfl⟩ := trodAll_nil r0
  obtain rfl : args = #[v0] := by cases args; simp_all
  obtain ⟨rfl, rfl⟩ := trodVars_none hV
  have k0 := h0
  have lt0 : ∀ x ∈ p0, x.block < W.heap.size := by obtain ⟨m, hm⟩ := k0; exact DataW.trod_lt m _ _ _ hm
  have ww0 := weights_arg hsz (j := 0) (t := 24) rfl rfl
  obtain ⟨a0, hr0, Q0⟩ := opened_struct raw24 Tryz.underlying24 (hval 0 24 v0 rfl rfl) h0 ww0
  clear hA0 hval0 hsz0 hsz
  obtain ⟨_, _, q1, q2⟩ := Q0
  have hc := pure_calls (lawBeh a0 (by omega) (fun e he => by have := (q2 e he).2.1; omega)) W [v0] rfl (by
    intro i x u hx hu
    match i, hx, hu with
    | 0, hx, hu => cases hx; cases hu; exact hr0
    | n + 1, hx, hu => cases hx)
  refine hc.mono fun e W' ⟨he, bel⟩ => ?_
  subst he
  exact ⟨_, rfl, _, _, _, [], _, [], hW', trodAll_mk1 (shut_bool Tryz.underlying4 _), (trodAll_cons_mk (Below.trod laidOut (by kernel_rfl) (of_decide_eq_true (by kernel_rfl)) k0 bel lt0) trodAll_mk0), rfl, bel.frame _, fun h => by cases h⟩
theorem over : Rows.fnExactIsBehindRow.holds Tryz.pinned (OpenSpec.ofChange Rows.fnExactIsBehindSpec) :=
  OpenClaim.holds_of_wide 6 Tryz.f6 rfl rfl rfl rfl rfl rfl rfl ⟨rfl, rfl, rfl, rfl, rfl⟩ rfl rfl rfl rfl rfl (by kernel_rfl) Tryz.func6 (by kernel_rfl)
    (of_decide_eq_true (by kernel_rfl)) (by unfold Func.isWrapper; first | (rw [if_pos (by decide +kernel)]; kernel_rfl) | (rw [if_neg (by decide +kernel)]; exact ⟨rfl, rfl⟩))
    (fun os started H enc _ => lifted os started H enc)
theorem proved : Rows.FnExactIsBehindSaid := over
#print axioms proved
end Go.Proofs.YtkolhcoeifghpaaGreat.fnExactIsBehind
namespace Go.Proofs.YtkolhcoeifghpaaGreat
/-- The row, under a short name, for the claim. -/
theorem fnExactIsBehind_holds : Rows.FnExactIsBehindSaid := fnExactIsBehind.proved
end Go.Proofs.YtkolhcoeifghpaaGreat
