/- The row of the law FnExactItemText: for every input the law answers true, and its arguments read behind the call as before. -/
import Derived.Test.YtkolhcoeifghpaaDoorRows
import Derived.Test.YtkolhcoeifghpaaDoorM2
import Derived.Test.YtkolhcoeifghpaaDoorM3
import Derived.Test.YtkolhcoeifghpaaDoorCards
import Derived.Test.YtkolhcoeifghpaaDoorTie
import Derived.Lay
import Derived.LaidLaws
import Derived.LaidHandle
import Derived.LaidOnce
import Derived.SevenTiedAt
import Derived.WalkKit
import Derived.ProofKit
import Derived.OpenShut
import Derived.ShutString
import Derived.ChangeOld
import Derived.Below
import Derived.SizedLaws
namespace Go.Proofs.YtkolhcoeifghpaaDoor.fnExactItemText
open Go.ChangeShapes Go.WideShapes Go.ChangeAt Go.RowKit Go.Proofs.YtkolhcoeifghpaaDoor.En
set_option linter.unusedVariables false
set_option linter.unusedSimpArgs false
theorem own : ownKnob Tryd.prog.godebug = none := by kernel_rfl
theorem laidOut : laidOutB Tryd.prog = true := by kernel_rfl
theorem raw3 : OpA Tryd.prog 3 1 (fun n : Int => [AV.v (.int .i64 n)]) WfI := opa_int Tryd.underlying3
theorem raw41 : OpA Tryd.prog 41 1 (fun xs : List Int => [AV.im 1 (xs.map (fun n : Int => [AV.v (.int .i64 n)]))]) (RowQ 8 WfI) := opa_slice (enc := (fun n : Int => [AV.v (.int .i64 n)])) (Q := WfI) Tryd.underlying41 (by kernel_rfl) (by kernel_rfl) (by decide) raw3
def en48 : (Int × (List Int)) → List AV := (fun x : Int × (List Int) => (fun n : Int => [AV.v (.int .i64 n)]) x.1 ++ (fun xs : List Int => [AV.im 1 (xs.map (fun n : Int => [AV.v (.int .i64 n)]))]) x.2)
def qu48 : (Int × (List Int)) → Prop := (fun x : Int × (List Int) => WfI x.1 ∧ (RowQ 8 WfI) x.2)
theorem raw48 : OpA Tryd.prog 48 2 en48 qu48 := opa_struct (sz := 2) (enc := (fun x : Int × (List Int) => (fun n : Int => [AV.v (.int .i64 n)]) x.1 ++ (fun xs : List Int => [AV.im 1 (xs.map (fun n : Int => [AV.v (.int .i64 n)]))]) x.2)) (Q := (fun x : Int × (List Int) => WfI x.1 ∧ (RowQ 8 WfI) x.2)) Tryd.underlying48 rfl (by kernel_rfl) (opaF_cons (sz := 1) (sz' := 1) (enc := (fun n : Int => [AV.v (.int .i64 n)])) (enc' := (fun xs : List Int => [AV.im 1 (xs.map (fun n : Int => [AV.v (.int .i64 n)]))])) (Q := WfI) (Q' := (RowQ 8 WfI)) (by kernel_rfl) raw3 (opaF_one (sz := 1) (enc := (fun xs : List Int => [AV.im 1 (xs.map (fun n : Int => [AV.v (.int .i64 n)]))])) (Q := (RowQ 8 WfI)) (by kernel_rfl) raw41))
theorem raw22 : OpA Tryd.prog 22 1 (fun xs : List (Int × (List Int)) => [AV.im 2 (xs.map en48)]) (RowQ 32 qu48) := opa_slice (enc := en48) (Q := qu48) Tryd.underlying22 (by kernel_rfl) (by kernel_rfl) (by decide) raw48
def en24 : (Int × (Int × (List (Int × (List Int))))) → List AV := (fun x : Int × (Int × (List (Int × (List Int)))) => (fun n : Int => [AV.v (.int .i64 n)]) x.1 ++ (fun x : Int × (List (Int × (List Int))) => (fun n : Int => [AV.v (.int .i64 n)]) x.1 ++ (fun xs : List (Int × (List Int)) => [AV.im 2 (xs.map en48)]) x.2) x.2)
def qu24 : (Int × (Int × (List (Int × (List Int))))) → Prop := (fun x : Int × (Int × (List (Int × (List Int)))) => WfI x.1 ∧ (fun x : Int × (List (Int × (List Int))) => WfI x.1 ∧ (RowQ 32 qu48) x.2) x.2)
theorem raw24 : OpA Tryd.prog 24 3 en24 qu24 := opa_struct (sz := 3) (enc := (fun x : Int × (Int × (List (Int × (List Int)))) => (fun n : Int => [AV.v (.int .i64 n)]) x.1 ++ (fun x : Int × (List (Int × (List Int))) => (fun n : Int => [AV.v (.int .i64 n)]) x.1 ++ (fun xs : List (Int × (List Int)) => [AV.im 2 (xs.map en48)]) x.2) x.2)) (Q := (fun x : Int × (Int × (List (Int × (List Int)))) => WfI x.1 ∧ (fun x : Int × (List (Int × (List Int))) => WfI x.1 ∧ (RowQ 32 qu48) x.2) x.2)) Tryd.underlying24 rfl (by kernel_rfl) (opaF_cons (sz := 1) (sz' := 2) (enc := (fun n : Int => [AV.v (.int .i64 n)])) (enc' := (fun x : Int × (List (Int × (List Int))) => (fun n : Int => [AV.v (.int .i64 n)]) x.1 ++ (fun xs : List (Int × (List Int)) => [AV.im 2 (xs.map en48)]) x.2)) (Q := WfI) (Q' := (fun x : Int × (List (Int × (List Int))) => WfI x.1 ∧ (RowQ 32 qu48) x.2)) (by kernel_rfl) raw3 (opaF_cons (sz := 1) (sz' := 1) (enc := (fun n : Int => [AV.v (.int .i64 n)])) (enc' := (fun xs : List (Int × (List Int)) => [AV.im 2 (xs.map en48)])) (Q := WfI) (Q' := (RowQ 32 qu48)) (by kernel_rfl) raw3 (opaF_one (sz := 1) (enc := (fun xs : List (Int × (List Int)) => [AV.im 2 (xs.map en48)])) (Q := (RowQ 32 qu48)) (by kernel_rfl) raw22)))
def en26 : (Int × (Int × Int)) → List AV := (fun x : Int × (Int × Int) => (fun n : Int => [AV.v (.int .i64 n)]) x.1 ++ (fun x : Int × Int => (fun n : Int => [AV.v (.int .i64 n)]) x.1 ++ (fun n : Int => [AV.v (.int .i64 n)]) x.2) x.2)
def qu26 : (Int × (Int × Int)) → Prop := (fun x : Int × (Int × Int) => WfI x.1 ∧ (fun x : Int × Int => WfI x.1 ∧ WfI x.2) x.2)
theorem raw26 : OpA Tryd.prog 26 3 en26 qu26 := opa_struct (sz := 3) (enc := (fun x : Int × (Int × Int) => (fun n : Int => [AV.v (.int .i64 n)]) x.1 ++ (fun x : Int × Int => (fun n : Int => [AV.v (.int .i64 n)]) x.1 ++ (fun n : Int => [AV.v (.int .i64 n)]) x.2) x.2)) (Q := (fun x : Int × (Int × Int) => WfI x.1 ∧ (fun x : Int × Int => WfI x.1 ∧ WfI x.2) x.2)) Tryd.underlying26 rfl (by kernel_rfl) (opaF_cons (sz := 1) (sz' := 2) (enc := (fun n : Int => [AV.v (.int .i64 n)])) (enc' := (fun x : Int × Int => (fun n : Int => [AV.v (.int .i64 n)]) x.1 ++ (fun n : Int => [AV.v (.int .i64 n)]) x.2)) (Q := WfI) (Q' := (fun x : Int × Int => WfI x.1 ∧ WfI x.2)) (by kernel_rfl) raw3 (opaF_cons (sz := 1) (sz' := 1) (enc := (fun n : Int => [AV.v (.int .i64 n)])) (enc' := (fun n : Int => [AV.v (.int .i64 n)])) (Q := WfI) (Q' := WfI) (by kernel_rfl) raw3 (opaF_one (sz := 1) (enc := (fun n : Int => [AV.v (.int .i64 n)])) (Q := WfI) (by kernel_rfl) raw3)))
set_option maxRecDepth 100000 in
theorem lifted (os : Os) (started : os.Started) (H : Type) (enc : TypeId × Value → H) :
    ReturnsInHanded {} Tryd.checked os 3 .any (fun w args => (Rows.fnExactItemTextSpec.pre enc Tryd.prog Tryd.f3 Rows.fnExactItemTextRow.domain false w args ∧ laidMetH Tryd.prog Rows.fnExactItemTextRow.laid w) ∧ sizedMet enc Tryd.prog Tryd.f3 (OpenSpec.ofChange Rows.fnExactItemTextSpec) false w args) (Rows.fnExactItemTextSpec.post enc Tryd.prog Tryd.f3 false true false false) := by
  refine returnsInHanded_of_change_and (C := Tryd.checked) (X := fun w _ => laidMetH Tryd.prog Rows.fnExactItemTextRow.laid w) (fun _ _ _ hh h => h.of_heap hh) own started (by kernel_rfl) Tryd.func3
    (ChangeSpec.witness_shaped (enc := enc) (C := Tryd.checked) (os := os) (X := fun w _ => laidMetH Tryd.prog Rows.fnExactItemTextRow.laid w) false (World.laidAll Tryd.prog os Rows.fnExactItemTextRow.laid) #[.agg #[.int .i64 0, .int .i64 0, .slice none 0 0], .agg #[.int .i64 0, .int .i64 0, .int .i64 0]] 8 (World.laidAll_os _ _ _)
      (World.shaped_of_ZipB (by kernel_rfl) (by kernel_rfl)) (by kernel_rfl) (by kernel_rfl) (by kernel_rfl)
      (by rw [MakeChecks.laidMetH_plain _ _ _ (by kernel_rfl)]; exact laidMet_laidAll _ (by kernel_rfl) (by kernel_rfl))) ?_
  intro W base args ds gs before hval0 hW hcnd hsz0 _ _
  have hsz : (DataW.weightsEach Tryd.prog (Tryd.f3.params.toList ++ Rows.fnExactItemTextSpec.plain.varTypes Tryd.prog) (ds ++ gs)).all (· ≤ reachBytes) = true := hsz0
  have hval : ∀ (j : Nat) t v, Tryd.f3.params[j]? = some t → args[j]? = some v → Value.okWide Tryd.prog W .any base t v := hval0
  have hW' := hW
  obtain ⟨p, q, hA0, hV, rfl, hfz, hnd⟩ := hW
  have hA : DataW.TrodAll enc Tryd.prog W 0 (fun _ => true) true Tryd.f3.params.toList args.toList ds p := hA0
  rw [Tryd.params3] at hA hval hsz
  obtain ⟨v0, vs0, d0, ds0, p0, q0, hargs, rfl, rfl, h0, r0⟩ := trodAll_cons hA
  obtain ⟨v1, vs1, d1, ds1, p1, q1, rfl, rfl, rfl, h1, r1⟩ := trodAll_cons r0
  obtain ⟨rfl, rfl, rfl⟩ := trodAll_nil r1
  obtain rfl : args = #[v0, v1] := by cases args; simp_all
  obtain ⟨rfl, rfl⟩ := trodVars_none hV
  have k0 := h0
  have lt0 : ∀ x ∈ p0, x.block < W.heap.size := by obtain ⟨m, hm⟩ := k0; exact DataW.trod_lt m _ _ _ hm
  have ww0 := weights_arg hsz (j := 0) (t := 24) rfl rfl
  obtain ⟨a0, hr0, Q0⟩ := opened_struct raw24 Tryd.underlying24 (hval 0 24 v0 rfl rfl) h0 ww0
  have k1 := h1
  have lt1 : ∀ x ∈ p1, x.block < W.heap.size := by obtain ⟨m, hm⟩ := k1; exact DataW.trod_lt m _ _ _ hm
  have ww1 := weights_arg hsz (j := 1) (t := 26) rfl rfl
  obtain ⟨a1, hr1, Q1⟩ := opened_struct raw26 Tryd.underlying26 (hval 1 26 v1 rfl rfl) h1 ww1
  clear hA0 hval0 hsz0 hsz
  obtain ⟨_, _, q1, q2⟩ := Q0
  have hc := pure_calls (lawItem a0 a1 (by omega) (fun e he => by have := (q2 e he).2.1; omega)) W [v0, v1] rfl (by
    intro i x u hx hu
    match i, hx, hu with
    | 0, hx, hu => cases hx; cases hu; exact hr0
    | 1, hx, hu => cases hx; cases hu; exact hr1
    | n + 2, hx, hu => cases hx)
  refine hc.mono fun e W' ⟨he, bel⟩ => ?_
  subst he
  exact ⟨_, rfl, _, _, _, [], _, [], hW', trodAll_mk1 (shut_bool Tryd.underlying4 _), (trodAll_cons_mk (Below.trod laidOut (by kernel_rfl) (of_decide_eq_true (by kernel_rfl)) k0 bel lt0) (trodAll_cons_mk (Below.trod laidOut (by kernel_rfl) (of_decide_eq_true (by kernel_rfl)) k1 bel lt1) trodAll_mk0)), rfl, bel.frame _, fun h => by cases h⟩
theorem over : Rows.fnExactItemTextRow.holds Tryd.pinned (OpenSpec.ofChange Rows.fnExactItemTextSpec) :=
  OpenClaim.holds_of_wide 3 Tryd.f3 rfl rfl rfl rfl rfl rfl rfl ⟨rfl, rfl, rfl, rfl, rfl⟩ rfl rfl rfl rfl rfl (by kernel_rfl) Tryd.func3 (by kernel_rfl)
    (of_decide_eq_true (by kernel_rfl)) (by unfold Func.isWrapper; first | (rw [if_pos (by decide +kernel)]; kernel_rfl) | (rw [if_neg (by decide +kernel)]; exact ⟨rfl, rfl⟩))
    (fun os started H enc _ => lifted os started H enc)
theorem proved : Rows.FnExactItemTextSaid := over
#print axioms proved
/-- The tied card. -/
theorem card : Rows.FnExactItemTextCardSaid :=
  Claim7.holds_tied_plain_at .later [] [.data, .data, .data] true (true, "a6836f2baf37aaead35b1d949d7e7ba8f5e738bad81ba4c1a6aa8593b084dd70") false
    over (fun _ h => by cases h) (by kernel_rfl) (fun _ h => by cases h) fnExactItemText_row_tie rfl ⟨rfl, rfl⟩ (by kernel_rfl) rfl
    (fun f fn hf hfn => by
      obtain rfl : f = 3 := Option.some.inj ((show Tryd.prog.funcNamed Rows.fnExactItemTextRow.func = some 3 by kernel_rfl).symm.trans hf) |>.symm
      obtain rfl : fn = Tryd.f3 := (Option.some.inj (Tryd.func3.symm.trans hfn)).symm
      exact ⟨by kernel_rfl, fun j t ht => by
        rw [Tryd.params3] at ht
        rcases j with _ | j
        · have h3 : t = 24 := by simpa using ht.symm
          subst h3
          exact (show Tryd.prog.wantsStandIn 24 = false by kernel_rfl)
        rcases j with _ | j
        · have h3 : t = 26 := by simpa using ht.symm
          subst h3
          exact (show Tryd.prog.wantsStandIn 26 = false by kernel_rfl)
        simp at ht⟩)
    (by kernel_rfl)
#print axioms card
end Go.Proofs.YtkolhcoeifghpaaDoor.fnExactItemText
namespace Go.Proofs.YtkolhcoeifghpaaDoor
/-- The row, under a short name, for the claim. -/
theorem fnExactItemText_holds : Rows.FnExactItemTextCardSaid := fnExactItemText.card
end Go.Proofs.YtkolhcoeifghpaaDoor
