/- Own words: structs of numbers, compared. -/
import Derived.Test.YtaiefncpgkoniaaEn12
namespace Go.Proofs.Ytaiefncpgkoniaa.En
open Go.RowKit
set_option linter.unusedSimpArgs false
set_option linter.unusedVariables false
def nums (xs : List Int) : Array Value := (xs.map (Value.int .i64)).toArray
structure EqT (P : Program) (t : TypeId) (n : Nat) : Prop where
  made ::
  g : P.eqGuardType P.depth t = false
  e : ∀ (xs ys : List Int) (w : World), xs.length = n → ys.length = n → (Op.equalIn 10000 t (.agg (nums xs)) (.agg (nums ys))).run P w = .ok (decide (xs = ys)) w
theorem part_num {P : Program} {w : World} {t : TypeId} {xs : List Int} {k : Nat} {n : Int} (hu : P.underlying t = some (.int .i64)) (hx : xs[k]? = some n) : (part t (nums xs) k).run P w = .ok (.int .i64 n) w := by
  have hlt : k < xs.length := (List.getElem?_eq_some_iff.1 hx).1
  have e : (nums xs)[k]? = some (.int .i64 n) := by simp [nums, hx]
  unfold part isAgg
  simp [run_underlying hu, e]
theorem eqFields_nums {P : Program} {d : Nat} {xs ys : List Int} : ∀ (fs : List Field) (k : Nat) (w : World), (∀ f ∈ fs, (f.name != "_") = true ∧ P.underlying f.type = some (.int .i64)) → (∀ (i : Nat) (f : Field), fs[i]? = some f → f.offset = k + i) → xs.length = k + fs.length → ys.length = k + fs.length →
    (Op.eqFields (d + 1) (nums xs) (nums ys) fs).run P w = .ok (decide (xs.drop k = ys.drop k)) w
  | [], k, w, _, _, hx, hy => by
    have e1 : xs.drop k = [] := List.drop_eq_nil_of_le (by simp at hx; omega)
    have e2 : ys.drop k = [] := List.drop_eq_nil_of_le (by simp at hy; omega)
    simp [Op.eqFields, e1, e2]
  | f :: fs, k, w, hf, ho, hx, hy => by
    obtain ⟨h1, h2⟩ := hf f (.head _)
    have h1 : f.name ≠ "_" := by simpa using h1
    have h0 : f.offset = k := by simpa using ho 0 f rfl
    simp only [List.length_cons] at hx hy
    have hkx : k < xs.length := by omega
    have hky : k < ys.length := by omega
    have px := part_num (P := P) (w := w) h2 (List.getElem?_eq_getElem hkx)
    have py := part_num (P := P) (w := w) h2 (List.getElem?_eq_getElem hky)
    have ih := eqFields_nums (P := P) (d := d) (xs := xs) (ys := ys) fs (k + 1) w (fun g hg => hf g (.tail _ hg)) (fun i g hg => by have := ho (i + 1) g (by simpa using hg); omega) (by omega) (by omega)
    have ex := List.drop_eq_getElem_cons hkx
    have ey := List.drop_eq_getElem_cons hky
    by_cases he : xs[k] = ys[k]
    · simp [Op.eqFields, h1, h0, px, py, run_equalIn_int w d f.type .i64 .i64 _ _ h2, he, ih]
      rw [ex, ey, he]
      exact ⟨fun h => by rw [h], fun h => (List.cons.inj h).2⟩
    · simp [Op.eqFields, h1, h0, px, py, run_equalIn_int w d f.type .i64 .i64 _ _ h2, he]
      rw [ex, ey]
      exact fun h => he (List.cons.inj h).1
theorem EqT.mk' {P : Program} {t : TypeId} {n : Nat} {fs : List Field} (hg : P.eqGuardType P.depth t = false) (hu : P.underlying t = some (.struct (P.fieldsOf t))) (hp : P.stoodInHeld t = false) (hfs : (P.fieldsOf t).toList = fs) (hn : fs.length = n)
    (hf : ∀ f ∈ fs, (f.name != "_") = true ∧ P.underlying f.type = some (.int .i64)) (ho : ∀ (i : Nat) (f : Field), fs[i]? = some f → f.offset = i) : EqT P t n := by
  refine .made hg fun xs ys w hx hy => ?_
  rw [show (10000 : Nat) = 9999 + 1 from rfl, run_equalIn_agg w 9999 t _ _ hu hp, hfs, show (9999 : Nat) = 9998 + 1 from rfl, eqFields_nums fs 0 w hf (fun i f h => by rw [ho i f h]; omega) (by omega) (by omega)]
  simp
def isI64 (P : Program) (t : TypeId) : Bool := match P.underlying t with | some (.int .i64) => true | _ => false
theorem EqT.mk {P : Program} {t : TypeId} {n : Nat} (hg : P.eqGuardType P.depth t = false) (hu : P.underlying t = some (.struct (P.fieldsOf t))) (hp : P.stoodInHeld t = false)
    (hf : ((P.fieldsOf t).toList.all fun f => f.name != "_" && isI64 P f.type) = true) (ho : (P.fieldsOf t).toList.map (·.offset) = List.range n) : EqT P t n := by
  have hn : (P.fieldsOf t).toList.length = n := by have := congrArg List.length ho; simpa using this
  refine EqT.mk' hg hu hp rfl hn (fun f h => ?_) (fun i f h => ?_)
  · rw [List.all_eq_true] at hf
    have := hf f h
    simp only [Bool.and_eq_true] at this
    refine ⟨this.1, ?_⟩
    have h2 := this.2
    unfold isI64 at h2
    split at h2
    · assumption
    · cases h2
  · have h2 : ((P.fieldsOf t).toList.map (·.offset))[i]? = some f.offset := by rw [List.getElem?_map, h]; rfl
    rw [ho] at h2
    have := List.getElem?_eq_some_iff.1 h2
    obtain ⟨_, e⟩ := this
    simpa using e.symm
end Go.Proofs.Ytaiefncpgkoniaa.En
