/- Own words and walks of this claim, part 5: what the program's functions compute, for all the arguments that are named; no further conditions. -/
import Derived.Test.YtenienncgjanpaaM2
import Derived.Test.YtenienncgjanpaaM4
import Derived.Test.YtenienncgjanpaaM3
section
namespace Go.Proofs.Ytenienncgjanpaa.En
open Go.RowKit
set_option linter.unusedSimpArgs false
set_option linter.unusedVariables false
set_option maxHeartbeats 4000000
theorem ofG (g : GrammarT) (F W : Int × Int → Bool) (right : List Int) (hl : right.length ≤ 4) (h1 : ∀ x ∈ right, x ≤ 5) (h0 : ∀ x ∈ right, -4 ≤ x) :
    Pure Try.prog 44 [.pi (boxH (headH (madeS g true) (madeS g false) F W)), .im 1 (ints right)] (.tu [.ag (cellsT fun t => okM true (madeS g true) right && begT (madeS g false) F right t), .v (.bool (nullS g right))]) := by
  have h := ofH (madeS g true) (madeS g false) F W right hl h1 h0
  have e : (okM true (madeS g true) right && okM false (madeS g false) right) = nullS g right := by
    cases hn : nullS g right with
    | false => rw [nullS] at hn; rw [hn, Bool.and_false]
    | true =>
      have h3 := nullS_made hn
      rw [nullS] at hn
      rw [h3, hn]; rfl
  rwa [e] at h
theorem boxH_none (M N : Int → Bool) : boxH (headH M N (fun _ => false) (fun _ => false)) = cellsN M ++ cellsN N ++ List.replicate 54 (.v (.bool false)) := rfl
theorem filt_ext {ε : Type} {S T : ε → Bool} {U : List ε} (h : ∀ x ∈ U, S x = T x) : U.filter S = U.filter T := List.filter_congr h
theorem heads_neF {L K : List (Imp (Int × Int))} {F0 F W M N} {more : Bool} (h : ClI L univP F0 F more K) : (!decide (boolsH (headH M N F W) = boolsH (headH M N F0 W))) = more := by
  cases more with
  | false => rw [(h.no rfl).1]; simp
  | true =>
    rw [Bool.not_eq_true', decide_eq_false_iff_not]
    intro e
    have hlt := h.yes rfl
    rw [filt_ext (S := F0) (T := F) fun p hp => ?_] at hlt
    · exact absurd hlt (Nat.lt_irrefl _)
    · obtain ⟨⟨h1, h2⟩, h3, h4⟩ := mem_univP.1 hp
      obtain ⟨a, b⟩ := p
      dsimp only at h1 h2 h3 h4
      obtain ⟨n, rfl⟩ : ∃ n : Nat, a = (n : Int) := ⟨a.toNat, by omega⟩
      obtain ⟨t, rfl⟩ : ∃ t : Nat, b = (t : Int) := ⟨b.toNat, by omega⟩
      have := boolsH_inj e (i := 12 + n * 4 + t) (by omega)
      rw [headH_F _ _ _ _ (by omega) (by omega), headH_F _ _ _ _ (by omega) (by omega)] at this
      exact this.symm
theorem heads_neW {L K : List (Imp (Int × Int))} {F W0 W M N} {more : Bool} (h : ClI L univQ W0 W more K) : (!decide (boolsH (headH M N F W) = boolsH (headH M N F W0))) = more := by
  cases more with
  | false => rw [(h.no rfl).1]; simp
  | true =>
    rw [Bool.not_eq_true', decide_eq_false_iff_not]
    intro e
    have hlt := h.yes rfl
    rw [filt_ext (S := W0) (T := W) fun p hp => ?_] at hlt
    · exact absurd hlt (Nat.lt_irrefl _)
    · obtain ⟨⟨h1, h2⟩, h3, h4⟩ := mem_univQ.1 hp
      obtain ⟨a, b⟩ := p
      dsimp only at h1 h2 h3 h4
      obtain ⟨n, rfl⟩ : ∃ n : Nat, a = (n : Int) := ⟨a.toNat, by omega⟩
      by_cases hb : b = -1
      · subst hb
        have := boolsH_inj e (i := 60 + n) (by omega)
        rw [headH_L _ _ _ _ (by omega), headH_L _ _ _ _ (by omega)] at this
        exact this.symm
      · obtain ⟨t, rfl⟩ : ∃ t : Nat, b = (t : Int) := ⟨b.toNat, by omega⟩
        have := boolsH_inj e (i := 36 + n * 4 + t) (by omega)
        rw [headH_W _ _ _ _ (by omega) (by omega), headH_W _ _ _ _ (by omega) (by omega)] at this
        exact this.symm
theorem ClI.upd {L M : List (Imp (Int × Int))} {U : List (Int × Int)} {S0 S : Int × Int → Bool} {more : Bool} (h : ClI L U S0 S more M) {p : Imp (Int × Int)} (hp : p ∈ L) (hm : MonI p) (hU : p.2 ∈ U) :
    (∃ more, ClI L U S0 (updP S p.2 (S p.2 || p.1 S)) more M) ∧ (∀ q, S q = true → updP S p.2 (S p.2 || p.1 S) q = true) ∧ (p.1 S = true → updP S p.2 (S p.2 || p.1 S) p.2 = true) := by
  cases hS : S p.2 with
  | true =>
    rw [Bool.true_or, updP_self S hS]
    exact ⟨⟨more, h⟩, fun _ g => g, fun _ => hS⟩
  | false =>
    rw [Bool.false_or]
    cases h1 : p.1 S with
    | false =>
      rw [updP_self S hS]
      exact ⟨⟨more, h⟩, fun _ g => g, fun e => by cases e⟩
    | true =>
      rw [updP_true]
      exact ⟨⟨true, h.add hp hm h1 hS hU M⟩, fun q hq => insI_le _ _ _ hq, fun _ => insI_self _ _⟩
theorem headsG (g : GrammarT) (hG : OkG g) : Fn Try.prog 43 0 [.ag (grammarC g)] [] (.pb 0 66 0 0) 1 [(0, ⟨78, 66, [boxH (headH (madeS g true) (madeS g false) (firstS g) (followS g))]⟩)] := by
  have hlen := hG.len
  have hn1 := hG.n1
  have cp := productiveG g hG
  have cn := nullableG g hG
  refine Fn.mk (rs := [.tmp 2]) (nt := 182) Try.func43 (by kernel_rfl) rfl rfl rfl (by simp) ?_
  simp only [sl, grammarC]
  refine wkdsc (@grammarC.eq_1) _ ?_
  refine Holds.anx [1004, 1005] [] (fun n => decide (1 ≤ n)) mixed ?_ ?_ ?_; (· kernel_rfl); (· kernel_rfl)
  refine wkdac (@grammarC.eq_1) _ ?_
  first | refine GS.cc (cp) rfl rfl rfl rfl (by simp [go_sem, List.take_of_length_le, grammarC] <;> with_reducible rfl) rfl (by simp [go_sem, List.take_of_length_le, grammarC]) ?_ | refine Gd.cc (cp) rfl rfl rfl rfl (by simp [go_sem, List.take_of_length_le, grammarC] <;> with_reducible rfl) rfl (by simp [go_sem, List.take_of_length_le, grammarC]) ?_ | refine Gx.cc (cp) rfl rfl rfl rfl rfl (by simp [go_sem, List.take_of_length_le, grammarC] <;> with_reducible rfl) rfl (by simp [go_sem, List.take_of_length_le, grammarC]) ?_ | refine Gx.cch (cp) rfl rfl rfl rfl rfl (by simp [go_sem, List.take_of_length_le, grammarC] <;> with_reducible rfl) rfl (by simp [go_sem, List.take_of_length_le, grammarC]) ?_
  refine wkdac (@grammarC.eq_1) _ ?_
  first | refine GS.cc (cn) rfl rfl rfl rfl (by simp [go_sem, List.take_of_length_le, grammarC] <;> with_reducible rfl) rfl (by simp [go_sem, List.take_of_length_le, grammarC]) ?_ | refine Gd.cc (cn) rfl rfl rfl rfl (by simp [go_sem, List.take_of_length_le, grammarC] <;> with_reducible rfl) rfl (by simp [go_sem, List.take_of_length_le, grammarC]) ?_ | refine Gx.cc (cn) rfl rfl rfl rfl rfl (by simp [go_sem, List.take_of_length_le, grammarC] <;> with_reducible rfl) rfl (by simp [go_sem, List.take_of_length_le, grammarC]) ?_ | refine Gx.cch (cn) rfl rfl rfl rfl rfl (by simp [go_sem, List.take_of_length_le, grammarC] <;> with_reducible rfl) rfl (by simp [go_sem, List.take_of_length_le, grammarC]) ?_
  refine wkdac (And.intro @grammarC.eq_1 (@cellsN.eq_1)) _ ?_
  refine Holds.loop (ι := (Int × Int → Bool) × Bool) (fun i => ⟨[(1, .pb 0 3 0 0), (3, .pb 1 66 0 0), (4, .v (.bool i.2))], [(1, ⟨78, 66, [boxH (headH (madeS g true) (madeS g false) i.1 (fun _ => false))]⟩), (0, ⟨31, 3, [grammarC g]⟩)], 2⟩)
    (fun i => LowI (impsB g g.2.2) i.1 ∧ (i.2 = false → i.1 = firstS g)) (fun i => 2 * (24 - (univP.filter i.1).length) + if i.2 then 1 else 0) (fun _ => false, true) ⟨fun T hT x hx => absurd hx (by simp), fun e => (by cases e)⟩ ?_ ?_
  · rw [boxH_none]
    exact Cov.ofn (id) rfl (by simp [go_sem, List.take_of_length_le, ren, ren1, ren2, okr, okr1, okr2, ChkT, ChkN, BlkN, nf, grammarC, cellsN]) (by simp [go_sem, List.take_of_length_le, ren, ren1, ren2, okr, okr1, okr2, ChkT, ChkN, BlkN, nf, grammarC, cellsN])
  rintro ⟨F0, more0⟩ ⟨hlow0, hfin⟩
  dsimp only at hlow0 hfin ⊢
  refine wkdac0 _ ?_
  refine Holds.cond rfl (fun h => ?_) (fun h => ?_)
  · subst h
    have hc0 := card_leP F0
    refine wkdac (@grammarC.eq_1) _ ?_
    refine GS.stA (s' := ?_) rfl rfl rfl rfl rfl ti78 rfl rfl rfl (by simp) rfl rfl (by simp) (by simp) ?_ ?_
    rotate_left
    · simp only [st]
      with_reducible rfl
    refine wkdac (@grammarC.eq_1) _ ?_
    refine Holds.loop (ι := Nat × (Int × Int → Bool)) (fun i => ⟨[(1, .pb 0 3 0 0), (3, .pb 1 66 0 0), (4, .v (.bool true)), (5, .pb 2 66 0 0), (33, .im 2 (rules g.2.2)), (34, .v (.int .i64 g.2.2.length)), (35, .v (.int .i64 i.1))], [(2, ⟨78, 66, [boxH (headH (madeS g true) (madeS g false) F0 (fun _ => false))]⟩), (1, ⟨78, 66, [boxH (headH (madeS g true) (madeS g false) i.2 (fun _ => false))]⟩), (0, ⟨31, 3, [grammarC g]⟩)], 3⟩)
      (fun i => i.1 ≤ g.2.2.length ∧ ∃ more, ClI (impsB g g.2.2) univP F0 i.2 more (impsB g (g.2.2.take i.1))) (fun i => g.2.2.length - i.1) (0, F0) ⟨Nat.zero_le _, false, ClI.start _ hlow0⟩ ?_ ?_
    · exact Cov.ofn (id) rfl (by simp [go_sem, List.take_of_length_le, ren, ren1, ren2, okr, okr1, okr2, ChkT, ChkN, BlkN, nf, grammarC]) (by simp [go_sem, List.take_of_length_le, ren, ren1, ren2, okr, okr1, okr2, ChkT, ChkN, BlkN, nf, grammarC])
    rintro ⟨k, F⟩ ⟨hk, more, hC⟩
    dsimp only at hk hC ⊢
    have stepk : wr64 ((k : Int) + 1) = ((k + 1 : Nat) : Int) := wr64_id (by omega) (by omega)
    refine wkdac0 _ ?_
    refine Holds.cond rfl (fun h => ?_) (fun h => ?_)
    · have hlt : k < g.2.2.length := by simp at h; omega
      have hrk : g.2.2[k]? = some g.2.2[k] := List.getElem?_eq_getElem hlt
      have hmem := List.getElem_mem hlt
      generalize g.2.2[k] = r at hrk hmem
      have hr0 := hG.l0 r hmem
      have hr1 := hG.l1 r hmem
      have hr4 := hG.r4 r hmem
      have hs0 := hG.s0 r hmem
      have hs1 := hG.s1 r hmem
      have ht1 := hG.t1
      obtain ⟨n, hn⟩ : ∃ n : Nat, r.1 = (n : Int) := ⟨r.1.toNat, by omega⟩
      have hn6 : n < 6 := by omega
      have cof := ofG g F (fun _ => false) r.2 hr4 (fun x hx => by have := hs1 x hx; omega) (fun x hx => by have := hs0 x hx; omega)
      obtain ⟨S, hS⟩ : ∃ S, S = fun t => okM true (madeS g true) r.2 && begT (madeS g false) F r.2 t := ⟨_, rfl⟩
      rw [← hS] at cof
      refine wkdac (And.intro (@get_E _ _ _ _ hrk) (And.intro @hrk (And.intro @hlt (@ruleC.eq_1)))) _ ?_
      first | refine GS.cd (cof) rfl rfl rfl rfl (by simp [go_sem, List.take_of_length_le] <;> with_reducible rfl) rfl (by exact .cons (Fz.box rfl rfl rfl (boxH_clA _)) (.cons (.im _ _) .nil)) rfl ?_ | refine Gd.cd (cof) rfl rfl rfl rfl (by simp [go_sem, List.take_of_length_le] <;> with_reducible rfl) rfl (by exact .cons (Fz.box rfl rfl rfl (boxH_clA _)) (.cons (.im _ _) .nil)) rfl ?_ | refine Gx.cd (cof) rfl rfl rfl rfl rfl (by simp [go_sem, List.take_of_length_le] <;> with_reducible rfl) rfl (by exact .cons (Fz.box rfl rfl rfl (boxH_clA _)) (.cons (.im _ _) .nil)) rfl ?_
      refine wkdac (@cellsT.eq_1) _ ?_
      refine Holds.loop (ι := Nat × (Int × Int → Bool)) (fun i => ⟨[(1, .pb 0 3 0 0), (3, .pb 1 66 0 0), (4, .v (.bool true)), (5, .pb 2 66 0 0), (7, .pb 3 2 0 0), (33, .im 2 (rules g.2.2)), (34, .v (.int .i64 g.2.2.length)), (35, .v (.int .i64 k)), (46, .ag (cellsT S)), (47, .v (.int .i64 i.1))], [(3, ⟨87, 2, [ruleC r]⟩), (2, ⟨78, 66, [boxH (headH (madeS g true) (madeS g false) F0 (fun _ => false))]⟩), (1, ⟨78, 66, [boxH (headH (madeS g true) (madeS g false) i.2 (fun _ => false))]⟩), (0, ⟨31, 3, [grammarC g]⟩)], 4⟩)
        (fun i => i.1 ≤ 4 ∧ (∃ more, ClI (impsB g g.2.2) univP F0 i.2 more (impsB g (g.2.2.take k))) ∧ (∀ p, F p = true → i.2 p = true) ∧ ∀ t : Nat, t < i.1 → S t = true → i.2 (r.1, t) = true) (fun i => 4 - i.1) (0, F) ⟨Nat.zero_le _, ⟨more, hC⟩, fun _ h => h, fun t ht => absurd ht (Nat.not_lt_zero _)⟩ ?_ ?_
      · exact Cov.ofn (id) rfl (by simp [go_sem, List.take_of_length_le, ren, ren1, ren2, okr, okr1, okr2, ChkT, ChkN, BlkN, nf, grammarC, ruleC, cellsT]) (by simp [go_sem, List.take_of_length_le, ren, ren1, ren2, okr, okr1, okr2, ChkT, ChkN, BlkN, nf, grammarC, ruleC, cellsT])
      have hle0 := hC.le
      clear hC
      rintro ⟨i, F1⟩ ⟨hi, ⟨more, hC⟩, hle, hset⟩
      dsimp only at hi hC hle hset ⊢
      have stepi : wr64 ((i : Int) + 1) = ((i + 1 : Nat) : Int) := wr64_id (by omega) (by omega)
      refine wkdac0 _ ?_
      refine Holds.cond rfl (fun h => ?_) (fun h => ?_)
      · have hi4 : i < 4 := by simp at h; omega
        have hi3 : i ≤ 3 := by omega
        have hbd : 12 + n * 4 + i ≤ 65 := by omega
        have hSi := cellsT_at S hi4
        have hget := boxH_at (headH (madeS g true) (madeS g false) F1 (fun _ => false)) (i := 12 + n * 4 + i) (by omega)
        rw [headH_F _ _ _ _ hn6 hi4] at hget
        have hput := headH_setF (madeS g true) (madeS g false) F1 (fun _ => false) hn6 hi4 (F1 ((n : Int), (i : Int)) || S i)
        have hnew : (∃ more, ClI (impsB g g.2.2) univP F0 (updP F1 ((n : Int), (i : Int)) (F1 ((n : Int), (i : Int)) || S i)) more (impsB g (g.2.2.take k))) ∧ (∀ p, F p = true → updP F1 ((n : Int), (i : Int)) (F1 ((n : Int), (i : Int)) || S i) p = true) ∧ ∀ t : Nat, t < i + 1 → S t = true → updP F1 ((n : Int), (i : Int)) (F1 ((n : Int), (i : Int)) || S i) (r.1, t) = true := by
          have last : ∀ F2 : Int × Int → Bool, (∀ p, F1 p = true → F2 p = true) → (S i = true → F2 ((n : Int), (i : Int)) = true) → ∀ t : Nat, t < i + 1 → S t = true → F2 (r.1, t) = true := fun F2 h2 h3 t ht hs => by
            by_cases e : t = i
            · subst e; rw [hn]; exact h3 hs
            · exact h2 _ (hset t (by omega) hs)
          cases hF : F1 ((n : Int), (i : Int)) with
          | true =>
            rw [Bool.true_or, updP_self F1 hF]
            exact ⟨⟨more, hC⟩, hle, last F1 (fun _ h => h) fun _ => hF⟩
          | false =>
            rw [Bool.false_or]
            cases hs : S (i : Int) with
            | false =>
              rw [updP_self F1 hF]
              exact ⟨⟨more, hC⟩, hle, last F1 (fun _ h => h) fun e => by rw [hs] at e; cases e⟩
            | true =>
              rw [updP_true]
              have hp := impB_mem (g := g) hmem (t := (i : Int)) (by omega)
              have hpr : (impB g r (i : Int)).1 F1 = true := impB_mono g r _ F F1 hle (by have := hs; rw [hS] at this; exact this)
              have hc2 : (impB g r (i : Int)).2 = ((n : Int), (i : Int)) := by rw [← hn]; rfl
              have := hC.add hp (impB_mono g r _) hpr (by rw [hc2]; exact hF) (by rw [hc2]; exact mem_univP.2 ⟨⟨by dsimp only; omega, by dsimp only; omega⟩, ⟨by dsimp only; omega, by dsimp only; omega⟩⟩) (impsB g (g.2.2.take k))
              rw [hc2] at this
              exact ⟨⟨true, this⟩, fun p hp => insI_le _ _ _ (hle p hp), last _ (fun p hp => insI_le _ _ _ hp) fun _ => insI_self _ _⟩
        obtain ⟨F2, hF2⟩ : ∃ F2, F2 = updP F1 ((n : Int), (i : Int)) (F1 ((n : Int), (i : Int)) || S i) := ⟨_, rfl⟩
        rw [← hF2] at hnew hput
        clear hF2
        generalize F1 ((n : Int), (i : Int)) = b1 at hget hput
        cases b1 with
        | true =>
          rw [Bool.true_or] at hput
          refine wkdasc (And.intro @hi4 (And.intro @hi3 (And.intro (@get_E _ _ _ _ hSi) (And.intro @hSi (@ruleC.eq_1))))) _ ?_
          refine Holds.anx [1020] [] (fun n => decide (n = 1)) mixed ?_ ?_ ?_; (· kernel_rfl); (· kernel_rfl)
          refine wkdac (And.intro @hi4 (And.intro @hi3 (And.intro @hn6 (And.intro @hn (And.intro (@get_E _ _ _ _ hget) (And.intro @hget (And.intro @hput (And.intro @hbd (@ruleC.eq_1))))))))) _ ?_
          refine ⟨(i + 1, F2), ⟨by dsimp only; omega, hnew⟩, by dsimp only; omega, ?_⟩
          rw [stepi]
          exact Cov.ofn (id) rfl (by simp [go_sem, List.take_of_length_le, ren, ren1, ren2, okr, okr1, okr2, ChkT, ChkN, BlkN, nf, grammarC, ruleC, cellsT, hn]) (by simp [go_sem, List.take_of_length_le, ren, ren1, ren2, okr, okr1, okr2, ChkT, ChkN, BlkN, nf, grammarC, ruleC, cellsT, hn])
        | false =>
          rw [Bool.false_or] at hput
          refine wkdasc (And.intro @hi4 (And.intro @hi3 (And.intro (@get_E _ _ _ _ hSi) (And.intro @hSi (@ruleC.eq_1))))) _ ?_
          refine Holds.anx [1020] [] (fun n => decide (n = 1)) mixed ?_ ?_ ?_; (· kernel_rfl); (· kernel_rfl)
          refine wkdac (And.intro @hi4 (And.intro @hi3 (And.intro @hn6 (And.intro @hn (And.intro (@get_E _ _ _ _ hget) (And.intro @hget (And.intro @hput (And.intro @hbd (@ruleC.eq_1))))))))) _ ?_
          refine ⟨(i + 1, F2), ⟨by dsimp only; omega, hnew⟩, by dsimp only; omega, ?_⟩
          rw [stepi]
          exact Cov.ofn (id) rfl (by simp [go_sem, List.take_of_length_le, ren, ren1, ren2, okr, okr1, okr2, ChkT, ChkN, BlkN, nf, grammarC, ruleC, cellsT, hn]) (by simp [go_sem, List.take_of_length_le, ren, ren1, ren2, okr, okr1, okr2, ChkT, ChkN, BlkN, nf, grammarC, ruleC, cellsT, hn])
      · have hi4 : i = 4 := by simp at h; omega
        subst hi4
        refine wkdac0 _ ?_
        refine ⟨(k + 1, F1), ⟨by dsimp only; omega, more, ?_⟩, by dsimp only; omega, ?_⟩
        · dsimp only
          rw [impsB_snoc g hrk]
          refine hC.ext _ fun e1 e2 p hp h1 => ?_
          obtain ⟨t, ht, rfl⟩ := List.mem_map.1 hp
          have ht := mem_univT.1 ht
          obtain ⟨m, rfl⟩ : ∃ m : Nat, t = (m : Int) := ⟨t.toNat, by omega⟩
          refine hset m (by omega) ?_
          have hFF : F = F1 := by
            funext q
            rw [Bool.eq_iff_iff]
            exact ⟨hle q, fun h => hle0 q (by rw [← e2]; exact h)⟩
          rw [hS, hFF]
          exact h1
        rw [stepk]
        exact Cov.ofn (id) rfl (by simp [go_sem, List.take_of_length_le, ren, ren1, ren2, okr, okr1, okr2, ChkT, ChkN, BlkN, nf, grammarC]) (by simp [go_sem, List.take_of_length_le, ren, ren1, ren2, okr, okr1, okr2, ChkT, ChkN, BlkN, nf, grammarC])
    · have hke : k = g.2.2.length := by simp at h; omega
      subst hke
      rw [List.take_length] at hC
      refine wkdac0 _ ?_
      refine Gd.calm rfl rfl (.neB (xs := boolsH (headH (madeS g true) (madeS g false) F (fun _ => false))) (ys := boolsH (headH (madeS g true) (madeS g false) F0 (fun _ => false))) rfl eqHeads rfl rfl (boolsH_len _) (boolsH_len _) (congrArg (fun b => AV.v (.bool b)) (heads_neF hC).symm)) ?_
      refine wkdac0 _ ?_
      refine ⟨(F, more), ⟨hC.low, fun e => ?_⟩, ?_, ?_⟩
      · dsimp only at e ⊢
        subst e
        exact hC.done
      · dsimp only
        have hc := card_leP F
        cases more with
        | true => have := hC.yes rfl; simp only [if_true]; omega
        | false => rw [(hC.no rfl).1]; simp
      exact Cov.ofn (id) rfl (by simp [go_sem, List.take_of_length_le, ren, ren1, ren2, okr, okr1, okr2, ChkT, ChkN, BlkN, nf, grammarC]) (by simp [go_sem, List.take_of_length_le, ren, ren1, ren2, okr, okr1, okr2, ChkT, ChkN, BlkN, nf, grammarC])
  · have h : more0 = false := by simpa using h
    have := hfin h
    subst this
    clear hfin hlow0
    have hset0 := headH_setL (madeS g true) (madeS g false) (firstS g) (fun _ => false) (n := 0) (by decide) true
    have hup : updP (fun _ => false) (((0 : Nat) : Int), -1) true = fun p : Int × Int => decide (p = (0, -1)) := by
      funext p
      simp [updP]
    rw [hup] at hset0
    refine wkdac (@hset0) _ ?_
    clear hset0 hup
    have hz : LowI (impsW g) (fun p => decide (p = (0, -1))) := low_W g
    refine Holds.loop (ι := (Int × Int → Bool) × Bool) (fun i => ⟨[(1, .pb 0 3 0 0), (3, .pb 1 66 0 0), (12, .v (.bool i.2))], [(1, ⟨78, 66, [boxH (headH (madeS g true) (madeS g false) (firstS g) i.1)]⟩), (0, ⟨31, 3, [grammarC g]⟩)], 2⟩)
      (fun i => i.1 (0, -1) = true ∧ LowI (impsW g) i.1 ∧ (i.2 = false → i.1 = followS g)) (fun i => 2 * (30 - (univQ.filter i.1).length) + if i.2 then 1 else 0) (fun p => decide (p = (0, -1)), true) ⟨rfl, hz, fun e => (by cases e)⟩ ?_ ?_
    · exact Cov.ofn (id) rfl (by simp [go_sem, List.take_of_length_le, ren, ren1, ren2, okr, okr1, okr2, ChkT, ChkN, BlkN, nf, grammarC]) (by simp [go_sem, List.take_of_length_le, ren, ren1, ren2, okr, okr1, okr2, ChkT, ChkN, BlkN, nf, grammarC])
    clear hz
    rintro ⟨W0, more1⟩ ⟨hz0, hlow0, hfin⟩
    dsimp only at hz0 hlow0 hfin ⊢
    refine wkdac0 _ ?_
    refine Holds.cond rfl (fun h => ?_) (fun h => ?_)
    · subst h
      have hc0 := card_leQ W0
      refine wkdac (@grammarC.eq_1) _ ?_
      refine GS.stA (s' := ?_) rfl rfl rfl rfl rfl ti78 rfl rfl rfl (by simp) rfl rfl (by simp) (by simp) ?_ ?_
      rotate_left
      · simp only [st]
        with_reducible rfl
      refine wkdac (@grammarC.eq_1) _ ?_
      refine Holds.loop (ι := Nat × (Int × Int → Bool)) (fun i => ⟨[(1, .pb 0 3 0 0), (3, .pb 1 66 0 0), (12, .v (.bool true)), (13, .pb 2 66 0 0), (87, .im 2 (rules g.2.2)), (88, .v (.int .i64 g.2.2.length)), (89, .v (.int .i64 i.1))], [(2, ⟨78, 66, [boxH (headH (madeS g true) (madeS g false) (firstS g) W0)]⟩), (1, ⟨78, 66, [boxH (headH (madeS g true) (madeS g false) (firstS g) i.2)]⟩), (0, ⟨31, 3, [grammarC g]⟩)], 3⟩)
        (fun i => i.1 ≤ g.2.2.length ∧ ∃ more, ClI (impsW g) univQ W0 i.2 more (impWz :: (g.2.2.take i.1).flatMap (impsWf g))) (fun i => g.2.2.length - i.1) (0, W0) ⟨Nat.zero_le _, false, (ClI.start _ hlow0).ext [impWz] (fun _ _ p hp _ => by rw [List.mem_singleton] at hp; subst hp; exact hz0)⟩ ?_ ?_
      · exact Cov.ofn (id) rfl (by simp [go_sem, List.take_of_length_le, ren, ren1, ren2, okr, okr1, okr2, ChkT, ChkN, BlkN, nf, grammarC]) (by simp [go_sem, List.take_of_length_le, ren, ren1, ren2, okr, okr1, okr2, ChkT, ChkN, BlkN, nf, grammarC])
      rintro ⟨k, W⟩ ⟨hk, more, hC⟩
      dsimp only at hk hC ⊢
      have stepk : wr64 ((k : Int) + 1) = ((k + 1 : Nat) : Int) := wr64_id (by omega) (by omega)
      refine wkdac0 _ ?_
      refine Holds.cond rfl (fun h => ?_) (fun h => ?_)
      · have hlt : k < g.2.2.length := by simp at h; omega
        have hrk : g.2.2[k]? = some g.2.2[k] := List.getElem?_eq_getElem hlt
        have hmem := List.getElem_mem hlt
        generalize g.2.2[k] = r at hrk hmem
        have hr0 := hG.l0 r hmem
        have hr1 := hG.l1 r hmem
        have hr4 := hG.r4 r hmem
        have hs0 := hG.s0 r hmem
        have hs1 := hG.s1 r hmem
        have ht1 := hG.t1
        obtain ⟨n, hn⟩ : ∃ n : Nat, r.1 = (n : Int) := ⟨r.1.toNat, by omega⟩
        have hn6 : n < 6 := by omega
        refine wkdac (And.intro (@get_E _ _ _ _ hrk) (And.intro @hrk (And.intro @hlt (@ruleC.eq_1)))) _ ?_
        refine Holds.loop (ι := Nat × (Int × Int → Bool)) (fun i => ⟨[(1, .pb 0 3 0 0), (3, .pb 1 66 0 0), (12, .v (.bool true)), (13, .pb 2 66 0 0), (15, .pb 3 2 0 0), (87, .im 2 (rules g.2.2)), (88, .v (.int .i64 g.2.2.length)), (89, .v (.int .i64 k)), (94, .im 1 (ints r.2)), (95, .v (.int .i64 r.2.length)), (96, .v (.int .i64 i.1))], [(3, ⟨87, 2, [ruleC r]⟩), (2, ⟨78, 66, [boxH (headH (madeS g true) (madeS g false) (firstS g) W0)]⟩), (1, ⟨78, 66, [boxH (headH (madeS g true) (madeS g false) (firstS g) i.2)]⟩), (0, ⟨31, 3, [grammarC g]⟩)], 4⟩)
          (fun i => i.1 ≤ r.2.length ∧ ∃ more, ClI (impsW g) univQ W0 i.2 more (seenW g k r i.1)) (fun i => r.2.length - i.1) (0, W) ⟨Nat.zero_le _, more, by rw [seenW_zero]; exact hC⟩ ?_ ?_
        · exact Cov.ofn (id) rfl (by simp [go_sem, List.take_of_length_le, ren, ren1, ren2, okr, okr1, okr2, ChkT, ChkN, BlkN, nf, grammarC, ruleC]) (by simp [go_sem, List.take_of_length_le, ren, ren1, ren2, okr, okr1, okr2, ChkT, ChkN, BlkN, nf, grammarC, ruleC])
        clear hC more
        rintro ⟨a, W⟩ ⟨ha, more, hC⟩
        dsimp only at ha hC ⊢
        have stepa : wr64 ((a : Int) + 1) = ((a + 1 : Nat) : Int) := wr64_id (by omega) (by omega)
        refine wkdac0 _ ?_
        refine Holds.cond rfl (fun h => ?_) (fun h => ?_)
        · have hla : a < r.2.length := by simp at h; omega
          have hxa : r.2[a]? = some r.2[a] := List.getElem?_eq_getElem hla
          have hxm := List.getElem_mem hla
          generalize r.2[a] = x at hxa hxm
          have hx5 := hs1 x hxm
          have hx4 := hs0 x hxm
          by_cases hx0 : x < 0
          · have hsn : seenW g k r (a + 1) = seenW g k r a := by
              rw [seenW_snoc, impsWr, hxa]
              simp only [if_pos hx0, List.append_nil]
            refine wkdac (And.intro (@get_E _ _ _ _ hxa) (And.intro @hxa (And.intro @hla (@hx0)))) _ ?_
            refine ⟨(a + 1, W), ⟨by dsimp only; omega, more, by rw [hsn]; exact hC⟩, by dsimp only; omega, ?_⟩
            rw [stepa]
            exact Cov.ofn (id) rfl (by simp [go_sem, List.take_of_length_le, ren, ren1, ren2, okr, okr1, okr2, ChkT, ChkN, BlkN, nf, grammarC, ruleC]) (by simp [go_sem, List.take_of_length_le, ren, ren1, ren2, okr, okr1, okr2, ChkT, ChkN, BlkN, nf, grammarC, ruleC])
          · have hsn : seenW g k r (a + 1) = seenW g k r a ++ univL.map (impW g r.1 x (r.2.drop (a + 1))) := by
              rw [seenW_snoc, impsWr, hxa]
              simp only [if_neg hx0]
            obtain ⟨m, rfl⟩ : ∃ m : Nat, x = (m : Int) := ⟨x.toNat, by omega⟩
            have hm6 : m < 6 := by omega
            have hdl : (r.2.drop (a + 1)).length ≤ 4 := by rw [List.length_drop]; omega
            have cof := ofG g (firstS g) W (r.2.drop (a + 1)) hdl (fun x hx => by have := hs1 x (List.mem_of_mem_drop hx); omega) (fun x hx => by have := hs0 x (List.mem_of_mem_drop hx); omega)
            change Pure _ _ _ (.tu [.ag (cellsT (begS g (r.2.drop (a + 1)))), _]) at cof
            have himp := fun t ht => impW_mem (g := g) hmem hxa hx0 (t := t) ht
            have hwa : wr64 ((a : Int) + 1) = ((a + 1 : Nat) : Int) := stepa
            have hal : a + 1 ≤ r.2.length := by omega
            have hdr : (ints r.2).drop (a + 1) = ints (r.2.drop (a + 1)) := by simp [ints]
            have hrs : ∀ x ∈ r.2.drop (a + 1), -4 ≤ x := fun x hx => by have := hs0 x (List.mem_of_mem_drop hx); omega
            generalize r.2.drop (a + 1) = rest at cof hsn himp hdr hrs
            obtain ⟨S, hS⟩ : ∃ S, S = begS g rest := ⟨_, rfl⟩
            obtain ⟨e0, hE⟩ : ∃ e0, e0 = nullS g rest := ⟨_, rfl⟩
            rw [← hS, ← hE] at cof
            refine wkdac (And.intro (@get_E _ _ _ _ hxa) (And.intro @hxa (And.intro @hla (And.intro @hx0 (And.intro @ruleC.eq_1 (And.intro @hwa (And.intro @hal (And.intro ((show (0 : Int) ≤ (a : Int) + 1 by omega)) (@hdr))))))))) _ ?_
            first | refine GS.cd (cof) rfl rfl rfl rfl (by simp [go_sem, List.take_of_length_le] <;> with_reducible rfl) rfl (by exact .cons (Fz.box rfl rfl rfl (boxH_clA _)) (.cons (.im _ _) .nil)) rfl ?_ | refine Gd.cd (cof) rfl rfl rfl rfl (by simp [go_sem, List.take_of_length_le] <;> with_reducible rfl) rfl (by exact .cons (Fz.box rfl rfl rfl (boxH_clA _)) (.cons (.im _ _) .nil)) rfl ?_ | refine Gx.cd (cof) rfl rfl rfl rfl rfl (by simp [go_sem, List.take_of_length_le] <;> with_reducible rfl) rfl (by exact .cons (Fz.box rfl rfl rfl (boxH_clA _)) (.cons (.im _ _) .nil)) rfl ?_
            refine wkdac (@cellsT.eq_1) _ ?_
            refine Holds.loop (ι := Nat × (Int × Int → Bool)) (fun i => ⟨[(1, .pb 0 3 0 0), (3, .pb 1 66 0 0), (12, .v (.bool true)), (13, .pb 2 66 0 0), (15, .pb 3 2 0 0), (17, .v (.int .i64 m)), (19, .v (.bool (e0))), (87, .im 2 (rules g.2.2)), (88, .v (.int .i64 g.2.2.length)), (89, .v (.int .i64 k)), (94, .im 1 (ints r.2)), (95, .v (.int .i64 r.2.length)), (96, .v (.int .i64 a)), (113, .ag (cellsT S)), (114, .v (.int .i64 i.1))], [(3, ⟨87, 2, [ruleC r]⟩), (2, ⟨78, 66, [boxH (headH (madeS g true) (madeS g false) (firstS g) W0)]⟩), (1, ⟨78, 66, [boxH (headH (madeS g true) (madeS g false) (firstS g) i.2)]⟩), (0, ⟨31, 3, [grammarC g]⟩)], 4⟩)
              (fun i => i.1 ≤ 4 ∧ (∃ more, ClI (impsW g) univQ W0 i.2 more (seenW g k r a)) ∧ (∀ p, W p = true → i.2 p = true) ∧ ∀ t : Nat, t < i.1 → (S t || (e0 && W (r.1, t))) = true → i.2 (m, t) = true) (fun i => 4 - i.1) (0, W) ⟨Nat.zero_le _, ⟨more, hC⟩, fun _ h => h, fun t ht => absurd ht (Nat.not_lt_zero _)⟩ ?_ ?_
            · exact Cov.ofn (id) rfl (by simp [go_sem, List.take_of_length_le, ren, ren1, ren2, okr, okr1, okr2, ChkT, ChkN, BlkN, nf, grammarC, ruleC, cellsT]) (by simp [go_sem, List.take_of_length_le, ren, ren1, ren2, okr, okr1, okr2, ChkT, ChkN, BlkN, nf, grammarC, ruleC, cellsT])
            have hle0 := hC.le
            clear hC
            rintro ⟨i, W2⟩ ⟨hi, ⟨more, hC⟩, hle, hset⟩
            dsimp only at hi hC hle hset ⊢
            have stepi : wr64 ((i : Int) + 1) = ((i + 1 : Nat) : Int) := wr64_id (by omega) (by omega)
            refine wkdac0 _ ?_
            refine Holds.cond rfl (fun h => ?_) (fun h => ?_)
            · have hi4 : i < 4 := by simp at h; omega
              have hi3 : i ≤ 3 := by omega
              have hbd : 36 + m * 4 + i ≤ 65 := by omega
              have hSi := cellsT_at S hi4
              have hget := boxH_at (headH (madeS g true) (madeS g false) (firstS g) W2) (i := 36 + m * 4 + i) (by omega)
              rw [headH_W _ _ _ _ hm6 hi4] at hget
              have hget2 := boxH_at (headH (madeS g true) (madeS g false) (firstS g) W2) (i := 36 + n * 4 + i) (by omega)
              rw [headH_W _ _ _ _ hn6 hi4] at hget2
              have hput := headH_setW (madeS g true) (madeS g false) (firstS g) W2 hm6 hi4 (W2 ((m : Int), (i : Int)) || (S i || (e0 && W2 ((n : Int), (i : Int)))))
              have hup := hC.upd (himp (i : Int) (by omega)) (impW_mono g r.1 m rest i) (mem_univQ.2 ⟨⟨by show (0 : Int) ≤ m; omega, by show (m : Int) ≤ 5; omega⟩, ⟨by show (-1 : Int) ≤ i; omega, by show (i : Int) ≤ 3; omega⟩⟩)
              have e1 : (impW g r.1 (m : Int) rest (i : Int)).1 W2 = (S i || (e0 && W2 ((n : Int), (i : Int)))) := by rw [← hn, hS, hE]; rfl
              have e2 : (impW g r.1 (m : Int) rest (i : Int)).2 = ((m : Int), (i : Int)) := rfl
              rw [e1, e2] at hup
              have hnew : ∀ t : Nat, t < i + 1 → (S t || (e0 && W (r.1, t))) = true → updP W2 ((m : Int), (i : Int)) (W2 ((m : Int), (i : Int)) || (S i || (e0 && W2 ((n : Int), (i : Int))))) (m, t) = true := fun t ht hs => by
                by_cases e : t = i
                · subst e
                  refine hup.2.2 ?_
                  rw [Bool.or_eq_true, Bool.and_eq_true] at hs ⊢
                  exact hs.imp id fun h => ⟨h.1, by rw [← hn]; exact hle _ h.2⟩
                · exact hup.2.1 _ (hset t (by omega) hs)
              obtain ⟨⟨more', hC'⟩, hle', _⟩ := hup
              obtain ⟨W3, hW3⟩ : ∃ W3, W3 = updP W2 ((m : Int), (i : Int)) (W2 ((m : Int), (i : Int)) || (S i || (e0 && W2 ((n : Int), (i : Int))))) := ⟨_, rfl⟩
              rw [← hW3] at hnew hput hC' hle'
              have hinv : (∃ more, ClI (impsW g) univQ W0 W3 more (seenW g k r a)) ∧ (∀ p, W p = true → W3 p = true) ∧ ∀ t : Nat, t < i + 1 → (S t || (e0 && W (r.1, t))) = true → W3 (m, t) = true := ⟨⟨more', hC'⟩, fun p hp => hle' p (hle p hp), hnew⟩
              clear hW3 e1 hC' hle' hnew
              generalize W2 ((m : Int), (i : Int)) = b1 at hget hput
              generalize hq2 : W2 ((n : Int), (i : Int)) = b2 at hget2 hput
              generalize hqs : S (i : Int) = s1 at hSi hput
              refine wkdasc (And.intro @hi4 (And.intro @hi3 (And.intro (@get_E _ _ _ _ hSi) (And.intro @hSi (@ruleC.eq_1))))) _ ?_
              cases b1 with
              | true =>
                rw [Bool.true_or] at hput
                refine Holds.anx [1032] [] (fun n => decide (n = 1)) mixed ?_ ?_ ?_; (· kernel_rfl); (· kernel_rfl)
                refine wkdac (And.intro @hi4 (And.intro @hi3 (And.intro @hn6 (And.intro @hm6 (And.intro @hn (And.intro (@get_E _ _ _ _ hget) (And.intro @hget (And.intro (@get_E _ _ _ _ hget2) (And.intro @hget2 (And.intro @hput (And.intro @hbd (@ruleC.eq_1)))))))))))) _ ?_
                refine ⟨(i + 1, W3), ⟨by dsimp only; omega, hinv⟩, by dsimp only; omega, ?_⟩
                rw [stepi]
                exact Cov.ofn (id) rfl (by simp [go_sem, List.take_of_length_le, ren, ren1, ren2, okr, okr1, okr2, ChkT, ChkN, BlkN, nf, grammarC, ruleC, cellsT, hn]) (by simp [go_sem, List.take_of_length_le, ren, ren1, ren2, okr, okr1, okr2, ChkT, ChkN, BlkN, nf, grammarC, ruleC, cellsT, hn])
              | false =>
                rw [Bool.false_or] at hput
                cases s1 with
                | true =>
                  rw [Bool.true_or] at hput
                  refine Holds.anx [1032] [] (fun n => decide (n = 1)) mixed ?_ ?_ ?_; (· kernel_rfl); (· kernel_rfl)
                  refine wkdac (And.intro @hi4 (And.intro @hi3 (And.intro @hn6 (And.intro @hm6 (And.intro @hn (And.intro (@get_E _ _ _ _ hget) (And.intro @hget (And.intro (@get_E _ _ _ _ hget2) (And.intro @hget2 (And.intro @hput (And.intro @hbd (@ruleC.eq_1)))))))))))) _ ?_
                  refine ⟨(i + 1, W3), ⟨by dsimp only; omega, hinv⟩, by dsimp only; omega, ?_⟩
                  rw [stepi]
                  exact Cov.ofn (id) rfl (by simp [go_sem, List.take_of_length_le, ren, ren1, ren2, okr, okr1, okr2, ChkT, ChkN, BlkN, nf, grammarC, ruleC, cellsT, hn]) (by simp [go_sem, List.take_of_length_le, ren, ren1, ren2, okr, okr1, okr2, ChkT, ChkN, BlkN, nf, grammarC, ruleC, cellsT, hn])
                | false =>
                  rw [Bool.false_or] at hput
                  cases e0 with
                  | false =>
                    rw [Bool.false_and] at hput
                    refine Holds.anx [1032] [] (fun n => decide (n = 1)) mixed ?_ ?_ ?_; (· kernel_rfl); (· kernel_rfl)
                    refine wkdac (And.intro @hi4 (And.intro @hi3 (And.intro @hn6 (And.intro @hm6 (And.intro @hn (And.intro (@get_E _ _ _ _ hget) (And.intro @hget (And.intro (@get_E _ _ _ _ hget2) (And.intro @hget2 (And.intro @hput (And.intro @hbd (@ruleC.eq_1)))))))))))) _ ?_
                    refine ⟨(i + 1, W3), ⟨by dsimp only; omega, hinv⟩, by dsimp only; omega, ?_⟩
                    rw [stepi]
                    exact Cov.ofn (id) rfl (by simp [go_sem, List.take_of_length_le, ren, ren1, ren2, okr, okr1, okr2, ChkT, ChkN, BlkN, nf, grammarC, ruleC, cellsT, hn]) (by simp [go_sem, List.take_of_length_le, ren, ren1, ren2, okr, okr1, okr2, ChkT, ChkN, BlkN, nf, grammarC, ruleC, cellsT, hn])
                  | true =>
                    rw [Bool.true_and] at hput
                    refine Holds.anx [1032] [] (fun n => decide (n = 1)) mixed ?_ ?_ ?_; (· kernel_rfl); (· kernel_rfl)
                    refine wkdac (And.intro @hi4 (And.intro @hi3 (And.intro @hn6 (And.intro @hm6 (And.intro @hn (And.intro (@get_E _ _ _ _ hget) (And.intro @hget (And.intro (@get_E _ _ _ _ hget2) (And.intro @hget2 (And.intro @hput (And.intro @hbd (@ruleC.eq_1)))))))))))) _ ?_
                    refine ⟨(i + 1, W3), ⟨by dsimp only; omega, hinv⟩, by dsimp only; omega, ?_⟩
                    rw [stepi]
                    exact Cov.ofn (id) rfl (by simp [go_sem, List.take_of_length_le, ren, ren1, ren2, okr, okr1, okr2, ChkT, ChkN, BlkN, nf, grammarC, ruleC, cellsT, hn]) (by simp [go_sem, List.take_of_length_le, ren, ren1, ren2, okr, okr1, okr2, ChkT, ChkN, BlkN, nf, grammarC, ruleC, cellsT, hn])
            · have hi4 : i = 4 := by simp at h; omega
              subst hi4
              have hbd : 60 + m ≤ 65 := by omega
              have hget := boxH_at (headH (madeS g true) (madeS g false) (firstS g) W2) (i := 60 + m) (by omega)
              rw [headH_L _ _ _ _ hm6] at hget
              have hget2 := boxH_at (headH (madeS g true) (madeS g false) (firstS g) W2) (i := 60 + n) (by omega)
              rw [headH_L _ _ _ _ hn6] at hget2
              have hput := headH_setL (madeS g true) (madeS g false) (firstS g) W2 hm6 (W2 ((m : Int), -1) || (e0 && W2 ((n : Int), -1)))
              have hup := hC.upd (himp (-1) (by omega)) (impW_mono g r.1 m rest (-1)) (mem_univQ.2 ⟨⟨by show (0 : Int) ≤ m; omega, by show (m : Int) ≤ 5; omega⟩, ⟨by show (-1 : Int) ≤ -1; omega, by show (-1 : Int) ≤ 3; omega⟩⟩)
              have hb1 : begS g rest (-1) = false := by
                cases hb : begS g rest (-1) with
                | false => rfl
                | true => have := begS_univ hG hrs hb; omega
              have e1 : (impW g r.1 (m : Int) rest (-1)).1 W2 = (e0 && W2 ((n : Int), -1)) := by
                show (begS g rest (-1) || (nullS g rest && W2 (r.1, -1))) = _
                rw [hb1, Bool.false_or, hE, hn]
              have e2 : (impW g r.1 (m : Int) rest (-1)).2 = ((m : Int), -1) := rfl
              rw [e1, e2] at hup
              obtain ⟨⟨more', hC'⟩, hle', hlast⟩ := hup
              obtain ⟨W3, hW3⟩ : ∃ W3, W3 = updP W2 ((m : Int), -1) (W2 ((m : Int), -1) || (e0 && W2 ((n : Int), -1))) := ⟨_, rfl⟩
              rw [← hW3] at hput hC' hle' hlast
              have hinv : ∃ more, ClI (impsW g) univQ W0 W3 more (seenW g k r (a + 1)) := by
                refine ⟨more', ?_⟩
                rw [hsn]
                refine hC'.ext _ fun f1 f2 p hp h1 => ?_
                obtain ⟨t, ht, rfl⟩ := List.mem_map.1 hp
                have ht := mem_univL.1 ht
                have hWW : ∀ q, W3 q = true → W q = true := fun q hq => hle0 q (by rw [← f2]; exact hq)
                have h1 : (begS g rest t || (nullS g rest && W3 (r.1, t))) = true := h1
                by_cases ht1 : t = -1
                · subst ht1
                  rw [hb1, Bool.false_or, Bool.and_eq_true] at h1
                  refine hlast ?_
                  rw [Bool.and_eq_true]
                  exact ⟨by rw [hE]; exact h1.1, by rw [← hn]; exact hle _ (hWW _ h1.2)⟩
                · obtain ⟨u, rfl⟩ : ∃ u : Nat, t = (u : Int) := ⟨t.toNat, by omega⟩
                  refine hle' _ (hset u (by omega) ?_)
                  rw [hS, hE]
                  rw [Bool.or_eq_true, Bool.and_eq_true] at h1 ⊢
                  exact h1.imp id fun h => ⟨h.1, hWW _ h.2⟩
              clear hW3 e1 hC' hle' hlast
              generalize W2 ((m : Int), -1) = b1 at hget hput
              generalize W2 ((n : Int), -1) = b2 at hget2 hput
              refine wkdasc0 _ ?_
              cases b1 with
              | true =>
                rw [Bool.true_or] at hput
                refine Holds.anx [1023] [] (fun n => decide (n = 1)) mixed ?_ ?_ ?_; (· kernel_rfl); (· kernel_rfl)
                refine wkdac (And.intro @hn6 (And.intro @hm6 (And.intro @hn (And.intro (@get_E _ _ _ _ hget) (And.intro @hget (And.intro (@get_E _ _ _ _ hget2) (And.intro @hget2 (And.intro @hput (And.intro @hbd (@ruleC.eq_1)))))))))) _ ?_
                refine ⟨(a + 1, W3), ⟨by dsimp only; omega, hinv⟩, by dsimp only; omega, ?_⟩
                rw [stepa]
                exact Cov.ofn (id) rfl (by simp [go_sem, List.take_of_length_le, ren, ren1, ren2, okr, okr1, okr2, ChkT, ChkN, BlkN, nf, grammarC, ruleC, cellsT, hn]) (by simp [go_sem, List.take_of_length_le, ren, ren1, ren2, okr, okr1, okr2, ChkT, ChkN, BlkN, nf, grammarC, ruleC, cellsT, hn])
              | false =>
                rw [Bool.false_or] at hput
                cases e0 with
                | false =>
                  rw [Bool.false_and] at hput
                  refine Holds.anx [1023] [] (fun n => decide (n = 1)) mixed ?_ ?_ ?_; (· kernel_rfl); (· kernel_rfl)
                  refine wkdac (And.intro @hn6 (And.intro @hm6 (And.intro @hn (And.intro (@get_E _ _ _ _ hget) (And.intro @hget (And.intro (@get_E _ _ _ _ hget2) (And.intro @hget2 (And.intro @hput (And.intro @hbd (@ruleC.eq_1)))))))))) _ ?_
                  refine ⟨(a + 1, W3), ⟨by dsimp only; omega, hinv⟩, by dsimp only; omega, ?_⟩
                  rw [stepa]
                  exact Cov.ofn (id) rfl (by simp [go_sem, List.take_of_length_le, ren, ren1, ren2, okr, okr1, okr2, ChkT, ChkN, BlkN, nf, grammarC, ruleC, cellsT, hn]) (by simp [go_sem, List.take_of_length_le, ren, ren1, ren2, okr, okr1, okr2, ChkT, ChkN, BlkN, nf, grammarC, ruleC, cellsT, hn])
                | true =>
                  rw [Bool.true_and] at hput
                  refine Holds.anx [1023] [] (fun n => decide (n = 1)) mixed ?_ ?_ ?_; (· kernel_rfl); (· kernel_rfl)
                  refine wkdac (And.intro @hn6 (And.intro @hm6 (And.intro @hn (And.intro (@get_E _ _ _ _ hget) (And.intro @hget (And.intro (@get_E _ _ _ _ hget2) (And.intro @hget2 (And.intro @hput (And.intro @hbd (@ruleC.eq_1)))))))))) _ ?_
                  refine ⟨(a + 1, W3), ⟨by dsimp only; omega, hinv⟩, by dsimp only; omega, ?_⟩
                  rw [stepa]
                  exact Cov.ofn (id) rfl (by simp [go_sem, List.take_of_length_le, ren, ren1, ren2, okr, okr1, okr2, ChkT, ChkN, BlkN, nf, grammarC, ruleC, cellsT, hn]) (by simp [go_sem, List.take_of_length_le, ren, ren1, ren2, okr, okr1, okr2, ChkT, ChkN, BlkN, nf, grammarC, ruleC, cellsT, hn])
        · have hae : a = r.2.length := by simp at h; omega
          subst hae
          rw [seenW_all g hrk] at hC
          refine wkdac0 _ ?_
          refine ⟨(k + 1, W), ⟨by dsimp only; omega, more, hC⟩, by dsimp only; omega, ?_⟩
          rw [stepk]
          exact Cov.ofn (id) rfl (by simp [go_sem, List.take_of_length_le, ren, ren1, ren2, okr, okr1, okr2, ChkT, ChkN, BlkN, nf, grammarC]) (by simp [go_sem, List.take_of_length_le, ren, ren1, ren2, okr, okr1, okr2, ChkT, ChkN, BlkN, nf, grammarC])
      · have hke : k = g.2.2.length := by simp at h; omega
        subst hke
        rw [List.take_length] at hC
        change ClI _ _ _ _ _ (impsW g) at hC
        refine wkdac0 _ ?_
        refine Gd.calm rfl rfl (.neB (xs := boolsH (headH (madeS g true) (madeS g false) (firstS g) W)) (ys := boolsH (headH (madeS g true) (madeS g false) (firstS g) W0)) rfl eqHeads rfl rfl (boolsH_len _) (boolsH_len _) (congrArg (fun b => AV.v (.bool b)) (heads_neW hC).symm)) ?_
        refine wkdac0 _ ?_
        refine ⟨(W, more), ⟨hC.le _ hz0, hC.low, fun e => ?_⟩, ?_, ?_⟩
        · dsimp only at e ⊢
          subst e
          exact hC.done
        · dsimp only
          have hc := card_leQ W
          cases more with
          | true => have := hC.yes rfl; simp only [if_true]; omega
          | false => rw [(hC.no rfl).1]; simp
        exact Cov.ofn (id) rfl (by simp [go_sem, List.take_of_length_le, ren, ren1, ren2, okr, okr1, okr2, ChkT, ChkN, BlkN, nf, grammarC]) (by simp [go_sem, List.take_of_length_le, ren, ren1, ren2, okr, okr1, okr2, ChkT, ChkN, BlkN, nf, grammarC])
    · have h : more1 = false := by simpa using h
      have := hfin h
      subst this
      refine wkdac0 _ ?_
      refine OutF.mkn (xs := ?_) (nm [1]) ?_ ?_ ?_ ?_ ?_ (by first | exact .inr rfl | exact .inl rfl)
      rotate_left
      · simp [go_sem, List.take_of_length_le] <;> with_reducible rfl
      · simp [go_sem, List.take_of_length_le, ren, ren1, ren2, okr, okr1, okr2, ChkN, BlkN, List.range_succ, nf]
      · simp [go_sem, List.take_of_length_le, ren, ren1, ren2, okr, okr1, okr2, ChkN, BlkN, List.range_succ, nf]
      · simp [go_sem, List.take_of_length_le, ren, ren1, ren2, okr, okr1, okr2, ChkN, BlkN, List.range_succ, nf]
      · rfl
end Go.Proofs.Ytenienncgjanpaa.En
end
section
namespace Go.Proofs.Ytenienncgjanpaa.En
open Go.RowKit
set_option linter.unusedSimpArgs false
set_option linter.unusedVariables false
set_option maxHeartbeats 4000000
end Go.Proofs.Ytenienncgjanpaa.En
end
section
namespace Go.Proofs.Ytenienncgjanpaa.En
open Go.RowKit Go.Shelf Go.Sort
set_option linter.unusedSimpArgs false
set_option linter.unusedVariables false
set_option maxHeartbeats 4000000
def cmpA (x y : Int) : Int := if x < y then -1 else if y < x then 1 else 0
theorem isNaNA (x : Int) : Pure Try.prog 101 [.v (.int .i64 x)] (.v (.bool false)) := by
  refine Pure.mk (rs := [.tmp 2]) (nt := 6) Try.func101 (by kernel_rfl) rfl rfl rfl (by simp) ?_
  simp only [sl]
  have h : (x == x) = true := by simp
  refine wkc (@h) _ ?_
  refine Out.mk (xs := ?_) ?_ ?_ (by first | exact .inr rfl | exact .inl rfl)
  rotate_left
  · simp [go_sem, List.take_of_length_le] <;> with_reducible rfl
  exact .v _
theorem compareIntA (x y : Int) : Pure Try.prog 89 [.v (.int .i64 x), .v (.int .i64 y)] (.v (.int .i64 (cmpA x y))) := by
  have c1 := isNaNA x
  have c2 := isNaNA y
  unfold cmpA
  refine Pure.mk (rs := [.tmp 4]) (nt := 20) Try.func89 (by kernel_rfl) rfl rfl rfl (by simp) ?_
  simp only [sl]
  refine wkc0 _ ?_
  refine GS.cc (c1) rfl rfl rfl rfl (by simp [go_sem, List.take_of_length_le] <;> with_reducible rfl) rfl (by simp [go_sem, List.take_of_length_le]) ?_
  refine wkc0 _ ?_
  refine GS.cc (c2) rfl rfl rfl rfl (by simp [go_sem, List.take_of_length_le] <;> with_reducible rfl) rfl (by simp [go_sem, List.take_of_length_le]) ?_
  refine wkc0 _ ?_
  by_cases h1 : x < y
  · rw [if_pos h1]
    have h1' : decide (x < y) = true := by simp [h1]
    refine wkc (And.intro @h1' (@h1)) _ ?_
    refine Out.mk (xs := ?_) ?_ ?_ (by first | exact .inr rfl | exact .inl rfl)
    rotate_left
    · simp [go_sem, List.take_of_length_le] <;> with_reducible rfl
    exact .v _
  · rw [if_neg h1]
    have h1' : decide (x < y) = false := by simp [h1]
    by_cases h2 : y < x
    · rw [if_pos h2]
      refine wkc (And.intro @h1' (And.intro @h1 (@h2))) _ ?_
      refine Out.mk (xs := ?_) ?_ ?_ (by first | exact .inr rfl | exact .inl rfl)
      rotate_left
      · simp [go_sem, List.take_of_length_le] <;> with_reducible rfl
      exact .v _
    · rw [if_neg h2]
      refine wkc (And.intro @h1' (And.intro @h1 (@h2))) _ ?_
      refine Out.mk (xs := ?_) ?_ ?_ (by first | exact .inr rfl | exact .inl rfl)
      rotate_left
      · simp [go_sem, List.take_of_length_le] <;> with_reducible rfl
      exact .v _
def orA : List Int → Int
  | [] => 0
  | x :: r => if x = 0 then orA r else x
theorem orA_drop (xs : List Int) (i : Nat) (x : Int) (h : xs[i]? = some x) : orA (xs.drop i) = if x = 0 then orA (xs.drop (i + 1)) else x := by
  obtain ⟨hi, rfl⟩ := List.getElem?_eq_some_iff.1 h
  rw [List.drop_eq_getElem_cons hi, orA]
theorem orIntsA (xs : List Int) (hx : xs.length < 4611686018427387904) : Pure Try.prog 88 [.im 1 (ints xs)] (.v (.int .i64 (orA xs))) := by
  refine Pure.mk (rs := [.tmp 2]) (nt := 18) Try.func88 (by kernel_rfl) rfl rfl rfl (by simp) ?_
  simp only [sl]
  refine wk0 _ ?_
  refine Holds.loop (ι := Nat) (fun i => ⟨[(2, .v (.int .i64 0)), (3, .v (.int .i64 0)), (6, .im 1 (ints xs)), (7, .v (.int .i64 xs.length)), (8, .v (.int .i64 i))], [], 0⟩) (fun i => i ≤ xs.length ∧ orA (xs.drop i) = orA xs) (fun i => xs.length - i) 0 ⟨Nat.zero_le _, rfl⟩ ?_ ?_
  · exact Cov.ofn (id) rfl (by simp [go_sem, List.take_of_length_le, ren, ren1, ren2, okr, okr1, okr2, ChkT, ChkN, BlkN, nf]) (by simp [go_sem, List.take_of_length_le, ren, ren1, ren2, okr, okr1, okr2, ChkT, ChkN, BlkN, nf])
  rintro i ⟨hi, hno⟩
  refine wk0 _ ?_
  refine Holds.cond rfl (fun hl => ?_) (fun hl => ?_)
  · have hlt : i < xs.length := by simpa using hl
    have hxi : xs[i]? = some xs[i] := List.getElem?_eq_getElem hlt
    have hd := orA_drop xs i _ hxi
    generalize xs[i] = x at hxi hd
    rw [hno] at hd
    by_cases hx0 : x = 0
    · subst hx0
      rw [if_pos rfl] at hd
      refine wkc (And.intro @hxi (And.intro @hlt (@get_E _ _ _ _ hxi))) _ ?_
      refine ⟨i + 1, ⟨by omega, hd.symm⟩, by omega, ?_⟩
      rw [wr64_id (by omega) (by omega)]
      exact Cov.ofn (id) rfl (by simp [go_sem, List.take_of_length_le, ren, ren1, ren2, okr, okr1, okr2, ChkT, ChkN, BlkN, nf]) (by simp [go_sem, List.take_of_length_le, ren, ren1, ren2, okr, okr1, okr2, ChkT, ChkN, BlkN, nf])
    · rw [if_neg hx0] at hd
      have hx0' : (x == 0) = false := by simp [hx0]
      rw [hd]
      refine wkc (And.intro @hxi (And.intro @hlt (And.intro (@get_E _ _ _ _ hxi) (And.intro @hx0' (@hx0))))) _ ?_
      refine Out.mk (xs := ?_) ?_ ?_ (by first | exact .inr rfl | exact .inl rfl)
      rotate_left
      · simp [go_sem, List.take_of_length_le] <;> with_reducible rfl
      exact .v _
  · have hle : i = xs.length := by
      have : ¬ i < xs.length := by simpa using hl
      omega
    subst hle
    rw [List.drop_length] at hno
    rw [← hno]
    refine wk0 _ ?_
    refine Out.mk (xs := ?_) ?_ ?_ (by first | exact .inr rfl | exact .inl rfl)
    rotate_left
    · simp [go_sem, List.take_of_length_le] <;> with_reducible rfl
    exact .v _
abbrev ChT := Int × Int × Int
def cmpCh (x y : ChT) : Int := orA [cmpA x.1 y.1, cmpA x.2.1 y.2.1, cmpA x.2.2 y.2.2]
def lessC (a b : ChT) : Bool := if a.1 = b.1 then (if a.2.1 = b.2.1 then decide (a.2.2 < b.2.2) else decide (a.2.1 < b.2.1)) else decide (a.1 < b.1)
theorem lessC_iff (a b : ChT) : lessC a b = true ↔ a.1 < b.1 ∨ (a.1 = b.1 ∧ (a.2.1 < b.2.1 ∨ (a.2.1 = b.2.1 ∧ a.2.2 < b.2.2))) := by
  unfold lessC
  split
  · split
    · rw [decide_eq_true_iff]; omega
    · rw [decide_eq_true_iff]; omega
  · rw [decide_eq_true_iff]; omega
theorem lessC_irr (a : ChT) : lessC a a = false := by
  cases h : lessC a a with
  | false => rfl
  | true => have := (lessC_iff a a).1 h; omega
theorem lessC_trans {a b c : ChT} (h : lessC a b = true) (k : lessC b c = true) : lessC a c = true := by
  rw [lessC_iff] at *; omega
theorem cmpCh_lt (x y : ChT) : decide (cmpCh x y < 0) = lessC x y := by
  rw [Bool.eq_iff_iff, decide_eq_true_iff, lessC_iff]
  unfold cmpCh orA orA orA orA cmpA
  constructor
  · intro h
    split at h <;> split at h <;> (try split at h) <;> (try split at h) <;> (try split at h) <;> (try split at h) <;> omega
  · intro h
    split <;> split <;> (try split) <;> (try split) <;> (try split) <;> (try split) <;> omega
theorem lessC_eq {x y : ChT} (h1 : lessC x y = false) (h2 : lessC y x = false) : x = y := by
  have a := mt (lessC_iff x y).2 (by simp [h1])
  have b := mt (lessC_iff y x).2 (by simp [h2])
  obtain ⟨x1, x2, x3⟩ := x
  obtain ⟨y1, y2, y3⟩ := y
  dsimp only at a b
  rw [show x1 = y1 by omega, show x2 = y2 by omega, show x3 = y3 by omega]
theorem lessC_ntrans {x y z : ChT} (h1 : lessC x y = false) (h2 : lessC y z = false) : lessC x z = false := by
  have a := mt (lessC_iff x y).2 (by simp [h1])
  have b := mt (lessC_iff y z).2 (by simp [h2])
  cases h : lessC x z with
  | false => rfl
  | true => have := (lessC_iff x z).1 h; omega
def SortC (S : List ChT) : Prop := S.Pairwise fun a b => lessC a b = true
def sortCh (xs : List ChT) : List ChT := xs.mergeSort fun x y => !lessC y x
@[simp] theorem sortCh_len (xs : List ChT) : (sortCh xs).length = xs.length := by simp [sortCh]
theorem sortedC {xs : List ChT} (hn : xs.Nodup) : SortC (sortCh xs) ∧ ∀ z, z ∈ sortCh xs ↔ z ∈ xs := by
  have hp := List.mergeSort_perm xs fun x y => !lessC y x
  have hs := List.pairwise_mergeSort (le := fun x y => !lessC y x) (fun a b c h1 h2 => by
    simp only [Bool.not_eq_true'] at *
    exact lessC_ntrans h2 h1) (fun a b => by
    cases h : lessC b a with
    | false => simp
    | true =>
      cases h2 : lessC a b with
      | false => simp
      | true => have := lessC_trans h h2; rw [lessC_irr] at this; cases this) xs
  have hnd : (xs.mergeSort fun x y => !lessC y x).Nodup := hp.nodup_iff.2 hn
  refine ⟨?_, fun z => hp.mem_iff⟩
  refine (List.pairwise_iff_getElem.2 fun i j hi hj hij => ?_)
  have h1 := List.pairwise_iff_getElem.1 hs i j hi hj hij
  have h2 := List.pairwise_iff_getElem.1 hnd i j hi hj hij
  cases h : lessC (xs.mergeSort fun x y => !lessC y x)[i] (xs.mergeSort fun x y => !lessC y x)[j] with
  | true => exact h
  | false => exact absurd (lessC_eq h (by simpa using h1)) h2
theorem sortC_ext : ∀ {S T : List ChT}, SortC S → SortC T → (∀ z, z ∈ S ↔ z ∈ T) → S = T
  | [], [], _, _, _ => rfl
  | [], b :: T, _, _, h => by have := (h b).2 (.head _); cases this
  | a :: S, [], _, _, h => by have := (h a).1 (.head _); cases this
  | a :: S, b :: T, hS, hT, h => by
    obtain ⟨hS1, hS2⟩ := List.pairwise_cons.1 hS
    obtain ⟨hT1, hT2⟩ := List.pairwise_cons.1 hT
    have hab : a = b := by
      rcases List.mem_cons.1 ((h a).1 (.head _)) with e | e
      · exact e
      · rcases List.mem_cons.1 ((h b).2 (.head _)) with e2 | e2
        · exact e2.symm
        · have := lessC_trans (hT1 a e) (hS1 b e2)
          rw [lessC_irr] at this; cases this
    subst hab
    rw [sortC_ext hS2 hT2 fun z => ?_]
    constructor
    · intro hz
      rcases List.mem_cons.1 ((h z).1 (.tail _ hz)) with e | e
      · subst e; have := hS1 z hz; rw [lessC_irr] at this; cases this
      · exact e
    · intro hz
      rcases List.mem_cons.1 ((h z).2 (.tail _ hz)) with e | e
      · subst e; have := hT1 z hz; rw [lessC_irr] at this; cases this
      · exact e
def encC (x : ChT) : List Value := [.int .i64 x.1, .int .i64 x.2.1, .int .i64 x.2.2]
theorem ltOf_Ch : ltOf cmpCh = lessC := by funext x y; exact cmpCh_lt x y
theorem choicesLess (x y : ChT) : Pure Try.prog 87 [.ag (nodeC x), .ag (nodeC y)] (.v (.int .i64 (cmpCh x y))) := by
  have c1 := compareIntA x.1 y.1
  have c2 := compareIntA x.2.1 y.2.1
  have c3 := compareIntA x.2.2 y.2.2
  have co := orIntsA [cmpA x.1 y.1, cmpA x.2.1 y.2.1, cmpA x.2.2 y.2.2] (by simp)
  obtain ⟨a, b, c⟩ := x
  obtain ⟨a', b', c'⟩ := y
  unfold cmpCh
  dsimp only at c1 c2 c3 co ⊢
  generalize cmpA a a' = k1 at c1 co ⊢
  generalize cmpA b b' = k2 at c2 co ⊢
  generalize cmpA c c' = k3 at c3 co ⊢
  refine Pure.mk (rs := [.tmp 4]) (nt := 22) Try.func87 (by kernel_rfl) rfl rfl rfl (by simp) ?_
  simp only [sl, nodeC]
  refine wkdsc (@nodeC.eq_1) _ ?_
  refine Holds.anx [] [2015] (fun n => true) mixed ?_ ?_ ?_; (· kernel_rfl); (· kernel_rfl)
  refine wkdasc (@nodeC.eq_1) _ ?_
  first | refine GS.cc (c1) rfl rfl rfl rfl (by simp [go_sem, List.take_of_length_le] <;> with_reducible rfl) rfl (by simp [go_sem, List.take_of_length_le]) ?_ | refine Gd.cc (c1) rfl rfl rfl rfl (by simp [go_sem, List.take_of_length_le] <;> with_reducible rfl) rfl (by simp [go_sem, List.take_of_length_le]) ?_ | refine Gx.cc (c1) rfl rfl rfl rfl rfl (by simp [go_sem, List.take_of_length_le] <;> with_reducible rfl) rfl (by simp [go_sem, List.take_of_length_le]) ?_ | refine Gx.cch (c1) rfl rfl rfl rfl rfl (by simp [go_sem, List.take_of_length_le] <;> with_reducible rfl) rfl (by simp [go_sem, List.take_of_length_le]) ?_
  refine wkdasc (@nodeC.eq_1) _ ?_
  first | refine GS.cc (c2) rfl rfl rfl rfl (by simp [go_sem, List.take_of_length_le] <;> with_reducible rfl) rfl (by simp [go_sem, List.take_of_length_le]) ?_ | refine Gd.cc (c2) rfl rfl rfl rfl (by simp [go_sem, List.take_of_length_le] <;> with_reducible rfl) rfl (by simp [go_sem, List.take_of_length_le]) ?_ | refine Gx.cc (c2) rfl rfl rfl rfl rfl (by simp [go_sem, List.take_of_length_le] <;> with_reducible rfl) rfl (by simp [go_sem, List.take_of_length_le]) ?_ | refine Gx.cch (c2) rfl rfl rfl rfl rfl (by simp [go_sem, List.take_of_length_le] <;> with_reducible rfl) rfl (by simp [go_sem, List.take_of_length_le]) ?_
  refine wkdasc (@nodeC.eq_1) _ ?_
  first | refine GS.cc (c3) rfl rfl rfl rfl (by simp [go_sem, List.take_of_length_le] <;> with_reducible rfl) rfl (by simp [go_sem, List.take_of_length_le]) ?_ | refine Gd.cc (c3) rfl rfl rfl rfl (by simp [go_sem, List.take_of_length_le] <;> with_reducible rfl) rfl (by simp [go_sem, List.take_of_length_le]) ?_ | refine Gx.cc (c3) rfl rfl rfl rfl rfl (by simp [go_sem, List.take_of_length_le] <;> with_reducible rfl) rfl (by simp [go_sem, List.take_of_length_le]) ?_ | refine Gx.cch (c3) rfl rfl rfl rfl rfl (by simp [go_sem, List.take_of_length_le] <;> with_reducible rfl) rfl (by simp [go_sem, List.take_of_length_le]) ?_
  refine wkdasc (@nodeC.eq_1) _ ?_
  refine Gx.bs (sz := 1) (e := 3) (rows := ints [k1, k2, k3]) [(9, .v (.int .i64 k1)), (14, .v (.int .i64 k2)), (19, .v (.int .i64 k3))] rfl rfl rfl rfl rfl (by simp [go_sem, List.take_of_length_le, Op.operands, cl, cl1, ints]) (by simp [go_sem, List.take_of_length_le, Op.operands, cl, cl1, ints]) (by simp [go_sem, List.take_of_length_le, Op.operands, cl, cl1, ints]) ?_
  refine wkdasc (@ints.eq_1) _ ?_
  first | refine GS.cc (co) rfl rfl rfl rfl (by simp [go_sem, List.take_of_length_le] <;> with_reducible rfl) rfl (by simp [go_sem, List.take_of_length_le]) ?_ | refine Gd.cc (co) rfl rfl rfl rfl (by simp [go_sem, List.take_of_length_le] <;> with_reducible rfl) rfl (by simp [go_sem, List.take_of_length_le]) ?_ | refine Gx.cc (co) rfl rfl rfl rfl rfl (by simp [go_sem, List.take_of_length_le] <;> with_reducible rfl) rfl (by simp [go_sem, List.take_of_length_le]) ?_ | refine Gx.cch (co) rfl rfl rfl rfl rfl (by simp [go_sem, List.take_of_length_le] <;> with_reducible rfl) rfl (by simp [go_sem, List.take_of_length_le]) ?_
  refine wkdasc0 _ ?_
  refine Out.mk (xs := ?_) ?_ ?_ (by first | exact .inr rfl | exact .inl rfl)
  rotate_left
  · simp [go_sem, List.take_of_length_le] <;> with_reducible rfl
  exact .v _
theorem sortChoices (xs : List ChT) (hx : xs.length < 4611686018427387904) : Fn Try.prog 86 1 [.own 0 3 0 xs.length, .fn 87 []] [(0, ⟨85, 3, nodes xs⟩)] (.tu []) 1 [(0, ⟨85, 3, nodes (sortCh xs)⟩)] := by
  have h := sortFuncK (P := Try.prog) (ρ := sortFC_ren) sortFC ⟨_, Try.func86, by kernel_rfl, by kernel_rfl⟩ 3 Try.isAgg85 Try.sizeOf85 encC (fun _ => rfl)
    (fun x v hv => by simp [encC] at hv; rcases hv with rfl | rfl | rfl <;> rfl) cmpCh (by
      rw [ltOf_Ch]
      exact ⟨lessC_irr, fun x y z h1 h2 => lessC_trans h1 h2, fun x y z h1 h2 => lessC_ntrans h1 h2⟩) (by rw [ltOf_Ch]; exact fun x y h1 h2 => lessC_eq h1 h2) 87 (fun x y => choicesLess x y) 85 xs hx
  have e1 : ∀ ys : List ChT, rowsK encC ys = nodes ys := fun ys => rfl
  have e2 : sortedBy cmpCh xs = sortCh xs := by unfold sortedBy sortCh; rw [ltOf_Ch]
  rw [e2, e1, e1] at h
  exact h
end Go.Proofs.Ytenienncgjanpaa.En
end
section
namespace Go.Proofs.Ytenienncgjanpaa.En
open Go.RowKit
set_option linter.unusedSimpArgs false
set_option linter.unusedVariables false
set_option maxHeartbeats 4000000
noncomputable def isC (g : GrammarT) (r : RuleT) (t : Int) : Bool := begS g r.2 t || (nullS g r.2 && followS g (r.1, t))
def okC (g : GrammarT) (c : ChT) : Prop := ∃ (i : Nat) (r : RuleT), c.2.2 = (i : Int) ∧ g.2.2[i]? = some r ∧ c.1 = r.1 ∧ (-1 ≤ c.2.1 ∧ c.2.1 ≤ 3) ∧ isC g r c.2.1 = true
noncomputable def rowCh (g : GrammarT) (i : Nat) (r : RuleT) : List ChT := (univT.filter (isC g r)).map (fun t => (r.1, t, (i : Int))) ++ if isC g r (-1) then [(r.1, -1, (i : Int))] else []
noncomputable def chI (g : GrammarT) (k : Nat) : List ChT := (List.range k).flatMap fun i => match g.2.2[i]? with | some r => rowCh g i r | none => []
theorem chI_snoc (g : GrammarT) {k : Nat} {r : RuleT} (h : g.2.2[k]? = some r) : chI g (k + 1) = chI g k ++ rowCh g k r := by
  rw [chI, chI, List.range_succ, List.flatMap_append]
  simp [h]
theorem rowCh_mem {g : GrammarT} {i : Nat} {r : RuleT} {c : ChT} : c ∈ rowCh g i r ↔ c.1 = r.1 ∧ c.2.2 = (i : Int) ∧ (-1 ≤ c.2.1 ∧ c.2.1 ≤ 3) ∧ isC g r c.2.1 = true := by
  obtain ⟨a, t, j⟩ := c
  rw [rowCh, List.mem_append, List.mem_map]
  simp only [List.mem_filter, mem_univT]
  constructor
  · rintro (⟨u, ⟨hu, h1⟩, e⟩ | h)
    · simp only [Prod.mk.injEq] at e
      obtain ⟨rfl, rfl, rfl⟩ := e
      exact ⟨rfl, rfl, ⟨by omega, hu.2⟩, h1⟩
    · split at h
      · rename_i h1
        rw [List.mem_singleton, Prod.mk.injEq, Prod.mk.injEq] at h
        obtain ⟨rfl, rfl, rfl⟩ := h
        exact ⟨rfl, rfl, ⟨by omega, by omega⟩, h1⟩
      · cases h
  · rintro ⟨rfl, rfl, ⟨h1, h2⟩, h3⟩
    by_cases e : t = -1
    · subst e
      right
      rw [if_pos h3]; exact .head _
    · left
      exact ⟨t, ⟨⟨by omega, h2⟩, h3⟩, rfl⟩
theorem rowCh_len (g : GrammarT) (i : Nat) (r : RuleT) : (rowCh g i r).length ≤ 5 := by
  rw [rowCh, List.length_append, List.length_map]
  have := lstT_len (isC g r)
  rw [lstT] at this
  split
  · simp only [List.length_singleton]; omega
  · simp only [List.length_nil]; omega
theorem chI_len (g : GrammarT) (k : Nat) : (chI g k).length ≤ 5 * k := by
  induction k with
  | zero => simp [chI]
  | succ k ih =>
    rw [chI, List.range_succ, List.flatMap_append, List.length_append]
    have e : ((List.range k).flatMap fun i => match g.2.2[i]? with | some r => rowCh g i r | none => []) = chI g k := rfl
    rw [e]
    have : (([k] : List Nat).flatMap fun i => match g.2.2[i]? with | some r => rowCh g i r | none => []).length ≤ 5 := by
      simp only [List.flatMap_cons, List.flatMap_nil, List.append_nil]
      split
      · exact rowCh_len g k _
      · simp
    omega
theorem chI_mem {g : GrammarT} {k : Nat} {c : ChT} : c ∈ chI g k ↔ ∃ (i : Nat) (r : RuleT), i < k ∧ g.2.2[i]? = some r ∧ c ∈ rowCh g i r := by
  simp only [chI, List.mem_flatMap, List.mem_range]
  constructor
  · rintro ⟨i, hi, h⟩
    split at h
    · rename_i r hr; exact ⟨i, r, hi, hr, h⟩
    · cases h
  · rintro ⟨i, r, hi, hr, h⟩
    exact ⟨i, hi, by rw [hr]; exact h⟩
theorem chI_ok {g : GrammarT} {c : ChT} : c ∈ chI g g.2.2.length ↔ okC g c := by
  rw [chI_mem]
  constructor
  · rintro ⟨i, r, hi, hr, h⟩
    obtain ⟨h1, h2, h3, h4⟩ := rowCh_mem.1 h
    exact ⟨i, r, h2, hr, h1, h3, h4⟩
  · rintro ⟨i, r, h2, hr, h1, h3, h4⟩
    exact ⟨i, r, (List.getElem?_eq_some_iff.1 hr).1, hr, rowCh_mem.2 ⟨h1, h2, h3, h4⟩⟩
theorem univT_nodup : univT.Nodup := by decide
theorem rowCh_nodup (g : GrammarT) (i : Nat) (r : RuleT) : (rowCh g i r).Nodup := by
  rw [rowCh]
  refine List.nodup_append.2 ⟨?_, ?_, ?_⟩
  · refine List.Pairwise.map _ (fun a b h e => h ?_) (List.Pairwise.filter _ univT_nodup)
    simp only [Prod.mk.injEq] at e
    exact e.2.1
  · split
    · exact List.pairwise_singleton _ _
    · exact List.Pairwise.nil
  · intro a ha b hb e
    subst e
    obtain ⟨u, hu, rfl⟩ := List.mem_map.1 ha
    have := mem_univT.1 (List.mem_filter.1 hu).1
    split at hb
    · rw [List.mem_singleton] at hb
      simp only [Prod.mk.injEq] at hb
      omega
    · cases hb
theorem chI_nodup (g : GrammarT) : ∀ k, (chI g k).Nodup
  | 0 => List.Pairwise.nil
  | k + 1 => by
    have ih := chI_nodup g k
    cases hr : g.2.2[k]? with
    | none =>
      have : chI g (k + 1) = chI g k := by
        rw [chI, chI, List.range_succ, List.flatMap_append]
        simp [hr]
      rw [this]; exact ih
    | some r =>
      rw [chI_snoc g hr]
      refine List.nodup_append.2 ⟨ih, rowCh_nodup g k r, fun a ha b hb e => ?_⟩
      subst e
      obtain ⟨i, r', hi, _, h⟩ := chI_mem.1 ha
      have h1 := (rowCh_mem.1 h).2.1
      have h2 := (rowCh_mem.1 hb).2.1
      omega
noncomputable def choicesS (g : GrammarT) : List ChT := sortCh (chI g g.2.2.length)
theorem choicesS_sort (g : GrammarT) : SortC (choicesS g) := (sortedC (chI_nodup g _)).1
theorem choicesS_mem (g : GrammarT) (c : ChT) : c ∈ choicesS g ↔ okC g c := ((sortedC (chI_nodup g _)).2 c).trans chI_ok
theorem choicesS_len (g : GrammarT) : (choicesS g).length ≤ 5 * g.2.2.length := by
  rw [choicesS, sortCh_len]; exact chI_len g _
theorem isC_end {g : GrammarT} (hG : OkG g) {r : RuleT} (hr : r ∈ g.2.2) : isC g r (-1) = (nullS g r.2 && followS g (r.1, -1)) := by
  have hs0 := hG.s0 r hr
  have ht1 := hG.t1
  rw [isC]
  cases hb : begS g r.2 (-1) with
  | false => rw [Bool.false_or]
  | true => have := begS_univ hG (l := r.2) (fun x hx => by have := hs0 x hx; omega) hb; omega
theorem rowCh_step (g : GrammarT) (k : Nat) (r : RuleT) {i : Nat} (h : i < 4) : ((univT.take (i + 1)).filter (isC g r)).map (fun t => (r.1, t, (k : Int))) = ((univT.take i).filter (isC g r)).map (fun t => (r.1, t, (k : Int))) ++ if isC g r i then [(r.1, (i : Int), (k : Int))] else [] := by
  rw [lstT_snoc _ h, List.map_append]
  split <;> rfl
@[simp] theorem nfr_nodesA (l : List Node3) : nfr (nodes l) := fun row hr x hx => by
  simp only [nodes, List.mem_map] at hr
  obtain ⟨c, _, rfl⟩ := hr
  simp only [nodeC, List.mem_cons, List.not_mem_nil, or_false] at hx
  rcases hx with rfl | rfl | rfl <;> rfl
theorem nodes_snocA (l : List Node3) (a b c : Int) : nodes l ++ [[.v (.int .i64 a), .v (.int .i64 b), .v (.int .i64 c)]] = nodes (l ++ [(a, b, c)]) := by simp [nodes, nodeC]
theorem choicesG (g : GrammarT) (hG : OkG g) : Fn Try.prog 54 0 [.ag (grammarC g)] [] (.own 0 3 0 (choicesS g).length) 1 [(0, ⟨85, 3, nodes (choicesS g)⟩)] := by
  have ch := headsG g hG
  have hlen := hG.len
  have hn1 := hG.n1
  refine Fn.mk (rs := [.tmp 2]) (nt := 78) Try.func54 (by kernel_rfl) rfl rfl rfl (by simp) ?_
  simp only [sl, grammarC]
  refine wkdc (@grammarC.eq_1) _ ?_
  refine GS.fnn [] (ch) rfl rfl rfl rfl (by simp [go_sem, List.take_of_length_le, ren, ren1, ren2, okr, okr1, okr2, ChkN, BlkN, List.range_succ, nf, grammarC] <;> with_reducible rfl) (by simp [go_sem, List.take_of_length_le, ren, ren1, ren2, okr, okr1, okr2, ChkN, BlkN, List.range_succ, nf, grammarC]) (by simp [go_sem, List.take_of_length_le, ren, ren1, ren2, okr, okr1, okr2, ChkN, BlkN, List.range_succ, nf, grammarC]) (by simp [List.range_succ, lb]) (ChkN.toB (by simp [go_sem, List.take_of_length_le, ren, ren1, ren2, okr, okr1, okr2, ChkN, BlkN, List.range_succ, nf, grammarC])) (by decide) (by simp) rfl (.nfr (by simp) .nil) (by simp [go_sem, List.take_of_length_le, ren, ren1, ren2, okr, okr1, okr2, ChkN, BlkN, List.range_succ, nf, grammarC] <;> with_reducible rfl) ?_
  refine wkdc (@grammarC.eq_1) _ ?_
  obtain ⟨H, hH⟩ : ∃ H, H = headH (madeS g true) (madeS g false) (firstS g) (followS g) := ⟨_, rfl⟩
  rw [← hH]
  refine Holds.loop (ι := Nat) (fun k => ⟨[(1, .pb 0 3 0 0), (3, .pb 1 66 0 0), (4, .own 2 3 0 (chI g k).length), (14, .im 2 (rules g.2.2)), (15, .v (.int .i64 g.2.2.length)), (16, .v (.int .i64 k))], [(2, ⟨85, 3, nodes (chI g k)⟩), (1, ⟨78, 66, [boxH H]⟩), (0, ⟨31, 3, [grammarC g]⟩)], 3⟩)
    (fun k => k ≤ g.2.2.length) (fun k => g.2.2.length - k) 0 (Nat.zero_le _) ?_ ?_
  · have h0 : chI g 0 = [] := rfl
    rw [h0]
    exact Cov.ofn (id) rfl (by simp [go_sem, List.take_of_length_le, ren, ren1, ren2, okr, okr1, okr2, ChkT, ChkN, BlkN, nf, grammarC, nodes]) (by simp [go_sem, List.take_of_length_le, ren, ren1, ren2, okr, okr1, okr2, ChkT, ChkN, BlkN, nf, grammarC, nodes])
  intro k hk
  have stepk : wr64 ((k : Int) + 1) = ((k + 1 : Nat) : Int) := wr64_id (by omega) (by omega)
  have hcl := chI_len g k
  refine wkdc0 _ ?_
  refine Holds.cond rfl (fun h => ?_) (fun h => ?_)
  · have hlt : k < g.2.2.length := by simp at h; omega
    have hrk : g.2.2[k]? = some g.2.2[k] := List.getElem?_eq_getElem hlt
    have hmem := List.getElem_mem hlt
    generalize g.2.2[k] = r at hrk hmem
    have hr0 := hG.l0 r hmem
    have hr1 := hG.l1 r hmem
    have hr4 := hG.r4 r hmem
    have hs0 := hG.s0 r hmem
    have hs1 := hG.s1 r hmem
    have ht1 := hG.t1
    have hsn := chI_snoc g hrk
    obtain ⟨n, hn⟩ : ∃ n : Nat, r.1 = (n : Int) := ⟨r.1.toNat, by omega⟩
    have hn6 : n < 6 := by omega
    have cof := ofG g (firstS g) (followS g) r.2 hr4 (fun x hx => by have := hs1 x hx; omega) (fun x hx => by have := hs0 x hx; omega)
    change Pure _ _ _ (.tu [.ag (cellsT (begS g r.2)), _]) at cof
    rw [← hH] at cof
    have hend := isC_end hG hmem
    have hat4 : ∀ i : Nat, i < 4 → (boxH H)[36 + n * 4 + i]? = some (.v (.bool (followS g ((n : Int), (i : Int))))) := fun i hi => by
      rw [boxH_at H (by omega), hH, headH_W _ _ _ _ hn6 hi]
    have hatl : (boxH H)[60 + n]? = some (.v (.bool (followS g ((n : Int), -1)))) := by
      rw [boxH_at H (by omega), hH, headH_L _ _ _ _ hn6]
    obtain ⟨S, hS⟩ : ∃ S, S = begS g r.2 := ⟨_, rfl⟩
    obtain ⟨e0, hE⟩ : ∃ e0, e0 = nullS g r.2 := ⟨_, rfl⟩
    have hisC : ∀ t, isC g r t = (S t || (e0 && followS g ((n : Int), t))) := fun t => by rw [isC, hS, hE, hn]
    rw [← hS, ← hE] at cof
    refine wkdc (And.intro (@get_E _ _ _ _ hrk) (And.intro @hrk (And.intro @hlt (@ruleC.eq_1)))) _ ?_
    first | refine GS.cd (cof) rfl rfl rfl rfl (by simp [go_sem, List.take_of_length_le] <;> with_reducible rfl) rfl (by exact .cons (Fz.box rfl rfl rfl (boxH_clA _)) (.cons (.im _ _) .nil)) rfl ?_ | refine Gd.cd (cof) rfl rfl rfl rfl (by simp [go_sem, List.take_of_length_le] <;> with_reducible rfl) rfl (by exact .cons (Fz.box rfl rfl rfl (boxH_clA _)) (.cons (.im _ _) .nil)) rfl ?_
    refine wkdc (@cellsT.eq_1) _ ?_
    obtain ⟨P, hP⟩ : ∃ P : Nat → List ChT, P = fun i => ((univT.take i).filter (isC g r)).map (fun t => (r.1, t, (k : Int))) := ⟨_, rfl⟩
    have hPl : ∀ i, i ≤ 4 → (P i).length ≤ 4 := fun i hi => by
      rw [hP]
      simp only [List.length_map]
      exact Nat.le_trans (List.length_filter_le _ _) (by simp [univT]; omega)
    have hPs : ∀ i, i < 4 → P (i + 1) = P i ++ if isC g r i then [(r.1, (i : Int), (k : Int))] else [] := fun i hi => by rw [hP]; exact rowCh_step g k r hi
    have hP0 : P 0 = [] := by rw [hP]; rfl
    have hP4 : rowCh g k r = P 4 ++ if isC g r (-1) then [(r.1, -1, (k : Int))] else [] := by rw [hP]; rfl
    generalize chI g k = L at hcl hsn ⊢
    refine Holds.loop (ι := Nat) (fun i => ⟨[(1, .pb 0 3 0 0), (3, .pb 1 66 0 0), (4, .own 2 3 0 (L ++ P i).length), (5, .v (.int .i64 k)), (6, .pb 3 2 0 0), (7, .pb 4 4 0 0), (8, .v (.bool e0)), (14, .im 2 (rules g.2.2)), (15, .v (.int .i64 g.2.2.length)), (16, .v (.int .i64 k)), (28, .v (.int .i64 i))], [(4, ⟨63, 4, [cellsT S]⟩), (3, ⟨87, 2, [ruleC r]⟩), (2, ⟨85, 3, nodes (L ++ P i)⟩), (1, ⟨78, 66, [boxH H]⟩), (0, ⟨31, 3, [grammarC g]⟩)], 5⟩)
      (fun i => i ≤ 4) (fun i => 4 - i) 0 (Nat.zero_le _) ?_ ?_
    · rw [hP0, List.append_nil]
      exact Cov.ofn (id) rfl (by simp [go_sem, List.take_of_length_le, ren, ren1, ren2, okr, okr1, okr2, ChkT, ChkN, BlkN, nf, grammarC, ruleC, cellsT]) (by simp [go_sem, List.take_of_length_le, ren, ren1, ren2, okr, okr1, okr2, ChkT, ChkN, BlkN, nf, grammarC, ruleC, cellsT])
    intro i hi
    have stepi : wr64 ((i : Int) + 1) = ((i + 1 : Nat) : Int) := wr64_id (by omega) (by omega)
    have hpl := hPl i hi
    refine wkdc0 _ ?_
    refine Holds.cond rfl (fun h => ?_) (fun h => ?_)
    · have hi4 : i < 4 := by simp at h; omega
      have hi3 : i ≤ 3 := by omega
      have hps := hPs i hi4
      have hic := hisC i
      have hSi := cellsT_at S hi4
      have hf := hat4 i hi4
      have hbb : (L.length + (P i).length + 1) * 24 ≤ 140737488355328 := by omega
      rw [hn] at hps
      generalize hQ : P i = Q at hps hpl hbb ⊢
      cases hs : S (i : Int) with
      | true =>
        rw [hs, Bool.true_or] at hic
        rw [hic, if_pos rfl] at hps
        rw [hs] at hSi
        refine wkdc (And.intro @hi4 (And.intro (@get_E _ _ _ _ hSi) (And.intro @hSi (And.intro @ruleC.eq_1 (And.intro @hn (And.intro @hbb (And.intro @hn6 (And.intro @hf (@get_E _ _ _ _ hf))))))))) _ ?_
        refine ⟨i + 1, by omega, by omega, ?_⟩
        dsimp only
        rw [stepi, hps, ← List.append_assoc]
        exact Cov.ofn (nm [0, 1, 7, 3, 4]) rfl (by simp [go_sem, List.take_of_length_le, ren, ren1, ren2, okr, okr1, okr2, ChkT, ChkN, BlkN, nf, Nat.add_assoc, grammarC, ruleC, cellsT, hn, nodes_snocA]) (by simp [go_sem, List.take_of_length_le, ren, ren1, ren2, okr, okr1, okr2, ChkT, ChkN, BlkN, nf, Nat.add_assoc, grammarC, ruleC, cellsT, hn, nodes_snocA])
      | false =>
        rw [hs, Bool.false_or] at hic
        rw [hs] at hSi
        cases he : e0 with
        | false =>
          rw [he, Bool.false_and] at hic
          rw [hic, if_neg Bool.false_ne_true] at hps
          refine wkdc (And.intro @hi4 (And.intro (@get_E _ _ _ _ hSi) (And.intro @hSi (And.intro @ruleC.eq_1 (And.intro @hn (And.intro @hbb (And.intro @hn6 (And.intro @hf (@get_E _ _ _ _ hf))))))))) _ ?_
          refine ⟨i + 1, by omega, by omega, ?_⟩
          dsimp only
          rw [stepi, hps, List.append_nil]
          exact Cov.ofn (id) rfl (by simp [go_sem, List.take_of_length_le, ren, ren1, ren2, okr, okr1, okr2, ChkT, ChkN, BlkN, nf, grammarC, ruleC, cellsT, hn]) (by simp [go_sem, List.take_of_length_le, ren, ren1, ren2, okr, okr1, okr2, ChkT, ChkN, BlkN, nf, grammarC, ruleC, cellsT, hn])
        | true =>
          rw [he, Bool.true_and] at hic
          cases hfo : followS g ((n : Int), (i : Int)) with
          | true =>
            rw [hfo] at hf hic
            rw [hic, if_pos rfl] at hps
            refine wkdc (And.intro @hi4 (And.intro (@get_E _ _ _ _ hSi) (And.intro @hSi (And.intro @ruleC.eq_1 (And.intro @hn (And.intro @hbb (And.intro @hn6 (And.intro @hf (@get_E _ _ _ _ hf))))))))) _ ?_
            refine ⟨i + 1, by omega, by omega, ?_⟩
            dsimp only
            rw [stepi, hps, ← List.append_assoc]
            exact Cov.ofn (nm [0, 1, 7, 3, 4]) rfl (by simp [go_sem, List.take_of_length_le, ren, ren1, ren2, okr, okr1, okr2, ChkT, ChkN, BlkN, nf, Nat.add_assoc, grammarC, ruleC, cellsT, hn, nodes_snocA]) (by simp [go_sem, List.take_of_length_le, ren, ren1, ren2, okr, okr1, okr2, ChkT, ChkN, BlkN, nf, Nat.add_assoc, grammarC, ruleC, cellsT, hn, nodes_snocA])
          | false =>
            rw [hfo] at hf hic
            rw [hic, if_neg Bool.false_ne_true] at hps
            refine wkdc (And.intro @hi4 (And.intro (@get_E _ _ _ _ hSi) (And.intro @hSi (And.intro @ruleC.eq_1 (And.intro @hn (And.intro @hbb (And.intro @hn6 (And.intro @hf (@get_E _ _ _ _ hf))))))))) _ ?_
            refine ⟨i + 1, by omega, by omega, ?_⟩
            dsimp only
            rw [stepi, hps, List.append_nil]
            exact Cov.ofn (id) rfl (by simp [go_sem, List.take_of_length_le, ren, ren1, ren2, okr, okr1, okr2, ChkT, ChkN, BlkN, nf, grammarC, ruleC, cellsT, hn]) (by simp [go_sem, List.take_of_length_le, ren, ren1, ren2, okr, okr1, okr2, ChkT, ChkN, BlkN, nf, grammarC, ruleC, cellsT, hn])
    · have hi4 : i = 4 := by simp at h; omega
      subst hi4
      rw [hn] at hend hP4
      rw [hP4, hend] at hsn
      generalize P 4 = Q at hpl hsn ⊢
      have hbb : (L.length + Q.length + 1) * 24 ≤ 140737488355328 := by omega
      rw [← hE] at hsn
      cases he : e0 with
      | false =>
        rw [he, Bool.false_and, if_neg Bool.false_ne_true, List.append_nil] at hsn
        refine wkdc0 _ ?_
        refine ⟨k + 1, by omega, by omega, ?_⟩
        dsimp only
        rw [stepk, hsn]
        exact Cov.ofn (id) rfl (by simp [go_sem, List.take_of_length_le, ren, ren1, ren2, okr, okr1, okr2, ChkT, ChkN, BlkN, nf, grammarC]) (by simp [go_sem, List.take_of_length_le, ren, ren1, ren2, okr, okr1, okr2, ChkT, ChkN, BlkN, nf, grammarC])
      | true =>
        rw [he, Bool.true_and] at hsn
        cases hfo : followS g ((n : Int), -1) with
        | false =>
          rw [hfo] at hatl hsn
          rw [if_neg Bool.false_ne_true, List.append_nil] at hsn
          refine wkdc (And.intro @ruleC.eq_1 (And.intro @hn (And.intro @hn6 (And.intro @hatl (@get_E _ _ _ _ hatl))))) _ ?_
          refine ⟨k + 1, by omega, by omega, ?_⟩
          dsimp only
          rw [stepk, hsn]
          exact Cov.ofn (id) rfl (by simp [go_sem, List.take_of_length_le, ren, ren1, ren2, okr, okr1, okr2, ChkT, ChkN, BlkN, nf, grammarC]) (by simp [go_sem, List.take_of_length_le, ren, ren1, ren2, okr, okr1, okr2, ChkT, ChkN, BlkN, nf, grammarC])
        | true =>
          rw [hfo] at hatl hsn
          rw [if_pos rfl, ← List.append_assoc] at hsn
          refine wkdc (And.intro @ruleC.eq_1 (And.intro @hn (And.intro @hn6 (And.intro @hatl (And.intro (@get_E _ _ _ _ hatl) (@hbb)))))) _ ?_
          refine ⟨k + 1, by omega, by omega, ?_⟩
          dsimp only
          rw [stepk, hsn]
          exact Cov.ofn (nm [0, 1, 7]) rfl (by simp [go_sem, List.take_of_length_le, ren, ren1, ren2, okr, okr1, okr2, ChkT, ChkN, BlkN, nf, Nat.add_assoc, grammarC, nodes_snocA]) (by simp [go_sem, List.take_of_length_le, ren, ren1, ren2, okr, okr1, okr2, ChkT, ChkN, BlkN, nf, Nat.add_assoc, grammarC, nodes_snocA])
  · have hke : k = g.2.2.length := by simp at h; omega
    subst hke
    have hl2 : (choicesS g).length = (chI g g.2.2.length).length := by rw [choicesS, sortCh_len]
    have cs := sortChoices (chI g g.2.2.length) (by omega)
    rw [hl2]
    show Holds _ _ _ _ _
    rw [choicesS]
    refine wkdc0 _ ?_
    refine GS.fnn [2] (cs) rfl rfl rfl rfl (by simp [go_sem, List.take_of_length_le, ren, ren1, ren2, okr, okr1, okr2, ChkN, BlkN, List.range_succ, nf] <;> with_reducible rfl) (by simp [go_sem, List.take_of_length_le, ren, ren1, ren2, okr, okr1, okr2, ChkN, BlkN, List.range_succ, nf]) (by simp [go_sem, List.take_of_length_le, ren, ren1, ren2, okr, okr1, okr2, ChkN, BlkN, List.range_succ, nf]) (by simp [List.range_succ, lb]) (ChkN.toB (by simp [go_sem, List.take_of_length_le, ren, ren1, ren2, okr, okr1, okr2, ChkN, BlkN, List.range_succ, nf])) (by decide) (by simp) rfl (.nfr (by simp) .nil) (by simp [go_sem, List.take_of_length_le, ren, ren1, ren2, okr, okr1, okr2, ChkN, BlkN, List.range_succ, nf] <;> with_reducible rfl) ?_
    refine wkdc0 _ ?_
    refine OutF.mkn (xs := ?_) (nm [2]) ?_ ?_ ?_ ?_ ?_ (by first | exact .inr rfl | exact .inl rfl)
    rotate_left
    · simp [go_sem, List.take_of_length_le] <;> with_reducible rfl
    · simp [go_sem, List.take_of_length_le, ren, ren1, ren2, okr, okr1, okr2, ChkN, BlkN, List.range_succ, nf]
    · simp [go_sem, List.take_of_length_le, ren, ren1, ren2, okr, okr1, okr2, ChkN, BlkN, List.range_succ, nf]
    · simp [go_sem, List.take_of_length_le, ren, ren1, ren2, okr, okr1, okr2, ChkN, BlkN, List.range_succ, nf]
    · rfl
end Go.Proofs.Ytenienncgjanpaa.En
end
section
namespace Go.Proofs.Ytenienncgjanpaa.En
open Go.RowKit
set_option linter.unusedSimpArgs false
set_option linter.unusedVariables false
set_option maxHeartbeats 4000000
abbrev Item3 := Int × Int × Int
def ruleN (g : GrammarT) (r : Nat) : RuleT := g.2.2.getD r (0, [])
def symAt (g : GrammarT) (x : Item3) : Option Int := (ruleN g x.1.toNat).2[x.2.1.toNat]?
inductive Ear (g : GrammarT) (w : List Int) : Nat → Nat → Nat → Nat → Prop
  | start (r : Nat) (hr : r < g.2.2.length) (hl : (ruleN g r).1 = 0) : Ear g w 0 r 0 0
  | pred (p r d f : Nat) (x : Int) (r2 : Nat) (h : Ear g w p r d f) (hx : (ruleN g r).2[d]? = some x) (hx0 : 0 ≤ x) (hr : r2 < g.2.2.length) (hl : (ruleN g r2).1 = x) : Ear g w p r2 0 p
  | comp (p r d f r2 d2 f2 : Nat) (h : Ear g w p r d f) (hd : (ruleN g r).2.length = d) (h2 : Ear g w f r2 d2 f2) (hx : (ruleN g r2).2[d2]? = some (ruleN g r).1) : Ear g w p r2 (d2 + 1) f2
  | scan (p r d f : Nat) (x : Int) (h : Ear g w p r d f) (hx : (ruleN g r).2[d]? = some x) (hx0 : x < 0) (hw : w[p]? = some (-1 - x)) : Ear g w (p + 1) r (d + 1) f
theorem Ear.bnd {g : GrammarT} {w : List Int} {p r d f : Nat} (h : Ear g w p r d f) : r < g.2.2.length ∧ d ≤ (ruleN g r).2.length ∧ f ≤ p ∧ p ≤ w.length := by
  induction h with
  | start r hr hl => exact ⟨hr, Nat.zero_le _, Nat.le_refl _, Nat.zero_le _⟩
  | pred p r d f x r2 h hx hx0 hr hl ih => exact ⟨hr, Nat.zero_le _, Nat.le_refl _, ih.2.2.2⟩
  | comp p r d f r2 d2 f2 h hd h2 hx ih ih2 => exact ⟨ih2.1, (List.getElem?_eq_some_iff.1 hx).1, Nat.le_trans ih2.2.2.1 ih.2.2.1, ih.2.2.2⟩
  | scan p r d f x h hx hx0 hw ih => exact ⟨ih.1, (List.getElem?_eq_some_iff.1 hx).1, Nat.le_succ_of_le ih.2.2.1, (List.getElem?_eq_some_iff.1 hw).1⟩
def itemN (r d f : Nat) : Item3 := ((r : Int), (d : Int), (f : Int))
def okI (g : GrammarT) (w : List Int) (p : Nat) (x : Item3) : Prop := ∃ r d f : Nat, x = itemN r d f ∧ Ear g w p r d f
abbrev Sets3 := List (List Item3)
def at3 (sets : Sets3) (p : Nat) : List Item3 := sets.getD p []
def CloP (g : GrammarT) (p : Nat) (S : List Item3) (x : Item3) : Prop := ∀ y, symAt g x = some y → 0 ≤ y → ∀ r2 : Nat, r2 < g.2.2.length → (ruleN g r2).1 = y → itemN r2 0 p ∈ S
def advI (z : Item3) : Item3 := (z.1, z.2.1 + 1, z.2.2)
def CloC (g : GrammarT) (F S : List Item3) (x : Item3) : Prop := symAt g x = none → ∀ z ∈ F, symAt g z = some (ruleN g x.1.toNat).1 → advI z ∈ S
def CloS (g : GrammarT) (w : List Int) (p : Nat) (T : List Item3) (x : Item3) : Prop := ∀ y, symAt g x = some y → y < 0 → w[p]? = some (-1 - y) → advI x ∈ T
structure Snd (g : GrammarT) (w : List Int) (sets : Sets3) : Prop where
  ln : sets.length = w.length + 1
  ok : ∀ p, ∀ x ∈ at3 sets p, okI g w p x
  nd : ∀ p, (at3 sets p).Nodup
  str : ∀ r : Nat, r < g.2.2.length → (ruleN g r).1 = 0 → itemN r 0 0 ∈ at3 sets 0
def DoneI (g : GrammarT) (w : List Int) (sets : Sets3) (k : Nat) : Prop := ∀ q, q < k → ∀ x ∈ at3 sets q, CloP g q (at3 sets q) x ∧ CloC g (at3 sets x.2.2.toNat) (at3 sets q) x ∧ CloS g w q (at3 sets (q + 1)) x
theorem at3_set {sets : Sets3} {p : Nat} (hp : p < sets.length) (S : List Item3) : at3 (sets.set p S) p = S := by simp [at3, hp]
theorem at3_ne {sets : Sets3} {p q : Nat} (h : p ≠ q) (S : List Item3) : at3 (sets.set p S) q = at3 sets q := by simp [at3, List.getD_eq_getElem?_getD, List.getElem?_set_ne h]
structure PutR (S : List Item3) (x : Item3) (S' : List Item3) : Prop where
  mem : ∀ z, z ∈ S' ↔ z = x ∨ z ∈ S
  nd : S.Nodup → S'.Nodup
  old : x ∈ S → S' = S
  new : x ∉ S → S'.length = S.length + 1
theorem Snd.put {g : GrammarT} {w : List Int} {sets : Sets3} (hs : Snd g w sets) {p : Nat} (hp : p < sets.length) {x : Item3} (hx : okI g w p x) {S' : List Item3} (h : PutR (at3 sets p) x S') : Snd g w (sets.set p S') := by
  refine ⟨by simp [hs.ln], fun q z hz => ?_, fun q => ?_, fun r hr hl => ?_⟩
  · by_cases e : p = q
    · subst e
      rw [at3_set hp] at hz
      rcases (h.mem z).1 hz with g1 | g1
      · rw [g1]; exact hx
      · exact hs.ok p z g1
    · rw [at3_ne e] at hz; exact hs.ok q z hz
  · by_cases e : p = q
    · subst e; rw [at3_set hp]; exact h.nd (hs.nd p)
    · rw [at3_ne e]; exact hs.nd q
  · by_cases e : p = 0
    · subst e; rw [at3_set hp]; exact (h.mem _).2 (.inr (hs.str r hr hl))
    · rw [at3_ne e]; exact hs.str r hr hl
theorem DoneI.put {g : GrammarT} {w : List Int} {sets : Sets3} (hs : Snd g w sets) {k p : Nat} (hd : DoneI g w sets k) (hkp : k ≤ p) (hp : p < sets.length) {x : Item3} {S' : List Item3} (h : PutR (at3 sets p) x S') : DoneI g w (sets.set p S') k := by
  intro q hq z hz
  have hqp : p ≠ q := by omega
  rw [at3_ne hqp] at hz
  obtain ⟨h1, h2, h3⟩ := hd q hq z hz
  obtain ⟨r, d, f, e, hE⟩ := hs.ok q z hz
  have hb := hE.bnd
  have hf : p ≠ z.2.2.toNat := by rw [e]; simp [itemN]; omega
  refine ⟨by rw [at3_ne hqp]; exact h1, by rw [at3_ne hqp, at3_ne hf]; exact h2, ?_⟩
  by_cases e1 : p = q + 1
  · subst e1
    rw [at3_set hp]
    exact fun y h4 h5 h6 => (h.mem _).2 (.inr (h3 y h4 h5 h6))
  · rw [at3_ne e1]; exact h3
structure PassI (g : GrammarT) (w : List Int) (p : Nat) (S0 : List Item3) (sets : Sets3) (again : Bool) (k : Nat) : Prop where
  snd : Snd g w sets
  dn : DoneI g w sets p
  le : S0.length ≤ (at3 sets p).length
  yes : again = true → S0.length < (at3 sets p).length
  no : again = false → at3 sets p = S0 ∧ ∀ (i : Nat) (x : Item3), i < k → S0[i]? = some x → CloP g p S0 x ∧ CloC g (at3 sets x.2.2.toNat) S0 x
theorem PassI.put {g : GrammarT} {w : List Int} {p : Nat} {S0 : List Item3} {sets : Sets3} {again : Bool} {k : Nat} (h : PassI g w p S0 sets again k) (hp : p < sets.length) {x : Item3} (hx : okI g w p x) {S' : List Item3} (hr : PutR (at3 sets p) x S') : PassI g w p S0 (sets.set p S') (again || decide (x ∉ at3 sets p)) k := by
  by_cases hm : x ∈ at3 sets p
  · have e1 := hr.old hm
    have e2 : sets.set p S' = sets := by
      rw [e1]
      refine List.ext_getElem? fun i => ?_
      by_cases hi : p = i
      · subst hi; rw [List.getElem?_set_self hp, at3, List.getD_eq_getElem?_getD, List.getElem?_eq_getElem hp]; rfl
      · rw [List.getElem?_set_ne hi]
    rw [e2]
    simpa [hm] using h
  · have hl := hr.new hm
    refine ⟨h.snd.put hp hx hr, h.dn.put h.snd (Nat.le_refl _) hp hr, ?_, fun _ => ?_, fun e => ?_⟩
    · rw [at3_set hp, hl]; have := h.le; omega
    · rw [at3_set hp, hl]; have := h.le; omega
    · simp [hm] at e
theorem PassI.next {g : GrammarT} {w : List Int} {p : Nat} {S0 : List Item3} {sets : Sets3} {again : Bool} {k : Nat} (h : PassI g w p S0 sets again k) (hc : ∀ x, again = false → S0[k]? = some x → CloP g p S0 x ∧ CloC g (at3 sets x.2.2.toNat) S0 x) : PassI g w p S0 sets again (k + 1) := by
  refine ⟨h.snd, h.dn, h.le, h.yes, fun e => ⟨(h.no e).1, fun i x hi hx => ?_⟩⟩
  by_cases hik : i = k
  · subst hik; exact hc x e hx
  · exact (h.no e).2 i x (by omega) hx
theorem PassI.again {g : GrammarT} {w : List Int} {p : Nat} {S0 : List Item3} {sets : Sets3} {again : Bool} {k : Nat} (h : PassI g w p S0 sets again k) : PassI g w p (at3 sets p) sets false 0 :=
  ⟨h.snd, h.dn, Nat.le_refl _, fun e => (by cases e), fun _ => ⟨rfl, fun i x hi => absurd hi (Nat.not_lt_zero i)⟩⟩
theorem DoneI.next {g : GrammarT} {w : List Int} {p : Nat} {sets : Sets3} (h : DoneI g w sets p) (hc : ∀ x ∈ at3 sets p, CloP g p (at3 sets p) x ∧ CloC g (at3 sets x.2.2.toNat) (at3 sets p) x) (hs : ∀ x ∈ at3 sets p, CloS g w p (at3 sets (p + 1)) x) : DoneI g w sets (p + 1) := by
  intro q hq x hx
  by_cases e : q = p
  · subst e; exact ⟨(hc x hx).1, (hc x hx).2, hs x hx⟩
  · exact h q (by omega) x hx
end Go.Proofs.Ytenienncgjanpaa.En
end
section
namespace Go.Proofs.Ytenienncgjanpaa.En
open Go.RowKit
set_option linter.unusedSimpArgs false
set_option linter.unusedVariables false
@[simp] theorem nfr_nodes (l : List Node3) : nfr (nodes l) := nfr_of_ok (nodes_ok l)
@[simp] theorem nfr_edges (l : List Edge3) : nfr (edges l) := nfr_of_ok (edges_ok l)
end Go.Proofs.Ytenienncgjanpaa.En
end
section
namespace Go.Proofs.Ytenienncgjanpaa.En
open Go.RowKit
set_option linter.unusedSimpArgs false
set_option linter.unusedVariables false
set_option maxHeartbeats 4000000
@[simp] theorem onyR_nodes (l : List (Node3)) : onyR (nodes l) := fun row hr x hx => by
  have := nodes_ok l row hr x hx
  simp only [nodes, List.mem_map] at hr
  obtain ⟨n, _, rfl⟩ := hr
  simp only [nodeC, List.mem_cons, List.not_mem_nil, or_false] at hx
  rcases hx with rfl | rfl | rfl <;> simp
def edgeO (x : Edge3) : List AV := [.v (.int .i64 x.1), .v (.int .i64 x.2.1), .ow 3 1 (ints x.2.2)]
def edgesO (l : List Edge3) : List (List AV) := l.map edgeO
@[simp] theorem edgesO_len (l : List (Edge3)) : (edgesO l).length = l.length := by simp [edgesO]
@[simp] theorem edgesO_get (l : List (Edge3)) (i : Nat) : (edgesO l)[i]? = (l[i]?).map edgeO := by simp [edgesO]
@[simp] theorem edgesO_gE (l : List (Edge3)) (i : Nat) (h : i < (edgesO l).length) : (edgesO l)[i] = edgeO (l[i]'(by simpa using h)) := by simp [edgesO]
theorem edgesO_all (p : AV → Prop) (l : List (Edge3)) (h : ∀ x ∈ l, ∀ y ∈ edgeO x, p y) : ∀ row ∈ edgesO l, ∀ y ∈ row, p y := by
  intro row hr y hy
  simp only [edgesO, List.mem_map] at hr
  obtain ⟨n, hn, rfl⟩ := hr
  exact h n hn y hy
@[simp] theorem nfr_edgesO (l : List (Edge3)) : nfr (edgesO l) := edgesO_all _ l fun x _ y hy => by simp only [edgeO, List.mem_cons, List.not_mem_nil, or_false] at hy; rcases hy with rfl | rfl | rfl <;> rfl
@[simp] theorem onyR_edgesO (l : List (Edge3)) : onyR (edgesO l) := edgesO_all _ l fun x _ y hy => by simp only [edgeO, List.mem_cons, List.not_mem_nil, or_false] at hy; rcases hy with rfl | rfl | rfl <;> simp
end Go.Proofs.Ytenienncgjanpaa.En
end
section
namespace Go.Proofs.Ytenienncgjanpaa.En
open Go.RowKit
set_option linter.unusedSimpArgs false
set_option linter.unusedVariables false
set_option maxHeartbeats 4000000
end Go.Proofs.Ytenienncgjanpaa.En
end
section
namespace Go.Proofs.Ytenienncgjanpaa.En
open Go.RowKit
set_option linter.unusedSimpArgs false
set_option linter.unusedVariables false
set_option maxHeartbeats 8000000
end Go.Proofs.Ytenienncgjanpaa.En
end
section
namespace Go.Proofs.Ytenienncgjanpaa.En
open Go.RowKit
set_option linter.unusedSimpArgs false
set_option linter.unusedVariables false
set_option maxHeartbeats 8000000
/-! #### walks -/
end Go.Proofs.Ytenienncgjanpaa.En
end
section
namespace Go.Proofs.Ytenienncgjanpaa.En
open Go.RowKit
set_option linter.unusedSimpArgs false
set_option linter.unusedVariables false
set_option maxHeartbeats 8000000
def itemssC (s : List Item3) : List AV := [.im 3 (nodes s)]
def itemss (sets : Sets3) : List (List AV) := sets.map itemssC
@[simp] theorem itemss_len (xs : Sets3) : (itemss xs).length = xs.length := by simp [itemss]
@[simp] theorem itemss_get (xs : Sets3) (i : Nat) : (itemss xs)[i]? = (xs[i]?).map itemssC := by simp [itemss]
@[simp] theorem itemss_gE (xs : Sets3) (i : Nat) (h : i < (itemss xs).length) : (itemss xs)[i] = itemssC (xs[i]'(by simpa using h)) := by simp [itemss]
theorem itemss_ok (xs : Sets3) : rowsOk (itemss xs) := by
  intro row hr x hx
  simp only [itemss, List.mem_map] at hr
  obtain ⟨s, _, rfl⟩ := hr
  simp only [itemssC, List.mem_singleton] at hx
  subst hx; rfl
@[simp] theorem nfr_itemss (xs : Sets3) : nfr (itemss xs) := nfr_of_ok (itemss_ok xs)
def rulesOf (g : GrammarT) (non : Int) : List Int := idxs (fun r : RuleT => r.1 == non) 0 g.2.2
theorem l1Rules (g : GrammarT) (non : Int) (hg : g.2.2.length ≤ 16) : Pure Try.prog 83 [.ag (grammarC g), .v (.int .i64 non)] (.im 1 (ints (rulesOf g non))) := by
  refine Pure.mk (rs := [.tmp 4]) (nt := 26) Try.func83 (by kernel_rfl) rfl rfl rfl (by simp) ?_
  simp only [sl, grammarC]
  refine wkc0 _ ?_
  refine Holds.niw 5 3 1 rfl ?_
  refine Holds.loop (ι := Nat) (fun i => ⟨[(1, .v (.int .i64 non)), (5, .own 1 1 0 (idxs (fun r : RuleT => r.1 == non) 0 (g.2.2.take i)).length), (9, .im 2 (rules g.2.2)), (10, .v (.int .i64 g.2.2.length)), (11, .v (.int .i64 i))], [(1, ⟨3, 1, ints (idxs (fun r : RuleT => r.1 == non) 0 (g.2.2.take i))⟩), (0, ⟨31, 3, [grammarC g]⟩)], 2⟩)
    (fun i => i ≤ g.2.2.length) (fun i => g.2.2.length - i) 0 (Nat.zero_le _) ?_ ?_
  · exact Cov.ofn (id) rfl (by simp [go_sem, List.take_of_length_le, ren, ren1, ren2, okr, okr1, okr2, ChkT, ChkN, BlkN, nf, niw, grammarC, idxs, show ints [] = [] from rfl]) (by simp [go_sem, List.take_of_length_le, ren, ren1, ren2, okr, okr1, okr2, ChkT, ChkN, BlkN, nf, niw, grammarC, idxs, show ints [] = [] from rfl])
  intro i hi
  have stepi : wr64 ((i : Int) + 1) = ((i + 1 : Nat) : Int) := wr64_id (by omega) (by omega)
  have hil : (idxs (fun r : RuleT => r.1 == non) 0 (g.2.2.take i)).length ≤ 16 := by have := idxs_len (fun r : RuleT => r.1 == non) (g.2.2.take i) 0; rw [List.length_take] at this; omega
  refine wkc0 _ ?_
  refine Holds.cond rfl (fun h => ?_) (fun h => ?_)
  · have hlt : i < g.2.2.length := by simp at h; omega
    have hxi : g.2.2[i]? = some g.2.2[i] := List.getElem?_eq_getElem hlt
    generalize g.2.2[i] = r at hxi
    have hnx := idxs_next (fun r : RuleT => r.1 == non) hxi
    generalize idxs (fun r : RuleT => r.1 == non) 0 (g.2.2.take i) = L at hnx hil ⊢
    have hb : (L.length + 1) * 8 ≤ 140737488355328 := by omega
    cases he : (r.1 == non) with
    | true =>
      rw [he, if_pos rfl] at hnx
      refine wkc (And.intro (@get_E _ _ _ _ hxi) (And.intro @hxi (And.intro @hlt (And.intro @ruleC.eq_1 (And.intro @he (@hb)))))) _ ?_
      refine ⟨i + 1, by omega, by omega, ?_⟩
      rw [stepi, hnx]
      exact Cov.ofn (nm [0, 5]) rfl (by simp [go_sem, List.take_of_length_le, ren, ren1, ren2, okr, okr1, okr2, ChkT, ChkN, BlkN, nf, grammarC, ints_snoc]) (by simp [go_sem, List.take_of_length_le, ren, ren1, ren2, okr, okr1, okr2, ChkT, ChkN, BlkN, nf, grammarC, ints_snoc])
    | false =>
      rw [he, if_neg (by simp)] at hnx
      rw [List.append_nil] at hnx
      refine wkc (And.intro (@get_E _ _ _ _ hxi) (And.intro @hxi (And.intro @hlt (And.intro @ruleC.eq_1 (@he))))) _ ?_
      refine ⟨i + 1, by omega, by omega, ?_⟩
      rw [stepi, hnx]
      exact Cov.ofn (id) rfl (by simp [go_sem, List.take_of_length_le, ren, ren1, ren2, okr, okr1, okr2, ChkT, ChkN, BlkN, nf, grammarC]) (by simp [go_sem, List.take_of_length_le, ren, ren1, ren2, okr, okr1, okr2, ChkT, ChkN, BlkN, nf, grammarC])
  · have hle : i = g.2.2.length := by simp at h; omega
    subst hle
    rw [List.take_length]
    refine wkc0 _ ?_
    refine Out.mk (xs := ?_) ?_ ?_ (by first | exact .inr rfl | exact .inl rfl)
    rotate_left
    · simp [go_sem, List.take_of_length_le] <;> with_reducible rfl
    exact Fz.all rfl rfl (by simp [rulesOf]) rfl (ints_cl _)
def advL (l : List Item3) : List Item3 := l.map advI
@[simp] theorem advL_len (l : List Item3) : (advL l).length = l.length := by simp [advL]
theorem rulesOf_len (g : GrammarT) (non : Int) : (rulesOf g non).length ≤ g.2.2.length := idxs_len _ _ _
end Go.Proofs.Ytenienncgjanpaa.En
end
section
namespace Go.Proofs.Ytenienncgjanpaa.En
open Go.RowKit
set_option linter.unusedSimpArgs false
set_option linter.unusedVariables false
set_option maxHeartbeats 4000000
theorem idxs_iffA {α : Type} (q : α → Bool) : ∀ (xs : List α) (k : Nat) (z : Int), z ∈ idxs q k xs ↔ ∃ (j : Nat) (x : α), z = ((k + j : Nat) : Int) ∧ xs[j]? = some x ∧ q x = true
  | [], k, z => by simp [idxs]
  | x :: xs, k, z => by
    have ih := idxs_iffA q xs (k + 1) z
    unfold idxs
    constructor
    · intro h
      by_cases hq : q x = true
      · rw [if_pos hq] at h
        rcases List.mem_cons.1 h with e | e
        · exact ⟨0, x, by simpa using e, rfl, hq⟩
        · obtain ⟨j, y, e1, e2, e3⟩ := ih.1 e
          exact ⟨j + 1, y, by rw [e1]; congr 1; omega, by simpa using e2, e3⟩
      · rw [if_neg hq] at h
        obtain ⟨j, y, e1, e2, e3⟩ := ih.1 h
        exact ⟨j + 1, y, by rw [e1]; congr 1; omega, by simpa using e2, e3⟩
    · rintro ⟨j, y, e1, e2, e3⟩
      cases j with
      | zero =>
        simp only [List.getElem?_cons_zero, Option.some.injEq] at e2
        subst e2
        rw [if_pos e3]
        exact List.mem_cons.2 (.inl (by simpa using e1))
      | succ j =>
        have hm : z ∈ idxs q (k + 1) xs := ih.2 ⟨j, y, by rw [e1]; congr 1; omega, by simpa using e2, e3⟩
        split
        · exact List.mem_cons.2 (.inr hm)
        · exact hm
theorem idxs_ge {α : Type} (p : α → Bool) : ∀ (xs : List α) (k : Nat), ∀ z ∈ idxs p k xs, (k : Int) ≤ z := fun xs k z hz => by
  obtain ⟨j, x, rfl, _⟩ := (idxs_iffA p xs k z).1 hz
  omega
theorem idxs_incr {α : Type} (p : α → Bool) : ∀ (xs : List α) (k : Nat), (idxs p k xs).Pairwise (· < ·)
  | [], k => by simp [idxs]
  | x :: xs, k => by
    have ih := idxs_incr p xs (k + 1)
    have hg := idxs_ge p xs (k + 1)
    unfold idxs
    split
    · exact List.pairwise_cons.2 ⟨fun z hz => by have := hg z hz; omega, ih⟩
    · exact ih
theorem rulesOf_iff {g : GrammarT} {non z : Int} : z ∈ rulesOf g non ↔ ∃ (i : Nat) (r : RuleT), z = (i : Int) ∧ g.2.2[i]? = some r ∧ r.1 = non := by
  rw [rulesOf, idxs_iffA]
  constructor
  · rintro ⟨j, x, h1, h2, h3⟩
    exact ⟨j, x, by omega, h2, by simpa using h3⟩
  · rintro ⟨j, x, h1, h2, h3⟩
    exact ⟨j, x, by omega, h2, by simpa using h3⟩
theorem begT_tok {nu : Int → Bool} {F : Int × Int → Bool} {T : Int} (hF : ∀ p, F p = true → p.2 < T) : ∀ (l : List Int), (∀ x ∈ l, -T ≤ x) → ∀ t, begT nu F l t = true → t < T
  | [], _, t, h => by cases h
  | x :: xs, hl, t, h => by
    rw [begT_cons] at h
    simp only [Bool.or_eq_true, Bool.and_eq_true, headT] at h
    rcases h with h | ⟨_, h⟩
    · split at h <;> rename_i hx
      · have := of_decide_eq_true h
        have := hl x (.head _)
        omega
      · exact hF (x, t) h
    · exact begT_tok hF xs (fun y hy => hl y (.tail _ hy)) t h
theorem firstS_tok {g : GrammarT} (hG : OkG g) {p : Int × Int} (hp : firstS g p = true) : p.2 < g.2.1 := by
  have := lfpI_low (impsB g g.2.2) (fun p => decide (p.2 < g.2.1)) (fun q hq h => by
    obtain ⟨r, hr, t, ht, rfl⟩ := impsB_inv hq
    have h : (okM true (madeS g true) r.2 && begT (madeS g false) (fun p => decide (p.2 < g.2.1)) r.2 t) = true := h
    rw [Bool.and_eq_true] at h
    exact decide_eq_true (begT_tok (T := g.2.1) (fun p hp => of_decide_eq_true hp) r.2 (hG.s0 r hr) t h.2)) p hp
  exact of_decide_eq_true this
theorem begS_tok {g : GrammarT} (hG : OkG g) {l : List Int} (hl : ∀ x ∈ l, -g.2.1 ≤ x) {t : Int} (h : begS g l t = true) : t < g.2.1 := by
  simp only [begS, Bool.and_eq_true] at h
  exact begT_tok (fun p hp => firstS_tok hG hp) l hl t h.2
theorem followS_tok {g : GrammarT} (hG : OkG g) {p : Int × Int} (hp : followS g p = true) : p.2 < g.2.1 := by
  have ht0 := hG.t0
  have := lfpI_low (impsW g) (fun p => decide (p.2 < g.2.1)) (fun q hq h => by
    rcases List.mem_cons.1 hq with e | e
    · subst e; exact decide_eq_true (by show (-1 : Int) < g.2.1; omega)
    · obtain ⟨r, hr, h3⟩ := List.mem_flatMap.1 e
      obtain ⟨a, _, h4⟩ := List.mem_flatMap.1 h3
      simp only [impsWr] at h4
      split at h4
      · split at h4
        · cases h4
        · obtain ⟨t, ht, rfl⟩ := List.mem_map.1 h4
          have h : (begS g (r.2.drop (a + 1)) t || (nullS g (r.2.drop (a + 1)) && decide (t < g.2.1))) = true := h
          rw [Bool.or_eq_true, Bool.and_eq_true] at h
          rcases h with h | h
          · exact decide_eq_true (begS_tok hG (fun x hx => hG.s0 r hr x (List.mem_of_mem_drop hx)) h)
          · exact h.2
      · cases h4) p hp
  exact of_decide_eq_true this
theorem okC_rng {g : GrammarT} (hG : OkG g) {c : ChT} (h : okC g c) : (0 ≤ c.1 ∧ c.1 < g.1) ∧ -1 ≤ c.2.1 ∧ c.2.1 < g.2.1 := by
  obtain ⟨i, r, _, hr, h1, h2, h3⟩ := h
  have hm := List.mem_of_getElem? hr
  have h4 := hG.l0 r hm
  have h5 := hG.l1 r hm
  refine ⟨by omega, h2.1, ?_⟩
  rw [isC, Bool.or_eq_true, Bool.and_eq_true] at h3
  rcases h3 with h3 | h3
  · exact begS_tok hG (hG.s0 r hm) h3
  · exact followS_tok hG h3.2
theorem lstT_hasL {S : Int → Bool} (h : S (-1) = false) {t : Int} (h0 : -1 ≤ t) (h1 : t ≤ 3) : hasN (lstT S) t = S t := by
  by_cases e : t = -1
  · subst e
    rw [h, hasN_dec, decide_eq_false_iff_not, lstT_mem]
    rintro ⟨⟨h2, _⟩, _⟩
    omega
  · exact lstT_has S ⟨by omega, h1⟩
theorem lstT_hasE {S : Int → Bool} : hasN (lstT S) (-1) = false := by
  rw [hasN_dec, decide_eq_false_iff_not, lstT_mem]
  rintro ⟨⟨h2, _⟩, _⟩
  omega
theorem l14Choices (g : GrammarT) (hG : OkG g) : Pure Try.prog 52 [.ag (grammarC g)] (.im 3 (nodes (choicesS g))) := by
  have hlen := hG.len
  have hn1 := hG.n1
  have hn0 := hG.n0
  have ht0 := hG.t0
  have ht1 := hG.t1
  obtain ⟨n, hn⟩ : ∃ n : Nat, (n : Int) = g.1 := ⟨g.1.toNat, by omega⟩
  have hgn : g.1 = (n : Int) := hn.symm
  have cf := l14Follows g hG n hn
  obtain ⟨V, hV⟩ : ∃ V, V = choicesS g := ⟨_, rfl⟩
  have hVs := choicesS_sort g
  have hVm := choicesS_mem g
  rw [← hV] at hVs hVm ⊢
  refine Pure.mk (rs := [.tmp 2]) (nt := 86) Try.func52 (by kernel_rfl) rfl rfl rfl (by simp) ?_
  simp only [sl, grammarC]
  refine wkc (@grammarC.eq_1) _ ?_
  refine GS.fnn [] (cf) rfl rfl rfl rfl (by simp [go_sem, List.take_of_length_le, ren, ren1, ren2, okr, okr1, okr2, ChkN, BlkN, List.range_succ, nf, grammarC] <;> with_reducible rfl) (by simp [go_sem, List.take_of_length_le, ren, ren1, ren2, okr, okr1, okr2, ChkN, BlkN, List.range_succ, nf, grammarC]) (by simp [go_sem, List.take_of_length_le, ren, ren1, ren2, okr, okr1, okr2, ChkN, BlkN, List.range_succ, nf, grammarC]) (by simp [List.range_succ, lb]) (ChkN.toB (by simp [go_sem, List.take_of_length_le, ren, ren1, ren2, okr, okr1, okr2, ChkN, BlkN, List.range_succ, nf, grammarC])) (by decide) (by simp) rfl (.nfr (by simp) (.nfr (by simp) .nil)) (by simp [go_sem, List.take_of_length_le, ren, ren1, ren2, okr, okr1, okr2, ChkN, BlkN, List.range_succ, nf, grammarC] <;> with_reducible rfl) ?_
  refine wkc0 _ ?_
  have h00 : ∀ c : ChT, c ∈ ([] : List ChT) ↔ okC g c ∧ c.1 < ((0 : Nat) : Int) := fun c => by
    constructor
    · intro h; cases h
    · intro h; have := (okC_rng hG h.1).1.1; have := h.2; omega
  refine Holds.niw 5 85 3 rfl ?_
  refine Holds.loop (ι := Nat × List ChT) (fun i => ⟨[(1, .pb 0 3 0 0), (3, .own 1 1 0 n), (4, .own 2 1 0 n), (5, .own 3 3 0 i.2.length), (6, .v (.int .i64 i.1))], [(3, ⟨85, 3, nodes i.2⟩), (1, ⟨25, 1, intss (rowsT n (followS g))⟩), (2, ⟨4, 1, lastR n (followS g)⟩), (0, ⟨31, 3, [grammarC g]⟩)], 4⟩)
    (fun i => i.1 ≤ n ∧ SortC i.2 ∧ (∀ c, c ∈ i.2 ↔ okC g c ∧ c.1 < (i.1 : Int)) ∧ i.2.length ≤ 80 * i.1) (fun i => n - i.1) (0, []) ⟨Nat.zero_le _, List.Pairwise.nil, h00, by simp⟩ ?_ ?_
  · exact Cov.ofn (id) rfl (by simp [go_sem, List.take_of_length_le, ren, ren1, ren2, okr, okr1, okr2, ChkT, ChkN, BlkN, nf, grammarC, niw, nodes]) (by simp [go_sem, List.take_of_length_le, ren, ren1, ren2, okr, okr1, okr2, ChkT, ChkN, BlkN, nf, grammarC, niw, nodes])
  rintro ⟨k, L⟩ ⟨hk, hLs, hLm, hLl⟩
  dsimp only at hk hLs hLm hLl ⊢
  have stepk : wr64 ((k : Int) + 1) = ((k + 1 : Nat) : Int) := wr64_id (by omega) (by omega)
  refine wkc (And.intro @grammarC.eq_1 (@hgn)) _ ?_
  refine Holds.cond rfl (fun h => ?_) (fun h => ?_)
  · have hkn : k < n := by simp at h; omega
    refine wkc0 _ ?_
    refine Holds.loop (ι := Nat × List ChT) (fun i => ⟨[(1, .pb 0 3 0 0), (3, .own 1 1 0 n), (4, .own 2 1 0 n), (5, .own 3 3 0 i.2.length), (6, .v (.int .i64 k)), (7, .v (.int .i64 ((i.1 : Int) - 1)))], [(3, ⟨85, 3, nodes i.2⟩), (1, ⟨25, 1, intss (rowsT n (followS g))⟩), (2, ⟨4, 1, lastR n (followS g)⟩), (0, ⟨31, 3, [grammarC g]⟩)], 4⟩)
      (fun i => (i.1 : Int) - 1 ≤ g.2.1 ∧ SortC i.2 ∧ (∀ c, c ∈ i.2 ↔ okC g c ∧ (c.1 < (k : Int) ∨ (c.1 = (k : Int) ∧ c.2.1 < (i.1 : Int) - 1))) ∧ i.2.length ≤ 80 * k + 16 * i.1) (fun i => 10 - i.1) (0, L) ⟨by dsimp only; omega, hLs, fun c => (hLm c).trans ⟨fun h => ⟨h.1, .inl h.2⟩, fun h => ⟨h.1, by
        rcases h.2 with h2 | h2
        · exact h2
        · have := (okC_rng hG h.1).2.1; have := h2.2; dsimp only at this; omega⟩⟩, by dsimp only; omega⟩ ?_ ?_
    · exact Cov.ofn (id) rfl (by simp [go_sem, List.take_of_length_le, ren, ren1, ren2, okr, okr1, okr2, ChkT, ChkN, BlkN, nf, grammarC, hgn]) (by simp [go_sem, List.take_of_length_le, ren, ren1, ren2, okr, okr1, okr2, ChkT, ChkN, BlkN, nf, grammarC, hgn])
    clear hLs hLm hLl
    rintro ⟨u, L⟩ ⟨hu, hLs, hLm, hLl⟩
    dsimp only at hu hLs hLm hLl ⊢
    obtain ⟨t, ht⟩ : ∃ t : Int, t = (u : Int) - 1 := ⟨_, rfl⟩
    rw [← ht] at hu hLm ⊢
    have stepu : wr64 (t + 1) = ((u + 1 : Nat) : Int) - 1 := by rw [wr64_id (by omega) (by omega)]; omega
    refine wkc (@grammarC.eq_1) _ ?_
    refine Holds.cond rfl (fun h => ?_) (fun h => ?_)
    · have htT : t < g.2.1 := by simp at h; omega
      have cr := l1Rules g k hlen
      have hRi : (rulesOf g k).Pairwise (· < ·) := idxs_incr _ _ _
      have hRm : ∀ z, z ∈ rulesOf g k ↔ _ := fun z => rulesOf_iff (g := g) (non := k) (z := z)
      have hRl := rulesOf_len g k
      generalize rulesOf g k = R at cr hRi hRm hRl
      refine wkc (@grammarC.eq_1) _ ?_
      refine GS.cc (cr) rfl rfl rfl rfl (by simp [go_sem, List.take_of_length_le, grammarC] <;> with_reducible rfl) rfl (by simp [go_sem, List.take_of_length_le, grammarC]) ?_
      refine wkc0 _ ?_
      refine Holds.loop (ι := Nat × List ChT) (fun i => ⟨[(1, .pb 0 3 0 0), (3, .own 1 1 0 n), (4, .own 2 1 0 n), (5, .own 3 3 0 i.2.length), (6, .v (.int .i64 k)), (7, .v (.int .i64 t)), (32, .im 1 (ints R)), (33, .v (.int .i64 R.length)), (34, .v (.int .i64 i.1))], [(3, ⟨85, 3, nodes i.2⟩), (1, ⟨25, 1, intss (rowsT n (followS g))⟩), (2, ⟨4, 1, lastR n (followS g)⟩), (0, ⟨31, 3, [grammarC g]⟩)], 4⟩)
        (fun i => i.1 ≤ R.length ∧ SortC i.2 ∧ (∀ c, c ∈ i.2 ↔ okC g c ∧ (c.1 < (k : Int) ∨ (c.1 = (k : Int) ∧ (c.2.1 < t ∨ (c.2.1 = t ∧ c.2.2 ∈ R.take i.1))))) ∧ i.2.length ≤ 80 * k + 16 * u + i.1) (fun i => R.length - i.1) (0, L) ⟨Nat.zero_le _, hLs, fun c => (hLm c).trans (by simp), by dsimp only; omega⟩ ?_ ?_
      · exact Cov.ofn (id) rfl (by simp [go_sem, List.take_of_length_le, ren, ren1, ren2, okr, okr1, okr2, ChkT, ChkN, BlkN, nf, grammarC, hgn]) (by simp [go_sem, List.take_of_length_le, ren, ren1, ren2, okr, okr1, okr2, ChkT, ChkN, BlkN, nf, grammarC, hgn])
      clear hLs hLm hLl
      rintro ⟨j, L⟩ ⟨hj, hLs, hLm, hLl⟩
      dsimp only at hj hLs hLm hLl ⊢
      have stepj : wr64 ((j : Int) + 1) = ((j + 1 : Nat) : Int) := wr64_id (by omega) (by omega)
      refine wkc0 _ ?_
      refine Holds.cond rfl (fun h => ?_) (fun h => ?_)
      · have hlj : j < R.length := by simp at h; omega
        have hzj : R[j]? = some R[j] := List.getElem?_eq_getElem hlj
        have hzm := (hRm _).1 (List.getElem_mem hlj)
        have hzt : ∀ y ∈ R.take j, y < R[j] := fun y hy => by
          obtain ⟨i, hi⟩ := List.mem_iff_getElem?.1 hy
          have hij : i < j := by
            have := (List.getElem?_eq_some_iff.1 hi).1
            rw [List.length_take] at this; omega
          rw [List.getElem?_take_of_lt hij] at hi
          obtain ⟨h1, h2⟩ := List.getElem?_eq_some_iff.1 hi
          rw [← h2]
          exact List.pairwise_iff_getElem.1 hRi i j h1 hlj hij
        generalize R[j] = z at hzj hzm hzt
        obtain ⟨i, r, rfl, hr, hrk⟩ := hzm
        have hil : i < g.2.2.length := (List.getElem?_eq_some_iff.1 hr).1
        have hm := List.mem_of_getElem? hr
        have hr4 := hG.r4 r hm
        have hs0 := hG.s0 r hm
        have hs1 := hG.s1 r hm
        have cn := l14Null g hG r.2 hr4 hs1
        have cb := l14Begins g hG r.2 hr4 hs1 (fun x hx => by have := hs0 x hx; omega)
        have hbl := lstT_len (begS g r.2)
        have hS1 : begS g r.2 (-1) = false := by
          cases hb : begS g r.2 (-1) with
          | false => rfl
          | true => have := begS_univ hG (l := r.2) (fun x hx => by have := hs0 x hx; omega) hb; omega
        have ch := l1Has (lstT (begS g r.2)) t (by omega)
        rw [lstT_hasL hS1 (by omega) (by omega)] at ch
        have hrow := rowsT_at (followS g) hkn
        have hlr := lastR_at (followS g) hkn
        have hwl := lstT_len fun u => followS g ((k : Int), u)
        have ch2 := l1Has (lstT fun u => followS g ((k : Int), u)) t (by omega)
        have hw2 : hasN (lstT fun u => followS g ((k : Int), u)) t = (decide (0 ≤ t) && followS g ((k : Int), t)) := by
          by_cases e : t = -1
          · rw [e, lstT_hasE]; simp
          · have : 0 ≤ t := by omega
            rw [lstT_has _ ⟨this, by omega⟩]; simp [this]
        rw [hw2] at ch2
        obtain ⟨b, hb⟩ : ∃ b, b = isC g r t := ⟨_, rfl⟩
        have hbd : b = (begS g r.2 t || (nullS g r.2 && followS g ((k : Int), t))) := by rw [hb, isC, hrk]
        have hbs : 80 * k + 16 * u + j ≤ 600 := by omega
        have hstep : b = false → ∀ c, c ∈ L ↔ okC g c ∧ (c.1 < (k : Int) ∨ (c.1 = (k : Int) ∧ (c.2.1 < t ∨ (c.2.1 = t ∧ c.2.2 ∈ R.take (j + 1))))) := fun hf c => by
          rw [hLm c, List.take_add_one, hzj]
          constructor
          · rintro ⟨h1, h2⟩
            refine ⟨h1, h2.imp id fun h => ⟨h.1, h.2.imp id fun h => ⟨h.1, List.mem_append.2 (.inl h.2)⟩⟩⟩
          · rintro ⟨h1, h2⟩
            refine ⟨h1, ?_⟩
            rcases h2 with h2 | ⟨h2, h3 | ⟨h3, h4⟩⟩
            · exact .inl h2
            · exact .inr ⟨h2, .inl h3⟩
            · rcases List.mem_append.1 h4 with h4 | h4
              · exact .inr ⟨h2, .inr ⟨h3, h4⟩⟩
              · rw [Option.toList_some, List.mem_singleton] at h4
                obtain ⟨i', r', e1, e2, e3, e4, e5⟩ := h1
                have : i' = i := by omega
                subst this
                rw [hr] at e2; cases e2
                rw [h3, ← hb, hf] at e5; cases e5
        have hstep2 : b = true → SortC (L ++ [((k : Int), t, (i : Int))]) ∧ ∀ c, c ∈ L ++ [((k : Int), t, (i : Int))] ↔ okC g c ∧ (c.1 < (k : Int) ∨ (c.1 = (k : Int) ∧ (c.2.1 < t ∨ (c.2.1 = t ∧ c.2.2 ∈ R.take (j + 1))))) := fun hf => by
          refine ⟨List.pairwise_append.2 ⟨hLs, List.pairwise_singleton _ _, fun c hc d hd => ?_⟩, fun c => ?_⟩
          · rw [List.mem_singleton] at hd
            subst hd
            rw [lessC_iff]
            rcases ((hLm c).1 hc).2 with h2 | ⟨h2, h3 | ⟨h3, h4⟩⟩
            · exact .inl h2
            · exact .inr ⟨h2, .inl h3⟩
            · exact .inr ⟨h2, .inr ⟨h3, hzt _ h4⟩⟩
          · rw [List.mem_append, hLm c, List.take_add_one, hzj, List.mem_singleton]
            constructor
            · rintro (⟨h1, h2⟩ | rfl)
              · exact ⟨h1, h2.imp id fun h => ⟨h.1, h.2.imp id fun h => ⟨h.1, List.mem_append.2 (.inl h.2)⟩⟩⟩
              · exact ⟨⟨i, r, rfl, hr, hrk.symm, ⟨by show -1 ≤ t; omega, by show t ≤ 3; omega⟩, by rw [← hb]; exact hf⟩, .inr ⟨rfl, .inr ⟨rfl, List.mem_append.2 (.inr (by simp))⟩⟩⟩
            · rintro ⟨h1, h2⟩
              rcases h2 with h2 | ⟨h2, h3 | ⟨h3, h4⟩⟩
              · exact .inl ⟨h1, .inl h2⟩
              · exact .inl ⟨h1, .inr ⟨h2, .inl h3⟩⟩
              · rcases List.mem_append.1 h4 with h4 | h4
                · exact .inl ⟨h1, .inr ⟨h2, .inr ⟨h3, h4⟩⟩⟩
                · rw [Option.toList_some, List.mem_singleton] at h4
                  right
                  obtain ⟨c1, c2, c3⟩ := c
                  dsimp only at h2 h3 h4
                  rw [h2, h3, h4]
        clear hb
        have hbb : (L.length + 1) * 24 ≤ 140737488355328 := by omega
        refine wkc (And.intro (@get_E _ _ _ _ hzj) (And.intro @hzj (And.intro @hlj (And.intro @hil (And.intro @hr (And.intro (@get_E _ _ _ _ hr) (And.intro @ruleC.eq_1 (@grammarC.eq_1)))))))) _ ?_
        refine GS.cc (cn) rfl rfl rfl rfl (by simp [go_sem, List.take_of_length_le, grammarC] <;> with_reducible rfl) rfl (by simp [go_sem, List.take_of_length_le, grammarC]) ?_
        refine wkc (@grammarC.eq_1) _ ?_
        refine GS.cc (cb) rfl rfl rfl rfl (by simp [go_sem, List.take_of_length_le, grammarC] <;> with_reducible rfl) rfl (by simp [go_sem, List.take_of_length_le, grammarC]) ?_
        refine wkc0 _ ?_
        refine GS.cc (ch) rfl rfl rfl rfl (by simp [go_sem, List.take_of_length_le] <;> with_reducible rfl) rfl (by simp [go_sem, List.take_of_length_le]) ?_
        cases hs : begS g r.2 t with
        | true =>
          rw [hs, Bool.true_or] at hbd
          refine wkc (@hbb) _ ?_
          refine ⟨(j + 1, L ++ [((k : Int), t, (i : Int))]), ⟨by dsimp only; omega, (hstep2 hbd).1, (hstep2 hbd).2, by dsimp only; rw [List.length_append, List.length_singleton]; omega⟩, by dsimp only; omega, ?_⟩
          dsimp only
          rw [stepj]
          exact Cov.ofn (nm [0, 1, 2, 6]) rfl (by simp [go_sem, List.take_of_length_le, ren, ren1, ren2, okr, okr1, okr2, ChkT, ChkN, BlkN, nf, grammarC, hgn, nodes_snocA]) (by simp [go_sem, List.take_of_length_le, ren, ren1, ren2, okr, okr1, okr2, ChkT, ChkN, BlkN, nf, grammarC, hgn, nodes_snocA])
        | false =>
          rw [hs, Bool.false_or] at hbd
          cases he : nullS g r.2 with
          | false =>
            rw [he, Bool.false_and] at hbd
            refine wkc0 _ ?_
            refine ⟨(j + 1, L), ⟨by dsimp only; omega, hLs, hstep hbd, by dsimp only; omega⟩, by dsimp only; omega, ?_⟩
            dsimp only
            rw [stepj]
            exact Cov.ofn (id) rfl (by simp [go_sem, List.take_of_length_le, ren, ren1, ren2, okr, okr1, okr2, ChkT, ChkN, BlkN, nf, grammarC, hgn]) (by simp [go_sem, List.take_of_length_le, ren, ren1, ren2, okr, okr1, okr2, ChkT, ChkN, BlkN, nf, grammarC, hgn])
          | true =>
            rw [he, Bool.true_and] at hbd
            generalize (lstT fun u => followS g ((k : Int), u)) = R2 at hrow hwl ch2
            by_cases e1 : t = -1
            · have hlt : t < 0 := by omega
              have h0t : ¬ 0 ≤ t := by omega
              rw [decide_eq_false h0t, Bool.false_and] at ch2
              rw [← e1] at hlr
              refine wkc (And.intro @hkn (And.intro @hrow (And.intro (@get_E _ _ _ _ hrow) (@intsC.eq_1)))) _ ?_
              refine GS.cc (ch2) rfl rfl rfl rfl (by simp [go_sem, List.take_of_length_le] <;> with_reducible rfl) rfl (by simp [go_sem, List.take_of_length_le]) ?_
              cases hw : followS g ((k : Int), t) with
              | true =>
                rw [hw] at hbd hlr
                refine wkc (And.intro @hlt (And.intro @hkn (And.intro @hlr (@get_E _ _ _ _ hlr)))) _ ?_
                refine wkc (@hbb) _ ?_
                refine ⟨(j + 1, L ++ [((k : Int), t, (i : Int))]), ⟨by dsimp only; omega, (hstep2 hbd).1, (hstep2 hbd).2, by dsimp only; rw [List.length_append, List.length_singleton]; omega⟩, by dsimp only; omega, ?_⟩
                dsimp only
                rw [stepj]
                exact Cov.ofn (nm [0, 1, 2, 6]) rfl (by simp [go_sem, List.take_of_length_le, ren, ren1, ren2, okr, okr1, okr2, ChkT, ChkN, BlkN, nf, grammarC, hgn, nodes_snocA]) (by simp [go_sem, List.take_of_length_le, ren, ren1, ren2, okr, okr1, okr2, ChkT, ChkN, BlkN, nf, grammarC, hgn, nodes_snocA])
              | false =>
                rw [hw] at hbd hlr
                refine wkc (And.intro @hlt (And.intro @hkn (And.intro @hlr (@get_E _ _ _ _ hlr)))) _ ?_
                refine wkc0 _ ?_
                refine ⟨(j + 1, L), ⟨by dsimp only; omega, hLs, hstep hbd, by dsimp only; omega⟩, by dsimp only; omega, ?_⟩
                dsimp only
                rw [stepj]
                exact Cov.ofn (id) rfl (by simp [go_sem, List.take_of_length_le, ren, ren1, ren2, okr, okr1, okr2, ChkT, ChkN, BlkN, nf, grammarC, hgn]) (by simp [go_sem, List.take_of_length_le, ren, ren1, ren2, okr, okr1, okr2, ChkT, ChkN, BlkN, nf, grammarC, hgn])
            · have hlt : ¬ t < 0 := by omega
              have h0t : 0 ≤ t := by omega
              rw [decide_eq_true h0t, Bool.true_and] at ch2
              refine wkc (And.intro @hkn (And.intro @hrow (And.intro (@get_E _ _ _ _ hrow) (@intsC.eq_1)))) _ ?_
              refine GS.cc (ch2) rfl rfl rfl rfl (by simp [go_sem, List.take_of_length_le] <;> with_reducible rfl) rfl (by simp [go_sem, List.take_of_length_le]) ?_
              cases hw : followS g ((k : Int), t) with
              | true =>
                rw [hw] at hbd
                refine wkc (@hbb) _ ?_
                refine ⟨(j + 1, L ++ [((k : Int), t, (i : Int))]), ⟨by dsimp only; omega, (hstep2 hbd).1, (hstep2 hbd).2, by dsimp only; rw [List.length_append, List.length_singleton]; omega⟩, by dsimp only; omega, ?_⟩
                dsimp only
                rw [stepj]
                exact Cov.ofn (nm [0, 1, 2, 6]) rfl (by simp [go_sem, List.take_of_length_le, ren, ren1, ren2, okr, okr1, okr2, ChkT, ChkN, BlkN, nf, grammarC, hgn, nodes_snocA]) (by simp [go_sem, List.take_of_length_le, ren, ren1, ren2, okr, okr1, okr2, ChkT, ChkN, BlkN, nf, grammarC, hgn, nodes_snocA])
              | false =>
                rw [hw] at hbd
                refine wkc (@hlt) _ ?_
                refine wkc0 _ ?_
                refine ⟨(j + 1, L), ⟨by dsimp only; omega, hLs, hstep hbd, by dsimp only; omega⟩, by dsimp only; omega, ?_⟩
                dsimp only
                rw [stepj]
                exact Cov.ofn (id) rfl (by simp [go_sem, List.take_of_length_le, ren, ren1, ren2, okr, okr1, okr2, ChkT, ChkN, BlkN, nf, grammarC, hgn]) (by simp [go_sem, List.take_of_length_le, ren, ren1, ren2, okr, okr1, okr2, ChkT, ChkN, BlkN, nf, grammarC, hgn])
      · have hje : j = R.length := by simp at h; omega
        subst hje
        rw [List.take_length] at hLm
        refine wkc0 _ ?_
        refine ⟨(u + 1, L), ⟨by dsimp only; omega, hLs, fun c => ?_, by dsimp only; omega⟩, by dsimp only; omega, ?_⟩
        · dsimp only
          rw [hLm c]
          constructor
          · rintro ⟨h1, h2⟩
            refine ⟨h1, h2.imp id fun h => ⟨h.1, ?_⟩⟩
            rcases h.2 with h3 | h3
            · omega
            · have := h3.1; omega
          · rintro ⟨h1, h2⟩
            refine ⟨h1, h2.imp id fun h => ⟨h.1, ?_⟩⟩
            by_cases e : c.2.1 = t
            · obtain ⟨i, r, e1, e2, e3, _⟩ := h1
              exact .inr ⟨e, (hRm _).2 ⟨i, r, e1, e2, by rw [← e3]; exact h.1⟩⟩
            · have := h.2; exact .inl (by omega)
        dsimp only
        rw [stepu]
        exact Cov.ofn (id) rfl (by simp [go_sem, List.take_of_length_le, ren, ren1, ren2, okr, okr1, okr2, ChkT, ChkN, BlkN, nf, grammarC, hgn]) (by simp [go_sem, List.take_of_length_le, ren, ren1, ren2, okr, okr1, okr2, ChkT, ChkN, BlkN, nf, grammarC, hgn])
    · have htT : t = g.2.1 := by simp at h; omega
      refine wkc0 _ ?_
      refine ⟨(k + 1, L), ⟨by dsimp only; omega, hLs, fun c => ?_, by dsimp only; omega⟩, by dsimp only; omega, ?_⟩
      · dsimp only
        rw [hLm c]
        constructor
        · rintro ⟨h1, h2⟩
          exact ⟨h1, by omega⟩
        · rintro ⟨h1, h2⟩
          have := (okC_rng hG h1).2.2
          exact ⟨h1, by
            by_cases e : c.1 = (k : Int)
            · exact .inr ⟨e, by omega⟩
            · exact .inl (by omega)⟩
      rw [stepk]
      exact Cov.ofn (id) rfl (by simp [go_sem, List.take_of_length_le, ren, ren1, ren2, okr, okr1, okr2, ChkT, ChkN, BlkN, nf, grammarC, hgn]) (by simp [go_sem, List.take_of_length_le, ren, ren1, ren2, okr, okr1, okr2, ChkT, ChkN, BlkN, nf, grammarC, hgn])
  · have hke : k = n := by simp at h; omega
    subst hke
    have e : L = V := sortC_ext hLs hVs fun c => by
      rw [hLm c, hVm c]
      exact ⟨fun h => h.1, fun h => ⟨h, by have := (okC_rng hG h).1.2; omega⟩⟩
    rw [← e]
    refine wkc0 _ ?_
    refine Out.mk (xs := ?_) ?_ ?_ (by first | exact .inr rfl | exact .inl rfl)
    rotate_left
    · simp [go_sem, List.take_of_length_le] <;> with_reducible rfl
    exact Fz.all rfl rfl (by simp) rfl (nodes_ok _)
end Go.Proofs.Ytenienncgjanpaa.En
end
section
namespace Go.Proofs.Ytenienncgjanpaa.En
open Go.RowKit
set_option linter.unusedSimpArgs false
set_option linter.unusedVariables false
set_option maxHeartbeats 4000000
def pairAt (l : List ChT) : Nat → List (List Int)
  | 0 => []
  | k + 1 => match l[k]?, l[k + 1]? with
    | some a, some b => if a.1 = b.1 ∧ a.2.1 = b.2.1 then [[b.1, b.2.1]] else []
    | _, _ => []
def pairsK (l : List ChT) (k : Nat) : List (List Int) := (List.range k).flatMap (pairAt l)
theorem pairsK_snoc (l : List ChT) (k : Nat) : pairsK l (k + 1) = pairsK l k ++ pairAt l k := by
  rw [pairsK, pairsK, List.range_succ, List.flatMap_append]
  simp
theorem pairAt_len (l : List ChT) (k : Nat) : (pairAt l k).length ≤ 1 := by
  cases k with
  | zero => simp [pairAt]
  | succ k =>
    simp only [pairAt]
    split
    · split <;> simp
    · simp
theorem pairsK_len (l : List ChT) : ∀ k, (pairsK l k).length ≤ k
  | 0 => by simp [pairsK]
  | k + 1 => by
    have := pairsK_len l k
    have := pairAt_len l k
    rw [pairsK_snoc, List.length_append]; omega
theorem pairAt_two {l : List ChT} {k : Nat} {p : List Int} (h : p ∈ pairAt l k) : p.length = 2 := by
  cases k with
  | zero => cases h
  | succ k =>
    simp only [pairAt] at h
    split at h
    · split at h
      · rw [List.mem_singleton] at h; subst h; rfl
      · cases h
    · cases h
theorem pairsK_two {l : List ChT} {k : Nat} {p : List Int} (h : p ∈ pairsK l k) : p.length = 2 := by
  obtain ⟨i, _, h⟩ := List.mem_flatMap.1 h
  exact pairAt_two h
theorem comp_app (xs ys : List (List Int)) : compL (xs ++ ys) = ys.foldl compF (compL xs) := by simp [compL, List.foldl_append]
theorem intss_snocB (xs : List (List Int)) (r : List Int) : intss xs ++ [[.im 1 (ints r)]] = intss (xs ++ [r]) := by simp [intss, intsC]
theorem l14Clashes (l : List ChT) (hl : l.length ≤ 1000) : Pure Try.prog 51 [.im 3 (nodes l)] (.im 1 (intss (compL (pairsK l l.length)))) := by
  refine Pure.mk (rs := [.tmp 2]) (nt := 63) Try.func51 (by kernel_rfl) rfl rfl rfl (by simp) ?_
  simp only [sl]
  refine wkdsc0 _ ?_
  refine Holds.niw 3 25 1 rfl ?_
  refine Holds.loop (ι := Nat) (fun k => ⟨[(0, .im 3 (nodes l)), (3, .own 0 1 0 (compL (pairsK l k)).length), (7, .im 3 (nodes l)), (8, .v (.int .i64 l.length)), (9, .v (.int .i64 k))], [(0, ⟨25, 1, intss (compL (pairsK l k))⟩)], 1⟩)
    (fun k => k ≤ l.length) (fun k => l.length - k) 0 (Nat.zero_le _) ?_ ?_
  · have h0 : compL (pairsK l 0) = [] := rfl
    rw [h0]
    exact Cov.ofn (id) rfl (by simp [go_sem, List.take_of_length_le, ren, ren1, ren2, okr, okr1, okr2, ChkT, ChkN, BlkN, nf, niw, intss]) (by simp [go_sem, List.take_of_length_le, ren, ren1, ren2, okr, okr1, okr2, ChkT, ChkN, BlkN, nf, niw, intss])
  intro k hk
  have stepk : wr64 ((k : Int) + 1) = ((k + 1 : Nat) : Int) := wr64_id (by omega) (by omega)
  have hpl := pairsK_len l k
  have hcl := compL_len (pairsK l k)
  refine wkdc0 _ ?_
  refine Holds.cond rfl (fun h => ?_) (fun h => ?_)
  · have hlt : k < l.length := by simp at h; omega
    have hxk : l[k]? = some l[k] := List.getElem?_eq_getElem hlt
    have hsn : compL (pairsK l (k + 1)) = (pairAt l k).foldl compF (compL (pairsK l k)) := by rw [pairsK_snoc, comp_app]
    have hse : ∀ e ∈ compL (pairsK l k), e.length = 2 := fun e he => pairsK_two (compL_mem he)
    generalize hb : l[k] = b at hxk
    generalize compL (pairsK l k) = O at hcl hsn hse ⊢
    rcases Nat.eq_zero_or_pos k with hk0 | hk0
    · subst hk0
      have e0 : pairAt l 0 = [] := rfl
      have step0 : wr64 (1 : Int) = 1 := wr64_id (by omega) (by omega)
      rw [e0, List.foldl_nil] at hsn
      refine wkdc (And.intro @hlt (And.intro @hxk (And.intro (@get_E _ _ _ _ hxk) (@nodeC.eq_1)))) _ ?_
      refine ⟨1, by omega, by omega, ?_⟩
      dsimp only
      rw [hsn]
      exact Cov.ofn (id) rfl (by simp [go_sem, List.take_of_length_le, ren, ren1, ren2, okr, okr1, okr2, ChkT, ChkN, BlkN, nf, step0]) (by simp [go_sem, List.take_of_length_le, ren, ren1, ren2, okr, okr1, okr2, ChkT, ChkN, BlkN, nf, step0])
    · obtain ⟨j, hj⟩ : ∃ j, k = j + 1 := ⟨k - 1, by omega⟩
      have hxa : l[j]? = some l[j] := List.getElem?_eq_getElem (by omega)
      generalize l[j] = a at hxa
      have hja : j < l.length := by omega
      have hw1 : wr64 ((k : Int) - 1) = (j : Int) := by rw [wr64_id (by omega) (by omega)]; omega
      have hk0i : (0 : Int) < (k : Int) := by omega
      have epa : pairAt l k = if a.1 = b.1 ∧ a.2.1 = b.2.1 then [[b.1, b.2.1]] else [] := by
        rw [hj] at hxk ⊢
        simp only [pairAt, hxa, hxk]
      have hol : O.length ≤ 1000 := by omega
      by_cases h1 : a.1 = b.1
      · have h1' : (a.1 == b.1) = true := by simp [h1]
        by_cases h2 : a.2.1 = b.2.1
        · rw [if_pos ⟨h1, h2⟩] at epa
          rw [epa] at hsn
          have h2' : (a.2.1 == b.2.1) = true := by simp [h2]
          refine wkdc (And.intro @hlt (And.intro @hxk (And.intro (@get_E _ _ _ _ hxk) (And.intro @nodeC.eq_1 (And.intro @hk0 (And.intro @hk0i (And.intro @hw1 (And.intro @hja (And.intro @hxa (And.intro (@get_E _ _ _ _ hxa) (And.intro @h1' (And.intro @h2' (And.intro @h1 (@h2)))))))))))))) _ ?_
          have hi00 : ints [0, 0] = [[.v (.int .i64 0)], [.v (.int .i64 0)]] := rfl
          repeat' first | (refine Holds.condT ?_ ?_; (· (simp [go_sem, List.take_of_length_le, hi00] <;> with_reducible rfl))) | (refine Holds.condF ?_ ?_; (· (simp [go_sem, List.take_of_length_le, hi00] <;> with_reducible rfl))) | refine Holds.seq ?_ | refine Holds.skip ?_ | refine Holds.exit ?_ | refine Holds.ret ?_ | refine thenA_normal ?_ | refine thenA_exit ?_ | refine thenA_ret ?_ | refine inB_normal ?_ | refine inB_ret ?_ | refine inB_here ?_ | (refine inB_past ?_ ?_; (· exact rfl)) | refine Holds.reg ?_ | refine Holds.block ?_ | refine GS.nil ?_ | refine Gd.nil ?_ | (refine Holds.any mixed ?_ ?_; (· kernel_rfl)) | (refine GS.stepD 43 (s' := ?_) rfl ?_ ?_ ?_; rotate_left; (· exact rfl); (· (simp [go_sem, List.take_of_length_le, hi00] <;> with_reducible rfl))) | (refine GS.skip ?_ ?_ ?_; (· exact rfl); (· exact rfl)) | (refine Gd.go (s' := ?_) ?_ ?_ ?_; rotate_left; (· exact rfl); (· (simp [go_sem, List.take_of_length_le, hi00] <;> with_reducible rfl))) | (refine Gd.skip ?_ ?_ ?_; (· exact rfl); (· exact rfl)) | fail
          refine GS.frz [2] [(6, .im 1 (ints [b.1, b.2.1]))] (.cons rfl (Fz.all rfl rfl rfl rfl (ints_cl _)) .nil) ?_
          generalize [b.1, b.2.1] = p at hsn ⊢
          rw [List.foldl_cons, List.foldl_nil] at hsn
          have hbb : (O.length + 1) * 24 ≤ 140737488355328 := by omega
          rcases Nat.eq_zero_or_pos O.length with hO | hO
          · have hO' : O = [] := List.length_eq_zero_iff.1 hO
            subst hO'
            have e1 : compF [] p = [p] := rfl
            rw [e1] at hsn
            have hint0 : intss [] = [] := rfl
            refine wkdc (And.intro @frz.eq_1 (@hint0)) _ ?_
            refine ⟨k + 1, by omega, by omega, ?_⟩
            dsimp only
            rw [stepk, hsn]
            exact Cov.ofn (nm [5]) rfl (by simp [go_sem, List.take_of_length_le, ren, ren1, ren2, okr, okr1, okr2, ChkT, ChkN, BlkN, nf, intss, intsC]) (by simp [go_sem, List.take_of_length_le, ren, ren1, ren2, okr, okr1, okr2, ChkT, ChkN, BlkN, nf, intss, intsC])
          · obtain ⟨m, hm⟩ : ∃ m, O.length = m + 1 := ⟨O.length - 1, by omega⟩
            have hxm : O[m]? = some O[m] := List.getElem?_eq_getElem (by omega)
            have hlast : O.getLast? = O[m]? := by rw [List.getLast?_eq_getElem?, hm]; rfl
            have hsm := hse _ (List.getElem_mem (show m < O.length by omega))
            generalize O[m] = q at hxm hsm
            have hw3 : wr64 ((O.length : Int) - 1) = (m : Int) := by rw [wr64_id (by omega) (by omega)]; omega
            have hne : ((O.length : Int) == 0) = false := by rw [beq_eq_false_iff_ne]; omega
            have hne' : ¬ (O = []) := fun e => by rw [e] at hO; simp at hO
            have hmO : m < O.length := by omega
            have cs := l1Same q p (by omega)
            unfold compF at hsn
            rw [hlast, hxm] at hsn
            refine wkdc (And.intro @frz.eq_1 (And.intro @hne (And.intro @hne' (And.intro @hw3 (And.intro @hmO (And.intro @hxm (And.intro (@get_E _ _ _ _ hxm) (@intsC.eq_1)))))))) _ ?_
            first | refine GS.cd (cs) rfl rfl rfl rfl (by simp [go_sem, List.take_of_length_le] <;> with_reducible rfl) rfl (by exact .cons (.im _ _) (.cons (.im _ _) .nil)) rfl ?_ | refine Gd.cd (cs) rfl rfl rfl rfl (by simp [go_sem, List.take_of_length_le] <;> with_reducible rfl) rfl (by exact .cons (.im _ _) (.cons (.im _ _) .nil)) rfl ?_
            by_cases hqp : q = p
            · rw [decide_eq_true hqp]
              rw [if_pos (by rw [hqp])] at hsn
              refine wkdc0 _ ?_
              refine ⟨k + 1, by omega, by omega, ?_⟩
              dsimp only
              rw [stepk, hsn]
              exact Cov.ofn (id) rfl (by simp [go_sem, List.take_of_length_le, ren, ren1, ren2, okr, okr1, okr2, ChkT, ChkN, BlkN, nf]) (by simp [go_sem, List.take_of_length_le, ren, ren1, ren2, okr, okr1, okr2, ChkT, ChkN, BlkN, nf])
            · rw [decide_eq_false hqp]
              rw [if_neg (by simpa using hqp)] at hsn
              refine wkdc (@hbb) _ ?_
              refine ⟨k + 1, by omega, by omega, ?_⟩
              dsimp only
              rw [stepk, hsn]
              exact Cov.ofn (nm [5]) rfl (by simp [go_sem, List.take_of_length_le, ren, ren1, ren2, okr, okr1, okr2, ChkT, ChkN, BlkN, nf, intss_snocB]) (by simp [go_sem, List.take_of_length_le, ren, ren1, ren2, okr, okr1, okr2, ChkT, ChkN, BlkN, nf, intss_snocB])
        · rw [if_neg (fun h => h2 h.2)] at epa
          rw [epa, List.foldl_nil] at hsn
          have h2' : (a.2.1 == b.2.1) = false := by simp [h2]
          refine wkdc (And.intro @hlt (And.intro @hxk (And.intro (@get_E _ _ _ _ hxk) (And.intro @nodeC.eq_1 (And.intro @hk0 (And.intro @hk0i (And.intro @hw1 (And.intro @hja (And.intro @hxa (And.intro (@get_E _ _ _ _ hxa) (And.intro @h1' (And.intro @h2' (And.intro @h1 (@h2)))))))))))))) _ ?_
          refine ⟨k + 1, by omega, by omega, ?_⟩
          dsimp only
          rw [stepk, hsn]
          exact Cov.ofn (id) rfl (by simp [go_sem, List.take_of_length_le, ren, ren1, ren2, okr, okr1, okr2, ChkT, ChkN, BlkN, nf]) (by simp [go_sem, List.take_of_length_le, ren, ren1, ren2, okr, okr1, okr2, ChkT, ChkN, BlkN, nf])
      · rw [if_neg (fun h => h1 h.1)] at epa
        rw [epa, List.foldl_nil] at hsn
        have h1' : (a.1 == b.1) = false := by simp [h1]
        refine wkdc (And.intro @hlt (And.intro @hxk (And.intro (@get_E _ _ _ _ hxk) (And.intro @nodeC.eq_1 (And.intro @hk0 (And.intro @hk0i (And.intro @hw1 (And.intro @hja (And.intro @hxa (And.intro (@get_E _ _ _ _ hxa) (And.intro @h1' (@h1)))))))))))) _ ?_
        refine ⟨k + 1, by omega, by omega, ?_⟩
        dsimp only
        rw [stepk, hsn]
        exact Cov.ofn (id) rfl (by simp [go_sem, List.take_of_length_le, ren, ren1, ren2, okr, okr1, okr2, ChkT, ChkN, BlkN, nf]) (by simp [go_sem, List.take_of_length_le, ren, ren1, ren2, okr, okr1, okr2, ChkT, ChkN, BlkN, nf])
  · have hke : k = l.length := by simp at h; omega
    subst hke
    refine wkdc0 _ ?_
    refine Out.mk (xs := ?_) ?_ ?_ (by first | exact .inr rfl | exact .inl rfl)
    rotate_left
    · simp [go_sem, List.take_of_length_le] <;> with_reducible rfl
    exact Fz.all rfl rfl (by simp) rfl (intss_cl _)
end Go.Proofs.Ytenienncgjanpaa.En
end
section
namespace Go.Proofs.Ytenienncgjanpaa.En
open Go.RowKit
set_option linter.unusedSimpArgs false
set_option linter.unusedVariables false
set_option maxHeartbeats 4000000
theorem inner_snocI (L : List (List Int)) (r : List Int) (e : TypeId) (j : Nat) (row row' : List AV) (h1 : (intss L ++ [[.ow e 1 (ints r)]])[j]? = some row) (h2 : (intss (L ++ [r]))[j]? = some row') : row'.length = row.length ∧ ∀ (i : Nat) (x y : AV), row[i]? = some x → row'[i]? = some y → Fz [] x y := by
  have he : intss (L ++ [r]) = intss L ++ [[.im 1 (ints r)]] := by simp [intss, intsC]
  rw [he] at h2
  rcases Nat.lt_or_ge j (intss L).length with hj | hj
  · rw [List.getElem?_append_left hj] at h1 h2
    rw [h1] at h2; cases h2
    rw [intss_get, Option.map_eq_some_iff] at h1
    obtain ⟨q, _, rfl⟩ := h1
    refine ⟨rfl, fun i x y hx hy => ?_⟩
    rw [hx] at hy; cases hy
    match i, hx with
    | 0, hx => simp only [intsC, List.getElem?_cons_zero, Option.some.injEq] at hx; subst hx; exact .im _ _
    | n + 1, hx => simp [intsC] at hx
  · rw [List.getElem?_append_right hj] at h1 h2
    match j - (intss L).length, h1, h2 with
    | 0, h1, h2 =>
      simp only [List.getElem?_cons_zero, Option.some.injEq] at h1 h2
      subst h1 h2
      refine ⟨rfl, fun i x y hx hy => ?_⟩
      match i, hx, hy with
      | 0, hx, hy => simp only [List.getElem?_cons_zero, Option.some.injEq] at hx hy; subst hx hy; exact Fz.owI (ints_cl _)
      | n + 1, hx, hy => simp at hx
    | m + 1, h1, h2 => simp at h1
theorem clashesG (g : GrammarT) (hG : OkG g) : Fn Try.prog 53 0 [.ag (grammarC g)] [] (.own 0 1 0 (compL (pairsK (choicesS g) (choicesS g).length)).length) 1 [(0, ⟨25, 1, intss (compL (pairsK (choicesS g) (choicesS g).length))⟩)] := by
  have cc := choicesG g hG
  have hcl := choicesS_len g
  have hlen := hG.len
  generalize choicesS g = l at cc hcl ⊢
  refine Fn.mk (rs := [.tmp 2]) (nt := 57) Try.func53 (by kernel_rfl) rfl rfl rfl (by simp) ?_
  simp only [sl, grammarC]
  refine wkdc (@grammarC.eq_1) _ ?_
  refine GS.fnn [] (cc) rfl rfl rfl rfl (by simp [go_sem, List.take_of_length_le, ren, ren1, ren2, okr, okr1, okr2, ChkN, BlkN, List.range_succ, nf, grammarC] <;> with_reducible rfl) (by simp [go_sem, List.take_of_length_le, ren, ren1, ren2, okr, okr1, okr2, ChkN, BlkN, List.range_succ, nf, grammarC]) (by simp [go_sem, List.take_of_length_le, ren, ren1, ren2, okr, okr1, okr2, ChkN, BlkN, List.range_succ, nf, grammarC]) (by simp [List.range_succ, lb]) (ChkN.toB (by simp [go_sem, List.take_of_length_le, ren, ren1, ren2, okr, okr1, okr2, ChkN, BlkN, List.range_succ, nf, grammarC])) (by decide) (by simp) rfl (.nfr (by simp) .nil) (by simp [go_sem, List.take_of_length_le, ren, ren1, ren2, okr, okr1, okr2, ChkN, BlkN, List.range_succ, nf, grammarC] <;> with_reducible rfl) ?_
  refine wkdc0 _ ?_
  refine Holds.loop (ι := Nat) (fun k => ⟨[(3, .own 1 1 0 (pairsK l (k + 1)).length), (4, .own 2 3 0 l.length), (5, .v (.int .i64 ((k : Int) + 1)))], [(2, ⟨85, 3, nodes l⟩), (1, ⟨25, 1, intss (pairsK l (k + 1))⟩), (0, ⟨31, 3, [grammarC g]⟩)], 3⟩)
    (fun k => k ≤ l.length) (fun k => l.length - k) 0 (Nat.zero_le _) ?_ ?_
  · have h0 : pairsK l (0 + 1) = [] := rfl
    rw [h0]
    exact Cov.ofn (id) rfl (by simp [go_sem, List.take_of_length_le, ren, ren1, ren2, okr, okr1, okr2, ChkT, ChkN, BlkN, nf, grammarC, intss]) (by simp [go_sem, List.take_of_length_le, ren, ren1, ren2, okr, okr1, okr2, ChkT, ChkN, BlkN, nf, grammarC, intss])
  intro k hk
  have stepk : wr64 ((k : Int) + 1 + 1) = ((k + 1 : Nat) : Int) + 1 := by rw [wr64_id (by omega) (by omega)]; omega
  have stepm : wr64 (k : Int) = (k : Int) := wr64_id (by omega) (by omega)
  have hpl := pairsK_len l (k + 1)
  by_cases hlt : k + 1 < l.length
  · have hlti : (k : Int) + 1 < (l.length : Int) := by omega
    have hka : k < l.length := by omega
    have hxa : l[k]? = some l[k] := List.getElem?_eq_getElem hka
    have hxb : l[k + 1]? = some l[k + 1] := List.getElem?_eq_getElem hlt
    have hsn := pairsK_snoc l (k + 1)
    have epa : pairAt l (k + 1) = if l[k].1 = l[k + 1].1 ∧ l[k].2.1 = l[k + 1].2.1 then [[l[k + 1].1, l[k + 1].2.1]] else [] := by simp only [pairAt, hxa, hxb]
    generalize l[k] = a at hxa epa
    generalize l[k + 1] = b at hxb epa
    generalize pairsK l (k + 1) = O at hpl hsn ⊢
    have hb1 : (O.length + 1) * 24 ≤ 140737488355328 := by omega
    by_cases h1 : a.1 = b.1
    · have h1' : (a.1 == b.1) = true := by simp [h1]
      by_cases h2 : a.2.1 = b.2.1
      · rw [if_pos ⟨h1, h2⟩] at epa
        rw [epa] at hsn
        have h2' : (a.2.1 == b.2.1) = true := by simp [h2]
        have hi00 : ints [0, 0] = [[.v (.int .i64 0)], [.v (.int .i64 0)]] := rfl
        refine wkdsc (And.intro @hlti (And.intro @hlt (And.intro @stepm (And.intro ((show (0:Int) ≤ (k : Int) + 1 by omega)) (And.intro @hka (And.intro @hxa (And.intro (@get_E _ _ _ _ hxa) (And.intro @hxb (And.intro (@get_E _ _ _ _ hxb) (And.intro @nodeC.eq_1 (And.intro @h1' (And.intro @h2' (And.intro @h1 (@h2)))))))))))))) _ ?_
        (refine Holds.any mixed ?_ ?_; (· kernel_rfl))
        refine wkdsc (And.intro @hlti (And.intro @hlt (And.intro @stepm (And.intro ((show (0:Int) ≤ (k : Int) + 1 by omega)) (And.intro @hka (And.intro @hxa (And.intro (@get_E _ _ _ _ hxa) (And.intro @hxb (And.intro (@get_E _ _ _ _ hxb) (And.intro @nodeC.eq_1 (And.intro @h1' (And.intro @h2' (And.intro @h1 (@h2)))))))))))))) _ ?_
        refine Holds.anx [11, 12, 1013] [0, 1, 2, 3, 4, 5, 6, 7, 8, 9, 10] (fun n => decide (3 ≤ n)) mixed ?_ ?_ ?_; (· kernel_rfl); (· kernel_rfl)
        refine wkdasc (And.intro @hlti (And.intro @hlt (And.intro @hxb (And.intro (@get_E _ _ _ _ hxb) (And.intro @nodeC.eq_1 (And.intro ((show (0:Int) ≤ (k : Int) + 1 by omega)) (And.intro @hi00 (@hb1)))))))) _ ?_
        refine ⟨k + 1, by omega, by omega, ?_⟩
        dsimp only
        rw [stepk, hsn]
        have hset : ∀ q q' : List AV, (intss O ++ [q]).set O.length q' = intss O ++ [q'] := fun q q' => by have := set_snoc (intss O) q q'; rwa [intss_len] at this
        refine Cov.trans ?_ (Cov.close 6 O.length 0 (row := [.own 3 1 0 2]) rfl (by have := get_snoc (intss O) ([.own 3 1 0 2] : List AV); rwa [intss_len] at this) rfl rfl rfl rfl (by simp) (by simp [nf]))
        simp only [rm, st, hset, List.set_cons_zero]
        refine Cov.trans ?_ (Cov.inner (n := 6) (k' := ⟨25, 1, intss (O ++ [[b.1, b.2.1]])⟩) rfl rfl rfl (by simp) (fun j row row' h1 h2 => inner_snocI O [b.1, b.2.1] 3 j row row' h1 h2))
        exact Cov.ofn (nm [0, 6, 2]) rfl (by simp [go_sem, List.take_of_length_le, ren, ren1, ren2, okr, okr1, okr2, ChkT, ChkN, BlkN, nf, grammarC]) (by simp [go_sem, List.take_of_length_le, ren, ren1, ren2, okr, okr1, okr2, ChkT, ChkN, BlkN, nf, grammarC])
      · rw [if_neg (fun h => h2 h.2)] at epa
        rw [epa, List.append_nil] at hsn
        have h2' : (a.2.1 == b.2.1) = false := by simp [h2]
        refine wkdac (And.intro @hlti (And.intro @hlt (And.intro @stepm (And.intro ((show (0:Int) ≤ (k : Int) + 1 by omega)) (And.intro @hka (And.intro @hxa (And.intro (@get_E _ _ _ _ hxa) (And.intro @hxb (And.intro (@get_E _ _ _ _ hxb) (And.intro @nodeC.eq_1 (And.intro @h1' (And.intro @h2' (And.intro @h1 (@h2)))))))))))))) _ ?_
        refine ⟨k + 1, by omega, by omega, ?_⟩
        dsimp only
        rw [stepk, hsn]
        exact Cov.ofn (id) rfl (by simp [go_sem, List.take_of_length_le, ren, ren1, ren2, okr, okr1, okr2, ChkT, ChkN, BlkN, nf, grammarC]) (by simp [go_sem, List.take_of_length_le, ren, ren1, ren2, okr, okr1, okr2, ChkT, ChkN, BlkN, nf, grammarC])
    · rw [if_neg (fun h => h1 h.1)] at epa
      rw [epa, List.append_nil] at hsn
      have h1' : (a.1 == b.1) = false := by simp [h1]
      refine wkdac (And.intro @hlti (And.intro @hlt (And.intro @stepm (And.intro ((show (0:Int) ≤ (k : Int) + 1 by omega)) (And.intro @hka (And.intro @hxa (And.intro (@get_E _ _ _ _ hxa) (And.intro @hxb (And.intro (@get_E _ _ _ _ hxb) (And.intro @nodeC.eq_1 (And.intro @h1' (@h1)))))))))))) _ ?_
      refine ⟨k + 1, by omega, by omega, ?_⟩
      dsimp only
      rw [stepk, hsn]
      exact Cov.ofn (id) rfl (by simp [go_sem, List.take_of_length_le, ren, ren1, ren2, okr, okr1, okr2, ChkT, ChkN, BlkN, nf, grammarC]) (by simp [go_sem, List.take_of_length_le, ren, ren1, ren2, okr, okr1, okr2, ChkT, ChkN, BlkN, nf, grammarC])
  · have hlti : ¬ (k : Int) + 1 < (l.length : Int) := by omega
    have hend : pairsK l (k + 1) = pairsK l l.length := by
      by_cases e : k + 1 = l.length
      · rw [e]
      · have : k = l.length := by omega
        have e0 : pairAt l k = [] := by
          rw [this]
          match h : l.length with
          | 0 => rfl
          | m + 1 => simp only [pairAt, List.getElem?_eq_none (show l.length ≤ m + 1 by omega)]; split <;> simp_all
        rw [pairsK_snoc, e0, List.append_nil, this]
    rw [hend] at hpl ⊢
    have hp2 : ∀ e ∈ pairsK l l.length, e.length < 4611686018427387904 := fun e he => by rw [pairsK_two he]; omega
    generalize pairsK l l.length = O at hpl hp2 ⊢
    have cf := compactFuncII O (by omega) hp2
    refine wkdac (@hlti) _ ?_
    first | refine GS.fnn [1] (cf) rfl rfl rfl rfl (by simp [go_sem, List.take_of_length_le, ren, ren1, ren2, okr, okr1, okr2, ChkN, BlkN, List.range_succ, nf] <;> with_reducible rfl) (by simp [go_sem, List.take_of_length_le, ren, ren1, ren2, okr, okr1, okr2, ChkN, BlkN, List.range_succ, nf]) (by simp [go_sem, List.take_of_length_le, ren, ren1, ren2, okr, okr1, okr2, ChkN, BlkN, List.range_succ, nf]) (by simp [List.range_succ, lb]) (ChkN.toB (by simp [go_sem, List.take_of_length_le, ren, ren1, ren2, okr, okr1, okr2, ChkN, BlkN, List.range_succ, nf])) (by decide) (by simp) rfl (.nfr (by simp) .nil) (by simp [go_sem, List.take_of_length_le, ren, ren1, ren2, okr, okr1, okr2, ChkN, BlkN, List.range_succ, nf] <;> with_reducible rfl) ?_ | refine Gx.fnn [1] (cf) rfl rfl rfl rfl rfl (by simp [go_sem, List.take_of_length_le, ren, ren1, ren2, okr, okr1, okr2, ChkN, BlkN, List.range_succ, nf] <;> with_reducible rfl) (by simp [go_sem, List.take_of_length_le, ren, ren1, ren2, okr, okr1, okr2, ChkN, BlkN, List.range_succ, nf]) (by simp [go_sem, List.take_of_length_le, ren, ren1, ren2, okr, okr1, okr2, ChkN, BlkN, List.range_succ, nf]) (by simp [List.range_succ, lb]) (ChkN.toB (by simp [go_sem, List.take_of_length_le, ren, ren1, ren2, okr, okr1, okr2, ChkN, BlkN, List.range_succ, nf])) (by decide) (by simp) rfl (.nfr (by simp) .nil) (by simp [go_sem, List.take_of_length_le, ren, ren1, ren2, okr, okr1, okr2, ChkN, BlkN, List.range_succ, nf]) (by simp [go_sem, List.take_of_length_le, ren, ren1, ren2, okr, okr1, okr2, ChkN, BlkN, List.range_succ, nf] <;> with_reducible rfl) ?_ | refine Gx.fnno [1] (cf) rfl rfl rfl rfl rfl (by simp [go_sem, List.take_of_length_le, ren, ren1, ren2, okr, okr1, okr2, ChkN, BlkN, List.range_succ, nf] <;> with_reducible rfl) (by simp [go_sem, List.take_of_length_le, ren, ren1, ren2, okr, okr1, okr2, ChkN, BlkN, List.range_succ, nf]) (by simp [go_sem, List.take_of_length_le, ren, ren1, ren2, okr, okr1, okr2, ChkN, BlkN, List.range_succ, nf]) (by simp [List.range_succ, lb]) (ChkN.toB (by simp [go_sem, List.take_of_length_le, ren, ren1, ren2, okr, okr1, okr2, ChkN, BlkN, List.range_succ, nf])) (by decide) (by simp) rfl (.nfr (by simp) .nil) (by simp [go_sem, List.take_of_length_le, ren, ren1, ren2, okr, okr1, okr2, ChkN, BlkN, List.range_succ, nf] <;> with_reducible rfl) ?_
    refine wkdac0 _ ?_
    refine OutF.mkn (xs := ?_) (nm [1]) ?_ ?_ ?_ ?_ ?_ (by first | exact .inr rfl | exact .inl rfl)
    rotate_left
    · simp [go_sem, List.take_of_length_le] <;> with_reducible rfl
    · simp [go_sem, List.take_of_length_le, ren, ren1, ren2, okr, okr1, okr2, ChkN, BlkN, List.range_succ, nf]
    · simp [go_sem, List.take_of_length_le, ren, ren1, ren2, okr, okr1, okr2, ChkN, BlkN, List.range_succ, nf]
    · simp [go_sem, List.take_of_length_le, ren, ren1, ren2, okr, okr1, okr2, ChkN, BlkN, List.range_succ, nf]
    · rfl
/-! IsOneAhead -/
noncomputable def oneV (g : GrammarT) : Bool × Bool := if goodG g = true then ((pairsK (choicesS g) (choicesS g).length).isEmpty, true) else (false, false)
theorem comp_empty (xs : List (List Int)) : ((compL xs).length == 0) = xs.isEmpty := by
  rw [Bool.eq_iff_iff, beq_iff_eq, List.isEmpty_iff, List.length_eq_zero_iff, compL_nil]
theorem specOne (g : GrammarT) (hx : g.2.2.length < 4611686018427387904) (hs : ∀ e ∈ g.2.2, e.2.length < 4611686018427387904) : Pure Try.prog 21 [.ag (grammarC g)] (.tu [.v (.bool (oneV g).1), .v (.bool (oneV g).2)]) := by
  have cg := specGoodG g hx hs
  unfold oneV
  refine Pure.mk (rs := [.tmp 2, .tmp 3]) (nt := 12) Try.func21 (by kernel_rfl) rfl rfl rfl (by simp) ?_
  simp only [sl, grammarC]
  refine wkc0 _ ?_
  cases hg : goodG g with
  | false =>
    rw [hg] at cg
    simp only [Bool.false_eq_true, if_false]
    refine GS.cc (cg) rfl rfl rfl rfl (by simp [go_sem, List.take_of_length_le, grammarC] <;> with_reducible rfl) rfl (by simp [go_sem, List.take_of_length_le, grammarC]) ?_
    refine wkc0 _ ?_
    refine Out.mk (xs := ?_) ?_ ?_ (by first | exact .inr rfl | exact .inl rfl)
    rotate_left
    · simp [go_sem, List.take_of_length_le] <;> with_reducible rfl
    exact Fz.tuL (.cons (.v _) (.cons (.v _) .nil))
  | true =>
    rw [hg] at cg
    have hG := goodG_ok hg
    have cc := l14Choices g hG
    have hcl := choicesS_len g
    have hlen := hG.len
    have cl := l14Clashes (choicesS g) (by omega)
    have he := comp_empty (pairsK (choicesS g) (choicesS g).length)
    have hel := compL_nil (pairsK (choicesS g) (choicesS g).length)
    simp only [if_true]
    refine GS.cc (cg) rfl rfl rfl rfl (by simp [go_sem, List.take_of_length_le, grammarC] <;> with_reducible rfl) rfl (by simp [go_sem, List.take_of_length_le, grammarC]) ?_
    refine wkc (@grammarC.eq_1) _ ?_
    refine GS.cc (cc) rfl rfl rfl rfl (by simp [go_sem, List.take_of_length_le, grammarC] <;> with_reducible rfl) rfl (by simp [go_sem, List.take_of_length_le, grammarC]) ?_
    refine wkc0 _ ?_
    refine GS.cc (cl) rfl rfl rfl rfl (by simp [go_sem, List.take_of_length_le] <;> with_reducible rfl) rfl (by simp [go_sem, List.take_of_length_le]) ?_
    generalize compL (pairsK (choicesS g) (choicesS g).length) = M at he hel
    generalize pairsK (choicesS g) (choicesS g).length = N at he hel ⊢
    have he' : ((M.length : Int) == 0) = N.isEmpty := by
      rw [← he, Bool.eq_iff_iff, beq_iff_eq, beq_iff_eq]; omega
    cases M with
    | nil =>
      have : N = [] := hel.1 rfl
      subst this
      refine wkc (@intss.eq_1) _ ?_
      refine Out.mk (xs := ?_) ?_ ?_ (by first | exact .inr rfl | exact .inl rfl)
      rotate_left
      · simp [go_sem, List.take_of_length_le] <;> with_reducible rfl
      exact Fz.tuL (.cons (.v _) (.cons (.v _) .nil))
    | cons a M =>
      have hN : N.isEmpty = false := by rw [← he]; simp
      have hnn : ((((a :: M).length : Nat) : Int) == 0) = false := by rw [he', hN]
      rw [hN]
      refine wkc (@hnn) _ ?_
      refine Out.mk (xs := ?_) ?_ ?_ (by first | exact .inr rfl | exact .inl rfl)
      rotate_left
      · simp [go_sem, List.take_of_length_le] <;> with_reducible rfl
      exact Fz.tuL (.cons (.v _) (.cons (.v _) .nil))
end Go.Proofs.Ytenienncgjanpaa.En
end
section
namespace Go.Proofs.Ytenienncgjanpaa.En
open Go.RowKit
set_option linter.unusedSimpArgs false
set_option linter.unusedVariables false
inductive PT where
  | node (non rule : Int) (at' fin frm to : Nat) (kids : List PT)
def PT.fin : PT → Nat
  | .node _ _ _ d _ _ _ => d
mutual
def partC : PT → List AV
  | .node a b c d e f ks => [.v (.int .i64 a), .v (.int .i64 b), .v (.int .i64 c), .v (.int .i64 d), .v (.int .i64 e), .v (.int .i64 f), .im 1 (kidsC ks)]
def kidsC : List PT → List (List AV)
  | [] => []
  | k :: ks => [.pi (partC k)] :: kidsC ks
end
@[simp] theorem kidsC_len : ∀ ks, (kidsC ks).length = ks.length
  | [] => rfl
  | k :: ks => by simp [kidsC, kidsC_len ks]
theorem kidsC_cl : ∀ (ks : List PT), ∀ row ∈ kidsC ks, ∀ x ∈ row, cl1 x = true
  | [], row, h, _, _ => by simp [kidsC] at h
  | k :: ks, row, h, x, hx => by
    simp only [kidsC, List.mem_cons] at h
    rcases h with rfl | h
    · simp at hx; subst hx; rfl
    · exact kidsC_cl ks row h x hx
@[simp] theorem nfr_kidsC (ks : List PT) : nfr (kidsC ks) := nfr_of_ok (kidsC_cl ks)
end Go.Proofs.Ytenienncgjanpaa.En
end
section
namespace Go.Proofs.Ytenienncgjanpaa.En
open Go.RowKit
set_option linter.unusedSimpArgs false
set_option linter.unusedVariables false
set_option maxHeartbeats 8000000
end Go.Proofs.Ytenienncgjanpaa.En
end
section
namespace Go.Proofs.Ytenienncgjanpaa.En
open Go.RowKit
set_option linter.unusedSimpArgs false
set_option linter.unusedVariables false
set_option maxHeartbeats 8000000
end Go.Proofs.Ytenienncgjanpaa.En
end
section
namespace Go.Proofs.Ytenienncgjanpaa.En
open Go.RowKit
set_option linter.unusedSimpArgs false
set_option linter.unusedVariables false
set_option maxHeartbeats 8000000
end Go.Proofs.Ytenienncgjanpaa.En
end
section
namespace Go.Proofs.Ytenienncgjanpaa.En
open Go.RowKit
set_option linter.unusedSimpArgs false
set_option linter.unusedVariables false
end Go.Proofs.Ytenienncgjanpaa.En
end
section
namespace Go.Proofs.Ytenienncgjanpaa.En
open Go.RowKit
set_option linter.unusedSimpArgs false
set_option linter.unusedVariables false
set_option maxHeartbeats 8000000
def wordV (toks : Int) (w : List Int) : Bool := decide (w.length ≤ 10) && w.all fun n => inR n 0 (toks - 1)
theorem l1Word (g : GrammarT) (w : List Int) (h0 : -1000000 ≤ g.2.1) (h1 : g.2.1 ≤ 1000000) (hw : w.length < 4611686018427387904) : Pure Try.prog 56 [.ag (grammarC g), .im 1 (ints w)] (.v (.bool (wordV g.2.1 w))) := by
  refine Pure.mk (rs := [.tmp 4]) (nt := 15) Try.func56 (by kernel_rfl) rfl rfl rfl (by simp) ?_
  simp only [sl, grammarC]
  have hws : wr64 (g.2.1 - 1) = g.2.1 - 1 := wr64_id (by omega) (by omega)
  have c := l1All w 0 (g.2.1 - 1) hw
  unfold wordV
  rw [show decide (w.length ≤ 10) = decide ((w.length : Int) ≤ 10) by rw [decide_eq_decide]; omega]
  generalize (w.all fun n => inR n 0 (g.2.1 - 1)) = b at c
  refine wk0 _ ?_
  refine GS.guard (t := 8) rfl (fun h => ?_) (fun h => ?_)
  · refine wk (@hws) _ ?_
    refine GS.cc (c) rfl rfl rfl rfl (by simp [go_sem, List.take_of_length_le] <;> with_reducible rfl) rfl (by simp [go_sem, List.take_of_length_le]) ?_
    refine wk0 _ ?_
    rw [h]
    refine Out.mk (xs := ?_) ?_ ?_ (by first | exact .inr rfl | exact .inl rfl)
    rotate_left
    · simp [go_sem, List.take_of_length_le] <;> with_reducible rfl
    exact .v _
  · refine wk0 _ ?_
    rw [h]
    refine Out.mk (xs := ?_) ?_ ?_ (by first | exact .inr rfl | exact .inl rfl)
    rotate_left
    · simp [go_sem, List.take_of_length_le] <;> with_reducible rfl
    exact .v _
end Go.Proofs.Ytenienncgjanpaa.En
end
section
namespace Go.Proofs.Ytenienncgjanpaa.En
open Go.RowKit
set_option linter.unusedSimpArgs false
set_option linter.unusedVariables false
set_option maxHeartbeats 8000000
end Go.Proofs.Ytenienncgjanpaa.En
end
section
namespace Go.Proofs.Ytenienncgjanpaa.En
open Go.RowKit
set_option linter.unusedSimpArgs false
set_option linter.unusedVariables false
set_option maxHeartbeats 8000000
theorem isWord1 (n t : Int) (h0 : -1000000 ≤ t) (h1 : t ≤ 1000000) : Pure Try.prog 90 [.v (.int .i64 n), .pi [.v (.int .i64 t)]] (.v (.bool (!inR n 0 (t - 1)))) := by
  refine Pure.mk (rs := [.tmp 3]) (nt := 9) Try.func90 (by kernel_rfl) rfl rfl rfl (by simp) ?_
  simp only [sl]
  have hw : wr64 (t - 1) = t - 1 := wr64_id (by omega) (by omega)
  refine wk (@hw) _ ?_
  refine GS.cc (implIn n 0 (t - 1)) rfl rfl rfl rfl (by simp [go_sem, List.take_of_length_le] <;> with_reducible rfl) rfl (by simp [go_sem, List.take_of_length_le]) ?_
  refine wk0 _ ?_
  refine Out.mk (xs := ?_) ?_ ?_ (by first | exact .inr rfl | exact .inl rfl)
  rotate_left
  · simp [go_sem, List.take_of_length_le] <;> with_reducible rfl
  exact .v _
theorem isWord (t : Int) (w : List Int) (h0 : -1000000 ≤ t) (h1 : t ≤ 1000000) (hw : w.length < 4611686018427387904) : Pure Try.prog 58 [.v (.int .i64 t), .im 1 (ints w)] (.v (.bool (wordV t w))) := by
  refine Pure.mk (rs := [.tmp 4]) (nt := 14) Try.func58 (by kernel_rfl) rfl rfl rfl (by simp) ?_
  simp only [sl]
  have hc := containsFuncInt 90 [.pi [.v (.int .i64 t)]] (fun n => !inR n 0 (t - 1)) w hw rfl (fun x _ => isWord1 x t h0 h1)
  unfold wordV
  rw [all_not_any (fun n => inR n 0 (t - 1)) w, show decide (w.length ≤ 10) = decide ((w.length : Int) ≤ 10) by rw [decide_eq_decide]; omega]
  generalize (w.any fun n => !inR n 0 (t - 1)) = b at hc
  refine wk0 _ ?_
  refine GS.guard (t := 8) rfl (fun h => ?_) (fun h => ?_)
  · refine wk0 _ ?_
    refine GS.cd (hc) rfl rfl rfl rfl (by simp [go_sem, List.take_of_length_le] <;> with_reducible rfl) rfl (by exact .cons (.im _ _) (.cons (Fz.fnL (.cons (Fz.box rfl rfl rfl rfl) .nil)) .nil)) rfl ?_
    refine wk0 _ ?_
    rw [h]
    refine Out.mk (xs := ?_) ?_ ?_ (by first | exact .inr rfl | exact .inl rfl)
    rotate_left
    · simp [go_sem, List.take_of_length_le] <;> with_reducible rfl
    exact .v _
  · refine wk0 _ ?_
    rw [h]
    refine Out.mk (xs := ?_) ?_ ?_ (by first | exact .inr rfl | exact .inl rfl)
    rotate_left
    · simp [go_sem, List.take_of_length_le] <;> with_reducible rfl
    exact .v _
end Go.Proofs.Ytenienncgjanpaa.En
end
section
namespace Go.Proofs.Ytenienncgjanpaa.En
open Go.RowKit
set_option linter.unusedSimpArgs false
set_option linter.unusedVariables false
set_option maxHeartbeats 4000000
def isKey (x t : Int) (c : ChT) : Bool := (c.1 == x) && (c.2.1 == t)
theorem isKey_iff {x t : Int} {c : ChT} : isKey x t c = true ↔ c.1 = x ∧ c.2.1 = t := by simp [isKey]
def chooseA (l : List ChT) (x t : Int) : Int := match l.find? (isKey x t) with | some c => c.2.2 | none => -1
def lastA (x t : Int) (l : List ChT) : Int := l.foldl (fun a c => if isKey x t c then c.2.2 else a) (-1)
def OneKey (l : List ChT) : Prop := ∀ (i j : Nat) (c d : ChT), l[i]? = some c → l[j]? = some d → c.1 = d.1 → c.2.1 = d.2.1 → i = j
theorem pairsK_none {l : List ChT} (h : pairsK l l.length = []) {i : Nat} {c d : ChT} (hc : l[i]? = some c) (hd : l[i + 1]? = some d) : ¬ (c.1 = d.1 ∧ c.2.1 = d.2.1) := fun e => by
  have hlt := (List.getElem?_eq_some_iff.1 hd).1
  have : [d.1, d.2.1] ∈ pairsK l l.length := List.mem_flatMap.2 ⟨i + 1, List.mem_range.2 hlt, by simp only [pairAt, hc, hd]; rw [if_pos e]; exact .head _⟩
  rw [h] at this; cases this
theorem oneKey_of {l : List ChT} (hs : SortC l) (h : pairsK l l.length = []) : OneKey l := by
  have key : ∀ (i j : Nat) (c d : ChT), l[i]? = some c → l[j]? = some d → c.1 = d.1 → c.2.1 = d.2.1 → ¬ i < j := fun i j c d hc hd h1 h2 hij => by
    have hj := (List.getElem?_eq_some_iff.1 hd).1
    have he : l[i + 1]? = some l[i + 1] := List.getElem?_eq_getElem (by omega)
    have hce : lessC c l[i + 1] = true := by
      have := List.pairwise_iff_getElem.1 hs i (i + 1) (by omega) (by omega) (by omega)
      rwa [(List.getElem?_eq_some_iff.1 hc).2] at this
    have hed : l[i + 1] = d ∨ lessC l[i + 1] d = true := by
      by_cases e : i + 1 = j
      · left; subst e; exact (List.getElem?_eq_some_iff.1 hd).2
      · right
        have := List.pairwise_iff_getElem.1 hs (i + 1) j (by omega) hj (by omega)
        rwa [(List.getElem?_eq_some_iff.1 hd).2] at this
    generalize l[i + 1] = e at he hce hed
    have hn := pairsK_none h hc he
    rw [lessC_iff] at hce
    rcases hed with e1 | e1
    · subst e1; exact hn ⟨h1, h2⟩
    · rw [lessC_iff] at e1
      exact hn ⟨by omega, by omega⟩
  intro i j c d hc hd h1 h2
  have a := key i j c d hc hd h1 h2
  have b := key j i d c hd hc h1.symm h2.symm
  omega
theorem lastA_snoc (x t : Int) {l : List ChT} {j : Nat} {c : ChT} (h : l[j]? = some c) : lastA x t (l.take (j + 1)) = if isKey x t c then c.2.2 else lastA x t (l.take j) := by
  rw [List.take_add_one, h]
  simp [lastA, List.foldl_append]
theorem lastA_or (x t : Int) : ∀ (l : List ChT) (a : Int), (∃ c ∈ l, isKey x t c = true ∧ l.foldl (fun a c => if isKey x t c then c.2.2 else a) a = c.2.2) ∨ ((∀ c ∈ l, isKey x t c = false) ∧ l.foldl (fun a c => if isKey x t c then c.2.2 else a) a = a)
  | [], a => .inr ⟨fun c hc => absurd hc (List.not_mem_nil), rfl⟩
  | c :: l, a => by
    rw [List.foldl_cons]
    rcases lastA_or x t l (if isKey x t c then c.2.2 else a) with ⟨d, hd, h1, h2⟩ | ⟨h1, h2⟩
    · exact .inl ⟨d, .tail _ hd, h1, h2⟩
    · cases hk : isKey x t c with
      | true => rw [hk] at h2; exact .inl ⟨c, .head _, hk, h2⟩
      | false =>
        rw [hk] at h2
        exact .inr ⟨fun d hd => by
          rcases List.mem_cons.1 hd with e | e
          · subst e; exact hk
          · exact h1 d e, h2⟩
theorem lastA_choose {l : List ChT} (h : OneKey l) (x t : Int) : lastA x t l = chooseA l x t := by
  unfold chooseA lastA
  rcases lastA_or x t l (-1) with ⟨d, hd, h1, h2⟩ | ⟨h1, h2⟩
  · rw [h2]
    cases hf : l.find? (isKey x t) with
    | none =>
      have := List.find?_eq_none.1 hf d hd
      rw [h1] at this; exact absurd rfl this
    | some c =>
      have hc := List.find?_some hf
      have hm := List.mem_of_find?_eq_some hf
      obtain ⟨i, hi⟩ := List.mem_iff_getElem?.1 hd
      obtain ⟨j, hj⟩ := List.mem_iff_getElem?.1 hm
      obtain ⟨a1, a2⟩ := isKey_iff.1 h1
      obtain ⟨b1, b2⟩ := isKey_iff.1 hc
      have := h i j d c hi hj (by rw [a1, b1]) (by rw [a2, b2])
      subst this
      rw [hi] at hj
      cases hj; rfl
  · rw [h2]
    have : l.find? (isKey x t) = none := List.find?_eq_none.2 fun c hc => by rw [h1 c hc]; simp
    rw [this]
theorem choose_fst (l : List ChT) (x t : Int) : (fstP (isKey x t) l 0 = -1 ∧ chooseA l x t = -1) ∨ ∃ (i : Nat) (c : ChT), fstP (isKey x t) l 0 = (i : Int) ∧ l[i]? = some c ∧ chooseA l x t = c.2.2 := by
  have key : ∀ (l : List ChT) (k : Nat), (fstP (isKey x t) l k = -1 ∧ l.find? (isKey x t) = none) ∨ ∃ (i : Nat) (c : ChT), fstP (isKey x t) l k = ((k + i : Nat) : Int) ∧ l[i]? = some c ∧ l.find? (isKey x t) = some c := by
    intro l
    induction l with
    | nil => intro k; exact .inl ⟨rfl, rfl⟩
    | cons c l ih =>
      intro k
      unfold fstP
      cases hk : isKey x t c with
      | true => exact .inr ⟨0, c, by simp [hk], rfl, by simp [List.find?_cons, hk]⟩
      | false =>
        rcases ih (k + 1) with ⟨h1, h2⟩ | ⟨i, d, h1, h2, h3⟩
        · exact .inl ⟨by simpa [hk] using h1, by simp [List.find?_cons, hk, h2]⟩
        · exact .inr ⟨i + 1, d, by simp only [Bool.false_eq_true, if_false]; rw [h1]; congr 1; omega, h2, by simp [List.find?_cons, hk, h3]⟩
  rcases key l 0 with ⟨h1, h2⟩ | ⟨i, c, h1, h2, h3⟩
  · exact .inl ⟨h1, by simp only [chooseA, h2]⟩
  · exact .inr ⟨i, c, by simpa using h1, h2, by simp only [chooseA, h3]⟩
def tokA (w : List Int) (a : Nat) : Int := w.getD a (-1)
abbrev PaS := List Int × Nat × List Int
def stepA (g : GrammarT) (l : List ChT) (w : List Int) (s : PaS) : (List Int × Int × Bool) ⊕ PaS := match s.1 with
  | [] => .inl (if s.2.1 < w.length then ([], (s.2.1 : Int), false) else (s.2.2, (s.2.1 : Int), true))
  | x :: f => if x < 0 then (if -1 - x = tokA w s.2.1 then .inr (f, s.2.1 + 1, s.2.2) else .inl ([], (s.2.1 : Int), false))
    else if chooseA l x (tokA w s.2.1) < 0 ∨ s.2.2.length = 60 then .inl ([], (s.2.1 : Int), false)
    else .inr ((g.2.2.getD (chooseA l x (tokA w s.2.1)).toNat (0, [])).2 ++ f, s.2.1, s.2.2 ++ [chooseA l x (tokA w s.2.1)])
def runA (g : GrammarT) (l : List ChT) (w : List Int) : Nat → PaS → List Int × Int × Bool
  | 0, _ => ([], 0, false)
  | n + 1, s => match stepA g l w s with | .inl v => v | .inr s' => runA g l w n s'
def muA (w : List Int) (s : PaS) : Nat := (w.length - s.2.1) + (60 - s.2.2.length)
structure InvA (g : GrammarT) (l : List ChT) (w : List Int) (V : List Int × Int × Bool) (s : PaS) : Prop where
  at_ : s.2.1 ≤ w.length
  ln : s.2.2.length ≤ 60
  fl : s.1.length ≤ 1 + 4 * s.2.2.length
  fr : ∀ x ∈ s.1, -4 ≤ x ∧ x ≤ 5
  run : runA g l w (muA w s + 1) s = V
theorem InvA.done {g : GrammarT} {l : List ChT} {w : List Int} {V : List Int × Int × Bool} {s : PaS} (h : InvA g l w V s) {v : List Int × Int × Bool} (hs : stepA g l w s = .inl v) : v = V := by
  have := h.run
  simp only [runA, hs] at this
  exact this
theorem tokA_lt {w : List Int} {a : Nat} (h : a < w.length) : w[a]? = some (tokA w a) := by
  rw [tokA, List.getD_eq_getElem?_getD, List.getElem?_eq_getElem h]; rfl
theorem tokA_ge {w : List Int} {a : Nat} (h : ¬ a < w.length) : tokA w a = -1 := by
  rw [tokA, List.getD_eq_getElem?_getD, List.getElem?_eq_none (by omega)]; rfl
theorem InvA.tok {g : GrammarT} {l : List ChT} {w : List Int} {V : List Int × Int × Bool} {x : Int} {f : List Int} {a : Nat} {R : List Int} (h : InvA g l w V (x :: f, a, R)) (hx : x < 0) (ht : -1 - x = tokA w a) : a < w.length ∧ InvA g l w V (f, a + 1, R) := by
  have h1 := h.at_
  have h2 := h.ln
  have h3 := h.fl
  have h4 := h.fr
  have h5 := h.run
  dsimp only at h1 h2 h3 h4
  have hlt : a < w.length := by
    refine Classical.byContradiction fun hn => ?_
    rw [tokA_ge hn] at ht; omega
  refine ⟨hlt, hlt, h2, by simp only [List.length_cons] at h3; dsimp only; omega, fun y hy => h4 y (.tail _ hy), ?_⟩
  have hm : muA w (x :: f, a, R) = muA w (f, a + 1, R) + 1 := by simp only [muA]; omega
  rw [hm, runA] at h5
  simp only [stepA, if_pos hx, if_pos ht] at h5
  exact h5
theorem InvA.rule {g : GrammarT} (hG : OkG g) {w : List Int} {V : List Int × Int × Bool} {x : Int} {f : List Int} {a : Nat} {R : List Int} (h : InvA g (choicesS g) w V (x :: f, a, R)) (hx : ¬ x < 0) {i : Nat} {r : RuleT} (hc : chooseA (choicesS g) x (tokA w a) = (i : Int)) (hr : g.2.2[i]? = some r) (hl : ¬ R.length = 60) : InvA g (choicesS g) w V (r.2 ++ f, a, R ++ [(i : Int)]) := by
  have h1 := h.at_
  have h2 := h.ln
  have h3 := h.fl
  have h4 := h.fr
  have h5 := h.run
  dsimp only at h1 h2 h3 h4
  have hm := List.mem_of_getElem? hr
  have hr4 := hG.r4 r hm
  have hs0 := hG.s0 r hm
  have hs1 := hG.s1 r hm
  have ht1 := hG.t1
  have hn1 := hG.n1
  refine ⟨h1, by simp only [List.length_append, List.length_singleton]; omega, by simp only [List.length_cons] at h3; simp only [List.length_append, List.length_singleton]; omega, fun y hy => ?_, ?_⟩
  · rcases List.mem_append.1 hy with hy | hy
    · have := hs0 y hy; have := hs1 y hy; omega
    · exact h4 y (.tail _ hy)
  have hmu : muA w (x :: f, a, R) = muA w (r.2 ++ f, a, R ++ [(i : Int)]) + 1 := by simp only [muA, List.length_append, List.length_singleton]; omega
  rw [hmu, runA] at h5
  have hn : ¬ (chooseA (choicesS g) x (tokA w a) < 0 ∨ R.length = 60) := by rw [hc]; omega
  simp only [stepA, if_neg hx, if_neg hn] at h5
  rw [hc, Int.toNat_natCast, List.getD_eq_getElem?_getD, hr] at h5
  exact h5
noncomputable def paV (g : GrammarT) (w : List Int) : List Int × Int × Bool := if (goodG g && wordV g.2.1 w && (pairsK (choicesS g) (choicesS g).length).isEmpty) = true then runA g (choicesS g) w (w.length + 61) ([0], 0, []) else ([], 0, false)
theorem InvA.start (g : GrammarT) (l : List ChT) (w : List Int) : InvA g l w (runA g l w (w.length + 61) ([0], 0, [])) ([0], 0, []) := ⟨Nat.zero_le _, by simp, by simp, fun x hx => by rw [List.mem_singleton] at hx; subst hx; omega, by simp only [muA, List.length_nil, Nat.sub_zero]⟩
theorem runA_len (g : GrammarT) (l : List ChT) (w : List Int) : ∀ (n : Nat) (s : PaS), s.2.2.length ≤ 60 → (runA g l w n s).1.length ≤ 60
  | 0, s, h => by simp [runA]
  | n + 1, s, h => by
    obtain ⟨form, a, R⟩ := s
    dsimp only at h
    simp only [runA, stepA]
    cases form with
    | nil => dsimp only; split <;> simp [h]
    | cons x f =>
      dsimp only
      by_cases hx : x < 0
      · rw [if_pos hx]
        by_cases ht : -1 - x = tokA w a
        · rw [if_pos ht]; exact runA_len g l w n _ h
        · rw [if_neg ht]; simp
      · rw [if_neg hx]
        by_cases hc : chooseA l x (tokA w a) < 0 ∨ R.length = 60
        · rw [if_pos hc]; simp
        · rw [if_neg hc]
          exact runA_len g l w n _ (by dsimp only; rw [List.length_append, List.length_singleton]; omega)
theorem paV_len (g : GrammarT) (w : List Int) : (paV g w).1.length ≤ 60 := by
  unfold paV
  split
  · exact runA_len _ _ _ _ _ (by simp)
  · simp
end Go.Proofs.Ytenienncgjanpaa.En
end
section
namespace Go.Proofs.Ytenienncgjanpaa.En
open Go.RowKit
set_option linter.unusedSimpArgs false
set_option linter.unusedVariables false
set_option maxHeartbeats 4000000
theorem indexFuncChoice (g : FuncId) (cap : List AV) (p : ChT → Bool) (xs : List ChT) (hx : xs.length < 4611686018427387904) (hcap : cap.all cl1 = true) (hg : ∀ x ∈ xs, Pure Try.prog g (.ag (nodeC x) :: cap) (.v (.bool (p x)))) : Pure Try.prog 60 [.im 3 (nodes xs), .fn g cap] (.v (.int .i64 (fstP p xs 0))) := by
  refine Pure.mk (rs := [.tmp 4]) (nt := 19) Try.func60 (by kernel_rfl) rfl rfl rfl (by simp) ?_
  simp only [sl]
  refine wk0 _ ?_
  refine Holds.loop (ι := Nat) (fun i => ⟨[(0, .im 3 (nodes xs)), (1, .fn g cap), (7, .v (.int .i64 xs.length)), (8, .v (.int .i64 i))], [], 0⟩) (fun i => i ≤ xs.length ∧ ∀ j, j < i → ∀ x, xs[j]? = some x → p x = false) (fun i => xs.length - i) 0 ⟨Nat.zero_le _, fun j hj => absurd hj (Nat.not_lt_zero j)⟩ ?_ ?_
  · exact Cov.ofn id rfl (by simp [go_sem, ren, ren1, okr, okr1, ChkT, okr1_cap hcap, ren1_cap hcap]) (by simp [ChkN])
  rintro i ⟨hi, hno⟩
  refine wk0 _ ?_
  refine Holds.cond rfl (fun hl => ?_) (fun hl => ?_)
  · have hlt : i < xs.length := by simpa using hl
    have hxi : xs[i]? = some xs[i] := List.getElem?_eq_getElem hlt
    have hgi := hg _ (List.getElem_mem hlt)
    refine wk (And.intro @hxi (@nodeC.eq_1)) _ ?_
    refine GS.cc (hgi) rfl rfl rfl rfl (by simp [go_sem, List.take_of_length_le, hcap, all_cl1 hcap , nodeC] <;> with_reducible rfl) rfl (by simp [go_sem, List.take_of_length_le, hcap, all_cl1 hcap , nodeC]) ?_
    refine wk0 _ ?_
    refine Holds.cond rfl (fun hl => ?_) (fun hl => ?_)
    · rw [fstP_at xs i 0 hxi hl hno, Nat.zero_add]
      refine wk0 _ ?_
      refine Out.mk (xs := ?_) ?_ ?_ (by first | exact .inr rfl | exact .inl rfl)
      rotate_left
      · simp [go_sem, List.take_of_length_le] <;> with_reducible rfl
      exact .v _
    · refine wk0 _ ?_
      refine ⟨i + 1, ⟨by omega, fun j hj x hxj => ?_⟩, by omega, ?_⟩
      · by_cases e : j = i
        · subst e; rw [hxi] at hxj; cases hxj; exact hl
        · exact hno j (by omega) x hxj
      rw [wr64_id (by omega) (by omega)]
      exact Cov.ofn id rfl (by simp [go_sem, ren, ren1, okr, okr1, ChkT, okr1_cap hcap, ren1_cap hcap]) (by simp [ChkN])
  · have hle : i = xs.length := by
      have : ¬ i < xs.length := by simpa using hl
      omega
    rw [fstP_no xs 0 fun j x hj => hno j (by have := (List.getElem?_eq_some_iff.1 hj).1; omega) x hj]
    refine wk0 _ ?_
    refine Out.mk (xs := ?_) ?_ ?_ (by first | exact .inr rfl | exact .inl rfl)
    rotate_left
    · simp [go_sem, List.take_of_length_le] <;> with_reducible rfl
    exact .v _
theorem parseKey (x t : Int) (c : ChT) : Pure Try.prog 61 [.ag (nodeC c), .pi [.v (.int .i64 x)], .pi [.v (.int .i64 t)]] (.v (.bool (isKey x t c))) := by
  unfold isKey
  obtain ⟨a, b, d⟩ := c
  dsimp only
  refine Pure.mk (rs := [.tmp 4]) (nt := 15) Try.func61 (by kernel_rfl) rfl rfl rfl (by simp) ?_
  simp only [sl, nodeC]
  cases h1 : (a == x) with
  | false =>
    rw [Bool.false_and]
    refine wkc (And.intro @nodeC.eq_1 (@h1)) _ ?_
    refine Out.mk (xs := ?_) ?_ ?_ (by first | exact .inr rfl | exact .inl rfl)
    rotate_left
    · simp [go_sem, List.take_of_length_le] <;> with_reducible rfl
    exact .v _
  | true =>
    rw [Bool.true_and]
    generalize h2 : (b == t) = q
    refine wkc (And.intro @nodeC.eq_1 (And.intro @h1 (@h2))) _ ?_
    refine Out.mk (xs := ?_) ?_ ?_ (by first | exact .inr rfl | exact .inl rfl)
    rotate_left
    · simp [go_sem, List.take_of_length_le] <;> with_reducible rfl
    exact .v _
theorem wordV_okA {t : Int} {w : List Int} (ht : t ≤ 4) (h : wordV t w = true) : w.length ≤ 10 ∧ ∀ x ∈ w, 0 ≤ x ∧ x ≤ 3 := by
  simp only [wordV, Bool.and_eq_true, decide_eq_true_eq] at h
  refine ⟨h.1, fun x hx => ?_⟩
  have := (List.all_eq_true.1 h.2) x hx
  simp only [inR, Bool.and_eq_true, decide_eq_true_eq] at this
  omega
theorem implPA (g : GrammarT) (w : List Int) (hx : g.2.2.length < 4611686018427387904) (hs : ∀ e ∈ g.2.2, e.2.length < 4611686018427387904) (hw : w.length < 4611686018427387904) : Fn Try.prog 34 0 [.ag (grammarC g), .im 1 (ints w)] [] (.tu [.own 0 1 0 (paV g w).1.length, .v (.int .i64 (paV g w).2.1), .v (.bool (paV g w).2.2)]) 1 [(0, ⟨3, 1, ints (paV g w).1⟩)] := by
  have cg := implGoodG g hx hs
  unfold paV
  refine Fn.mk (rs := [.tmp 4, .tmp 5, .tmp 6]) (nt := 98) Try.func34 (by kernel_rfl) rfl rfl rfl (by simp) ?_
  simp only [sl, grammarC]
  refine wkdc0 _ ?_
  cases hg : goodG g with
  | false =>
    rw [hg] at cg
    simp only [Bool.false_and, Bool.false_eq_true, if_false]
    first | refine GS.cc (cg) rfl rfl rfl rfl (by simp [go_sem, List.take_of_length_le, grammarC] <;> with_reducible rfl) rfl (by simp [go_sem, List.take_of_length_le, grammarC]) ?_ | refine Gd.cc (cg) rfl rfl rfl rfl (by simp [go_sem, List.take_of_length_le, grammarC] <;> with_reducible rfl) rfl (by simp [go_sem, List.take_of_length_le, grammarC]) ?_
    refine wkdc0 _ ?_
    refine OutF.cov (Cov.niw (t := 4) 3 1 rfl) ?_
    refine OutF.mkn (xs := ?_) (nm [1]) ?_ ?_ ?_ ?_ ?_ (by first | exact .inr rfl | exact .inl rfl)
    rotate_left
    · simp [go_sem, List.take_of_length_le, niw, ints] <;> with_reducible rfl
    · simp [go_sem, List.take_of_length_le, ren, ren1, ren2, okr, okr1, okr2, ChkN, BlkN, List.range_succ, nf, niw, ints]
    · simp [go_sem, List.take_of_length_le, ren, ren1, ren2, okr, okr1, okr2, ChkN, BlkN, List.range_succ, nf, niw, ints]
    · simp [go_sem, List.take_of_length_le, ren, ren1, ren2, okr, okr1, okr2, ChkN, BlkN, List.range_succ, nf, niw, ints]
    · rfl
  | true =>
    rw [hg] at cg
    have hG := goodG_ok hg
    have ht0 := hG.t0
    have ht1 := hG.t1
    have hn1 := hG.n1
    have hlen := hG.len
    have cw := isWord g.2.1 w (by omega) (by omega) hw
    rw [Bool.true_and]
    first | refine GS.cc (cg) rfl rfl rfl rfl (by simp [go_sem, List.take_of_length_le, grammarC] <;> with_reducible rfl) rfl (by simp [go_sem, List.take_of_length_le, grammarC]) ?_ | refine Gd.cc (cg) rfl rfl rfl rfl (by simp [go_sem, List.take_of_length_le, grammarC] <;> with_reducible rfl) rfl (by simp [go_sem, List.take_of_length_le, grammarC]) ?_
    refine wkdc (@grammarC.eq_1) _ ?_
    cases hwv : wordV g.2.1 w with
    | false =>
      rw [hwv] at cw
      simp only [Bool.false_and, Bool.false_eq_true, if_false]
      first | refine GS.cc (cw) rfl rfl rfl rfl (by simp [go_sem, List.take_of_length_le] <;> with_reducible rfl) rfl (by simp [go_sem, List.take_of_length_le]) ?_ | refine Gd.cc (cw) rfl rfl rfl rfl (by simp [go_sem, List.take_of_length_le] <;> with_reducible rfl) rfl (by simp [go_sem, List.take_of_length_le]) ?_
      refine wkdc0 _ ?_
      refine OutF.cov (Cov.niw (t := 4) 3 1 rfl) ?_
      refine OutF.mkn (xs := ?_) (nm [1]) ?_ ?_ ?_ ?_ ?_ (by first | exact .inr rfl | exact .inl rfl)
      rotate_left
      · simp [go_sem, List.take_of_length_le, niw, ints] <;> with_reducible rfl
      · simp [go_sem, List.take_of_length_le, ren, ren1, ren2, okr, okr1, okr2, ChkN, BlkN, List.range_succ, nf, niw, ints]
      · simp [go_sem, List.take_of_length_le, ren, ren1, ren2, okr, okr1, okr2, ChkN, BlkN, List.range_succ, nf, niw, ints]
      · simp [go_sem, List.take_of_length_le, ren, ren1, ren2, okr, okr1, okr2, ChkN, BlkN, List.range_succ, nf, niw, ints]
      · rfl
    | true =>
      rw [hwv] at cw
      rw [Bool.true_and]
      obtain ⟨w1, w2⟩ := wordV_okA ht1 hwv
      have cc := clashesG g hG
      have hel := compL_nil (pairsK (choicesS g) (choicesS g).length)
      generalize hM : compL (pairsK (choicesS g) (choicesS g).length) = M at hel cc
      first | refine GS.cc (cw) rfl rfl rfl rfl (by simp [go_sem, List.take_of_length_le] <;> with_reducible rfl) rfl (by simp [go_sem, List.take_of_length_le]) ?_ | refine Gd.cc (cw) rfl rfl rfl rfl (by simp [go_sem, List.take_of_length_le] <;> with_reducible rfl) rfl (by simp [go_sem, List.take_of_length_le]) ?_
      refine wkdc (@grammarC.eq_1) _ ?_
      refine GS.fnn [] (cc) rfl rfl rfl rfl (by simp [go_sem, List.take_of_length_le, ren, ren1, ren2, okr, okr1, okr2, ChkN, BlkN, List.range_succ, nf, grammarC] <;> with_reducible rfl) (by simp [go_sem, List.take_of_length_le, ren, ren1, ren2, okr, okr1, okr2, ChkN, BlkN, List.range_succ, nf, grammarC]) (by simp [go_sem, List.take_of_length_le, ren, ren1, ren2, okr, okr1, okr2, ChkN, BlkN, List.range_succ, nf, grammarC]) (by simp [List.range_succ, lb]) (ChkN.toB (by simp [go_sem, List.take_of_length_le, ren, ren1, ren2, okr, okr1, okr2, ChkN, BlkN, List.range_succ, nf, grammarC])) (by decide) (by simp) rfl (.nfr (by simp) .nil) (by simp [go_sem, List.take_of_length_le, ren, ren1, ren2, okr, okr1, okr2, ChkN, BlkN, List.range_succ, nf, grammarC] <;> with_reducible rfl) ?_
      by_cases hMl : M = []
      · have hN : pairsK (choicesS g) (choicesS g).length = [] := hel.1 hMl
        rw [hN]
        subst hMl
        simp only [List.isEmpty_nil, if_true]
        have ch := choicesG g hG
        have hok : ∀ c ∈ choicesS g, okC g c := fun c hc => (choicesS_mem g c).1 hc
        have hcl := choicesS_len g
        have hI := InvA.start g (choicesS g) w
        obtain ⟨V, hV⟩ : ∃ V, V = runA g (choicesS g) w (w.length + 61) ([0], 0, []) := ⟨_, rfl⟩
        rw [← hV] at hI ⊢
        clear hV
        refine wkdc (@grammarC.eq_1) _ ?_
        refine GS.fnn [] (ch) rfl rfl rfl rfl (by simp [go_sem, List.take_of_length_le, ren, ren1, ren2, okr, okr1, okr2, ChkN, BlkN, List.range_succ, nf, grammarC] <;> with_reducible rfl) (by simp [go_sem, List.take_of_length_le, ren, ren1, ren2, okr, okr1, okr2, ChkN, BlkN, List.range_succ, nf, grammarC]) (by simp [go_sem, List.take_of_length_le, ren, ren1, ren2, okr, okr1, okr2, ChkN, BlkN, List.range_succ, nf, grammarC]) (by simp [List.range_succ, lb]) (ChkN.toB (by simp [go_sem, List.take_of_length_le, ren, ren1, ren2, okr, okr1, okr2, ChkN, BlkN, List.range_succ, nf, grammarC])) (by decide) (by simp) rfl (.nfr (by simp) .nil) (by simp [go_sem, List.take_of_length_le, ren, ren1, ren2, okr, okr1, okr2, ChkN, BlkN, List.range_succ, nf, grammarC] <;> with_reducible rfl) ?_
        repeat' first | (refine Holds.condT ?_ ?_; (· (simp [go_sem, List.take_of_length_le] <;> with_reducible rfl))) | (refine Holds.condF ?_ ?_; (· (simp [go_sem, List.take_of_length_le] <;> with_reducible rfl))) | refine Holds.seq ?_ | refine Holds.skip ?_ | refine Holds.exit ?_ | refine Holds.ret ?_ | refine thenA_normal ?_ | refine thenA_exit ?_ | refine thenA_ret ?_ | refine inB_normal ?_ | refine inB_ret ?_ | refine inB_here ?_ | (refine inB_past ?_ ?_; (· exact rfl)) | refine Holds.reg ?_ | refine Holds.block ?_ | refine GS.nil ?_ | refine Gd.nil ?_ | (refine Holds.any mixed ?_ ?_; (· kernel_rfl)) | (refine GS.stepD 33 (s' := ?_) rfl ?_ ?_ ?_; rotate_left; (· exact rfl); (· (simp [go_sem, List.take_of_length_le] <;> with_reducible rfl))) | (refine GS.skip ?_ ?_ ?_; (· exact rfl); (· exact rfl)) | (refine Gd.go (s' := ?_) ?_ ?_ ?_; rotate_left; (· exact rfl); (· (simp [go_sem, List.take_of_length_le] <;> with_reducible rfl))) | (refine Gd.skip ?_ ?_ ?_; (· exact rfl); (· exact rfl)) | fail
        refine GS.frz [2] [(7, .im 3 (nodes (choicesS g)))] (.cons rfl (Fz.all rfl rfl (by simp) rfl (nodes_ok _)) .nil) ?_
        have hi0 : ints [0] = [[.v (.int .i64 0)]] := rfl
        have hone := oneKey_of (choicesS_sort g) hN
        generalize hl : choicesS g = l at hok hcl hI hone ⊢
        refine wkdc (And.intro @frz.eq_1 (@hi0)) _ ?_
        refine Holds.frz [4] [(10, .im 1 (ints [0]))] (.cons rfl (Fz.all rfl rfl rfl rfl (ints_cl _)) .nil) ?_
        refine Holds.loop (ι := PaS) (fun s => ⟨[(1, .im 1 (ints w)), (2, .pb 0 3 0 0), (7, .im 3 (nodes l)), (8, .own 1 1 0 s.2.2.length), (9, .v (.int .i64 s.2.1)), (10, .im 1 (ints s.1))], [(1, ⟨3, 1, ints s.2.2⟩), (0, ⟨31, 3, [grammarC g]⟩)], 2⟩)
          (fun s => InvA g l w V s) (fun s => muA w s) ([0], 0, []) hI ?_ ?_
        · exact Cov.ofn (nm [0, 3]) rfl (by simp [go_sem, List.take_of_length_le, ren, ren1, ren2, okr, okr1, okr2, ChkT, ChkN, BlkN, nf, frz, grammarC, ints]) (by simp [go_sem, List.take_of_length_le, ren, ren1, ren2, okr, okr1, okr2, ChkT, ChkN, BlkN, nf, frz, grammarC, ints])
        clear hI
        rintro ⟨form, a, R⟩ hI
        have h1 := hI.at_
        have h2 := hI.ln
        have h3 := hI.fl
        have h4 := hI.fr
        dsimp only at h1 h2 h3 h4 ⊢
        have stepa : wr64 ((a : Int) + 1) = ((a + 1 : Nat) : Int) := wr64_id (by omega) (by omega)
        cases form with
        | nil =>
          have hnil : ints [] = [] := rfl
          by_cases hal : a < w.length
          · have hv := hI.done (v := ([], (a : Int), false)) (by simp only [stepA, if_pos hal])
            subst hv
            have hali : (a : Int) < (w.length : Int) := by omega
            refine wkdc (And.intro @hal (And.intro @hali (@hnil))) _ ?_
            refine OutF.cov (Cov.niw (t := 4) 3 1 rfl) ?_
            refine OutF.mkn (xs := ?_) (nm [2]) ?_ ?_ ?_ ?_ ?_ (by first | exact .inr rfl | exact .inl rfl)
            rotate_left
            · simp [go_sem, List.take_of_length_le, niw, ints] <;> with_reducible rfl
            · simp [go_sem, List.take_of_length_le, ren, ren1, ren2, okr, okr1, okr2, ChkN, BlkN, List.range_succ, nf, niw, ints]
            · simp [go_sem, List.take_of_length_le, ren, ren1, ren2, okr, okr1, okr2, ChkN, BlkN, List.range_succ, nf, niw, ints]
            · simp [go_sem, List.take_of_length_le, ren, ren1, ren2, okr, okr1, okr2, ChkN, BlkN, List.range_succ, nf, niw, ints]
            · rfl
          · have hv := hI.done (v := (R, (a : Int), true)) (by simp only [stepA, if_neg hal])
            subst hv
            have hali : ¬ (a : Int) < (w.length : Int) := by omega
            refine wkdc (And.intro @hal (And.intro @hali (@hnil))) _ ?_
            refine OutF.mkn (xs := ?_) (nm [1]) ?_ ?_ ?_ ?_ ?_ (by first | exact .inr rfl | exact .inl rfl)
            rotate_left
            · simp [go_sem, List.take_of_length_le] <;> with_reducible rfl
            · simp [go_sem, List.take_of_length_le, ren, ren1, ren2, okr, okr1, okr2, ChkN, BlkN, List.range_succ, nf]
            · simp [go_sem, List.take_of_length_le, ren, ren1, ren2, okr, okr1, okr2, ChkN, BlkN, List.range_succ, nf]
            · simp [go_sem, List.take_of_length_le, ren, ren1, ren2, okr, okr1, okr2, ChkN, BlkN, List.range_succ, nf]
            · rfl
        | cons x f =>
          have hx := h4 x (.head _)
          have hxc : (ints (x :: f)) = [.v (.int .i64 x)] :: ints f := rfl
          obtain ⟨t, ht⟩ : ∃ t, t = tokA w a := ⟨_, rfl⟩
          have hfl : ((ints (x :: f)).length : Int) = (f.length : Int) + 1 := by simp
          refine wkdc (@hxc) _ ?_
          refine Holds.join (ι := Unit) (fun _ => ⟨[(1, .im 1 (ints w)), (2, .pb 0 3 0 0), (7, .im 3 (nodes l)), (8, .own 1 1 0 R.length), (9, .v (.int .i64 a)), (10, .im 1 ([.v (.int .i64 x)] :: ints f)), (11, .pb 2 1 0 0), (12, .pb 3 1 0 0)], [(3, ⟨3, 1, [[.v (.int .i64 t)]]⟩), (2, ⟨3, 1, [[.v (.int .i64 x)]]⟩), (1, ⟨3, 1, ints R⟩), (0, ⟨31, 3, [grammarC g]⟩)], 4⟩) (fun _ => True) ?_ ?_
          · refine Holds.cond rfl (fun h => ?_) (fun h => ?_)
            · have hal : a < w.length := by simpa using h
              have hwa := tokA_lt hal
              rw [← ht] at hwa
              refine wkdc (And.intro @hal (And.intro @hwa (@get_E _ _ _ _ hwa))) _ ?_
              refine ⟨(), trivial, ?_⟩
              exact Cov.ofn (id) rfl (by simp [go_sem, List.take_of_length_le, ren, ren1, ren2, okr, okr1, okr2, ChkT, ChkN, BlkN, nf, grammarC]) (by simp [go_sem, List.take_of_length_le, ren, ren1, ren2, okr, okr1, okr2, ChkT, ChkN, BlkN, nf, grammarC])
            · have hal : ¬ a < w.length := by simpa using h
              have htt := tokA_ge hal
              rw [← ht] at htt
              rw [htt]
              refine wkdc0 _ ?_
              refine ⟨(), trivial, ?_⟩
              exact Cov.ofn (id) rfl (by simp [go_sem, List.take_of_length_le, ren, ren1, ren2, okr, okr1, okr2, ChkT, ChkN, BlkN, nf, grammarC]) (by simp [go_sem, List.take_of_length_le, ren, ren1, ren2, okr, okr1, okr2, ChkT, ChkN, BlkN, nf, grammarC])
          rintro ⟨⟩ _
          by_cases hx0 : x < 0
          · have cs := symbolOfA x (by omega) (by omega)
            refine wkdc (@hx0) _ ?_
            first | refine GS.cc (cs) rfl rfl rfl rfl (by simp [go_sem, List.take_of_length_le] <;> with_reducible rfl) rfl (by simp [go_sem, List.take_of_length_le]) ?_ | refine Gd.cc (cs) rfl rfl rfl rfl (by simp [go_sem, List.take_of_length_le] <;> with_reducible rfl) rfl (by simp [go_sem, List.take_of_length_le]) ?_
            by_cases hxt : -1 - x = t
            · obtain ⟨hal, hI'⟩ := hI.tok hx0 (by rw [hxt, ht])
              rw [hxt]
              refine wkdc0 _ ?_
              refine ⟨(f, a + 1, R), hI', by simp only [muA]; omega, ?_⟩
              rw [stepa]
              exact Cov.ofn (id) rfl (by simp [go_sem, List.take_of_length_le, ren, ren1, ren2, okr, okr1, okr2, ChkT, ChkN, BlkN, nf, grammarC]) (by simp [go_sem, List.take_of_length_le, ren, ren1, ren2, okr, okr1, okr2, ChkT, ChkN, BlkN, nf, grammarC])
            · have hv := hI.done (v := ([], (a : Int), false)) (by simp only [stepA, if_pos hx0]; rw [← ht, if_neg hxt])
              subst hv
              have hne : (-1 - x == t) = false := by rw [beq_eq_false_iff_ne]; omega
              refine wkdc (And.intro @hne (And.intro ((show ¬ -1 - x = t by omega)) ((show (-1 - x != t) = true by simp [bne, hne])))) _ ?_
              refine OutF.cov (Cov.niw (t := 4) 3 1 rfl) ?_
              refine OutF.mkn (xs := ?_) (nm [4]) ?_ ?_ ?_ ?_ ?_ (by first | exact .inr rfl | exact .inl rfl)
              rotate_left
              · simp [go_sem, List.take_of_length_le, niw, ints] <;> with_reducible rfl
              · simp [go_sem, List.take_of_length_le, ren, ren1, ren2, okr, okr1, okr2, ChkN, BlkN, List.range_succ, nf, niw, ints]
              · simp [go_sem, List.take_of_length_le, ren, ren1, ren2, okr, okr1, okr2, ChkN, BlkN, List.range_succ, nf, niw, ints]
              · simp [go_sem, List.take_of_length_le, ren, ren1, ren2, okr, okr1, okr2, ChkN, BlkN, List.range_succ, nf, niw, ints]
              · rfl
          · have ci := indexFuncChoice 61 [.pi [.v (.int .i64 x)], .pi [.v (.int .i64 t)]] (isKey x t) l (by omega) rfl (fun c _ => parseKey x t c)
            refine wkdc (@hx0) _ ?_
            first | refine GS.cd (ci) rfl rfl rfl rfl (by simp [go_sem, List.take_of_length_le] <;> with_reducible rfl) rfl (by exact .cons (.im _ _) (.cons (Fz.fnL (.cons (Fz.box rfl rfl rfl rfl) (.cons (Fz.box rfl rfl rfl rfl) .nil))) .nil)) rfl ?_ | refine Gd.cd (ci) rfl rfl rfl rfl (by simp [go_sem, List.take_of_length_le] <;> with_reducible rfl) rfl (by exact .cons (.im _ _) (.cons (Fz.fnL (.cons (Fz.box rfl rfl rfl rfl) (.cons (Fz.box rfl rfl rfl rfl) .nil))) .nil)) rfl ?_
            rcases choose_fst l x t with ⟨e1, e2⟩ | ⟨i, c, e1, hic, e2⟩
            · have hv := hI.done (v := ([], (a : Int), false)) (by simp only [stepA, if_neg hx0]; rw [← ht, if_pos (.inl (by omega))])
              subst hv
              rw [e1]
              refine wkdc0 _ ?_
              refine OutF.cov (Cov.niw (t := 4) 3 1 rfl) ?_
              refine OutF.mkn (xs := ?_) (nm [4]) ?_ ?_ ?_ ?_ ?_ (by first | exact .inr rfl | exact .inl rfl)
              rotate_left
              · simp [go_sem, List.take_of_length_le, niw, ints] <;> with_reducible rfl
              · simp [go_sem, List.take_of_length_le, ren, ren1, ren2, okr, okr1, okr2, ChkN, BlkN, List.range_succ, nf, niw, ints]
              · simp [go_sem, List.take_of_length_le, ren, ren1, ren2, okr, okr1, okr2, ChkN, BlkN, List.range_succ, nf, niw, ints]
              · simp [go_sem, List.take_of_length_le, ren, ren1, ren2, okr, okr1, okr2, ChkN, BlkN, List.range_succ, nf, niw, ints]
              · rfl
            · rw [e1]
              have hi0' : ¬ (i : Int) < 0 := by omega
              have hil : i < l.length := (List.getElem?_eq_some_iff.1 hic).1
              by_cases hR : R.length = 60
              · have hv := hI.done (v := ([], (a : Int), false)) (by simp only [stepA, if_neg hx0]; rw [← ht, if_pos (.inr hR)])
                subst hv
                have hRi : ((R.length : Int) == 60) = true := by rw [hR]; rfl
                refine wkdc (And.intro @hi0' (And.intro @hRi (@hR))) _ ?_
                refine OutF.cov (Cov.niw (t := 4) 3 1 rfl) ?_
                refine OutF.mkn (xs := ?_) (nm [4]) ?_ ?_ ?_ ?_ ?_ (by first | exact .inr rfl | exact .inl rfl)
                rotate_left
                · simp [go_sem, List.take_of_length_le, niw, ints] <;> with_reducible rfl
                · simp [go_sem, List.take_of_length_le, ren, ren1, ren2, okr, okr1, okr2, ChkN, BlkN, List.range_succ, nf, niw, ints]
                · simp [go_sem, List.take_of_length_le, ren, ren1, ren2, okr, okr1, okr2, ChkN, BlkN, List.range_succ, nf, niw, ints]
                · simp [go_sem, List.take_of_length_le, ren, ren1, ren2, okr, okr1, okr2, ChkN, BlkN, List.range_succ, nf, niw, ints]
                · rfl
              · have hRi : ((R.length : Int) == 60) = false := by rw [beq_eq_false_iff_ne]; omega
                obtain ⟨q, r, hq, hr, _, _, _⟩ := hok c (List.mem_of_getElem? hic)
                rw [hq] at e2
                subst hl
                have hI' := hI.rule hG hx0 (by rw [← ht]; exact e2) hr hR
                have hql : q < g.2.2.length := (List.getElem?_eq_some_iff.1 hr).1
                have hr4 := hG.r4 r (List.mem_of_getElem? hr)
                have hbb : (R.length + 1) * 8 ≤ 140737488355328 := by omega
                simp only [List.length_cons] at h3
                have hb1 : r.2.length * 8 ≤ 140737488355328 := by omega
                have hb2 : (r.2.length + f.length) * 8 ≤ 140737488355328 := by omega
                refine wkdsc (And.intro @hi0' (And.intro @hRi (And.intro @hR (And.intro @hil (And.intro @hic (And.intro (@get_E _ _ _ _ hic) (And.intro @nodeC.eq_1 (And.intro @hq (And.intro @hbb (And.intro @hql (And.intro @hr (And.intro (@get_E _ _ _ _ hr) (And.intro @ruleC.eq_1 (And.intro @grammarC.eq_1 (And.intro @ints_all (And.intro @hb1 (@hb2))))))))))))))))) _ ?_
                refine Holds.anx [0, 7, 10] [1, 2, 3, 4, 5, 6, 8, 9] (fun n => decide (7 ≤ n)) mixed ?_ ?_ ?_; (· kernel_rfl); (· kernel_rfl)
                refine wkdasc (And.intro @hi0' (And.intro @hRi (And.intro @hR (And.intro @hil (And.intro @hic (And.intro (@get_E _ _ _ _ hic) (And.intro @nodeC.eq_1 (And.intro @hq (And.intro @hbb (And.intro @hql (And.intro @hr (And.intro (@get_E _ _ _ _ hr) (And.intro @ruleC.eq_1 (And.intro @grammarC.eq_1 (And.intro @ints_all (And.intro @hb1 (@hb2))))))))))))))))) _ ?_
                refine ⟨(r.2 ++ f, a, R ++ [(q : Int)]), hI', by simp only [muA, List.length_append, List.length_singleton]; omega, ?_⟩
                refine Cov.trans ?_ (Cov.freeze [11] (ts := [(10, .im 1 (ints (r.2 ++ f)))]) (.cons rfl (Fz.all rfl rfl (by simp) (by simp [ints]) (ints_cl _)) .nil))
                exact Cov.ofn (nm [0, 6]) rfl (by simp [go_sem, List.take_of_length_le, ren, ren1, ren2, okr, okr1, okr2, ChkT, ChkN, BlkN, nf, frz, grammarC, ints_snoc]) (by simp [go_sem, List.take_of_length_le, ren, ren1, ren2, okr, okr1, okr2, ChkT, ChkN, BlkN, nf, frz, grammarC, ints_snoc])
      · have hN : (pairsK (choicesS g) (choicesS g).length).isEmpty = false := by
          rw [Bool.eq_false_iff]
          intro e
          exact hMl (hel.2 (List.isEmpty_iff.1 e))
        have hMp : 0 < M.length := List.length_pos_iff.2 hMl
        have hMi : (0 : Int) < (M.length : Int) := by omega
        rw [hN]
        simp only [Bool.false_eq_true, if_false]
        refine wkdac (And.intro @hMp (@hMi)) _ ?_
        refine OutF.cov (Cov.niw (t := 4) 3 1 rfl) ?_
        refine OutF.mkn (xs := ?_) (nm [2]) ?_ ?_ ?_ ?_ ?_ (by first | exact .inr rfl | exact .inl rfl)
        rotate_left
        · simp [go_sem, List.take_of_length_le, niw, ints] <;> with_reducible rfl
        · simp [go_sem, List.take_of_length_le, ren, ren1, ren2, okr, okr1, okr2, ChkN, BlkN, List.range_succ, nf, niw, ints]
        · simp [go_sem, List.take_of_length_le, ren, ren1, ren2, okr, okr1, okr2, ChkN, BlkN, List.range_succ, nf, niw, ints]
        · simp [go_sem, List.take_of_length_le, ren, ren1, ren2, okr, okr1, okr2, ChkN, BlkN, List.range_succ, nf, niw, ints]
        · rfl
end Go.Proofs.Ytenienncgjanpaa.En
end
section
namespace Go.Proofs.Ytenienncgjanpaa.En
open Go.RowKit
set_option linter.unusedSimpArgs false
set_option linter.unusedVariables false
set_option maxHeartbeats 4000000
theorem specPA (g : GrammarT) (w : List Int) (hx : g.2.2.length < 4611686018427387904) (hs : ∀ e ∈ g.2.2, e.2.length < 4611686018427387904) (hw : w.length < 4611686018427387904) : Pure Try.prog 33 [.ag (grammarC g), .im 1 (ints w)] (.tu [.im 1 (ints (paV g w).1), .v (.int .i64 (paV g w).2.1), .v (.bool (paV g w).2.2)]) := by
  have co := specOne g hx hs
  unfold oneV at co
  unfold paV
  refine Pure.mk (rs := [.tmp 4, .tmp 5, .tmp 6]) (nt := 113) Try.func33 (by kernel_rfl) rfl rfl rfl (by simp) ?_
  simp only [sl, grammarC]
  refine wkdc (@grammarC.eq_1) _ ?_
  cases hg : goodG g with
  | false =>
    rw [hg] at co
    simp only [Bool.false_eq_true, if_false] at co
    simp only [Bool.false_and, Bool.false_eq_true, if_false]
    first | refine GS.cc (co) rfl rfl rfl rfl (by simp [go_sem, List.take_of_length_le, grammarC] <;> with_reducible rfl) rfl (by simp [go_sem, List.take_of_length_le, grammarC]) ?_ | refine Gd.cc (co) rfl rfl rfl rfl (by simp [go_sem, List.take_of_length_le, grammarC] <;> with_reducible rfl) rfl (by simp [go_sem, List.take_of_length_le, grammarC]) ?_
    refine wkdc0 _ ?_
    refine Out.mk (xs := ?_) ?_ ?_ (by first | exact .inr rfl | exact .inl rfl)
    rotate_left
    · simp [go_sem, List.take_of_length_le] <;> with_reducible rfl
    exact Fz.tuL (.cons (Fz.nl _) (.cons (.v _) (.cons (.v _) .nil)))
  | true =>
    rw [hg] at co
    simp only [if_true] at co
    have hG := goodG_ok hg
    have ht0 := hG.t0
    have ht1 := hG.t1
    have hn1 := hG.n1
    have hlen := hG.len
    have cw := l1Word g w (by omega) (by omega) hw
    rw [Bool.true_and]
    cases hN' : (pairsK (choicesS g) (choicesS g).length).isEmpty with
    | false =>
      rw [hN'] at co
      simp only [Bool.and_false, Bool.false_eq_true, if_false]
      first | refine GS.cc (co) rfl rfl rfl rfl (by simp [go_sem, List.take_of_length_le, grammarC] <;> with_reducible rfl) rfl (by simp [go_sem, List.take_of_length_le, grammarC]) ?_ | refine Gd.cc (co) rfl rfl rfl rfl (by simp [go_sem, List.take_of_length_le, grammarC] <;> with_reducible rfl) rfl (by simp [go_sem, List.take_of_length_le, grammarC]) ?_
      refine wkdc0 _ ?_
      refine Out.mk (xs := ?_) ?_ ?_ (by first | exact .inr rfl | exact .inl rfl)
      rotate_left
      · simp [go_sem, List.take_of_length_le] <;> with_reducible rfl
      exact Fz.tuL (.cons (Fz.nl _) (.cons (.v _) (.cons (.v _) .nil)))
    | true =>
      rw [hN'] at co
      rw [Bool.and_true]
      first | refine GS.cc (co) rfl rfl rfl rfl (by simp [go_sem, List.take_of_length_le, grammarC] <;> with_reducible rfl) rfl (by simp [go_sem, List.take_of_length_le, grammarC]) ?_ | refine Gd.cc (co) rfl rfl rfl rfl (by simp [go_sem, List.take_of_length_le, grammarC] <;> with_reducible rfl) rfl (by simp [go_sem, List.take_of_length_le, grammarC]) ?_
      refine wkdc (@grammarC.eq_1) _ ?_
      cases hwv : wordV g.2.1 w with
      | false =>
        rw [hwv] at cw
        simp only [Bool.false_eq_true, if_false]
        first | refine GS.cc (cw) rfl rfl rfl rfl (by simp [go_sem, List.take_of_length_le, grammarC] <;> with_reducible rfl) rfl (by simp [go_sem, List.take_of_length_le, grammarC]) ?_ | refine Gd.cc (cw) rfl rfl rfl rfl (by simp [go_sem, List.take_of_length_le, grammarC] <;> with_reducible rfl) rfl (by simp [go_sem, List.take_of_length_le, grammarC]) ?_
        refine wkdc0 _ ?_
        refine Out.mk (xs := ?_) ?_ ?_ (by first | exact .inr rfl | exact .inl rfl)
        rotate_left
        · simp [go_sem, List.take_of_length_le] <;> with_reducible rfl
        exact Fz.tuL (.cons (Fz.nl _) (.cons (.v _) (.cons (.v _) .nil)))
      | true =>
        rw [hwv] at cw
        obtain ⟨w1, w2⟩ := wordV_okA ht1 hwv
        have cc := l14Choices g hG
        simp only [if_true]
        have hN := List.isEmpty_iff.1 hN'
        have hok : ∀ c ∈ choicesS g, okC g c := fun c hc => (choicesS_mem g c).1 hc
        have hcl := choicesS_len g
        have hI := InvA.start g (choicesS g) w
        obtain ⟨V, hV⟩ : ∃ V, V = runA g (choicesS g) w (w.length + 61) ([0], 0, []) := ⟨_, rfl⟩
        rw [← hV] at hI ⊢
        clear hV
        have hi0 : ints [0] = [[.v (.int .i64 0)]] := rfl
        have hone := oneKey_of (choicesS_sort g) hN
        generalize hl : choicesS g = l at hok hcl hI hone cc ⊢
        first | refine GS.cc (cw) rfl rfl rfl rfl (by simp [go_sem, List.take_of_length_le, grammarC] <;> with_reducible rfl) rfl (by simp [go_sem, List.take_of_length_le, grammarC]) ?_ | refine Gd.cc (cw) rfl rfl rfl rfl (by simp [go_sem, List.take_of_length_le, grammarC] <;> with_reducible rfl) rfl (by simp [go_sem, List.take_of_length_le, grammarC]) ?_
        refine wkdc (@grammarC.eq_1) _ ?_
        first | refine GS.cc (cc) rfl rfl rfl rfl (by simp [go_sem, List.take_of_length_le, grammarC] <;> with_reducible rfl) rfl (by simp [go_sem, List.take_of_length_le, grammarC]) ?_ | refine Gd.cc (cc) rfl rfl rfl rfl (by simp [go_sem, List.take_of_length_le, grammarC] <;> with_reducible rfl) rfl (by simp [go_sem, List.take_of_length_le, grammarC]) ?_
        refine wkdc (@hi0) _ ?_
        refine Holds.frz [1] [(10, .im 1 (ints [0]))] (.cons rfl (Fz.all rfl rfl rfl rfl (ints_cl _)) .nil) ?_
        refine Holds.niw 12 3 1 rfl ?_
        refine Holds.loop (ι := PaS) (fun s => ⟨[(1, .im 1 (ints w)), (2, .pb 0 3 0 0), (9, .im 3 (nodes l)), (10, .im 1 (ints s.1)), (11, .v (.int .i64 s.2.1)), (12, .own 1 1 0 s.2.2.length)], [(1, ⟨3, 1, ints s.2.2⟩), (0, ⟨31, 3, [grammarC g]⟩)], 2⟩)
          (fun s => InvA g l w V s) (fun s => muA w s) ([0], 0, []) hI ?_ ?_
        · exact Cov.ofn (nm [0, 2]) rfl (by simp [go_sem, List.take_of_length_le, ren, ren1, ren2, okr, okr1, okr2, ChkT, ChkN, BlkN, nf, frz, niw, grammarC, ints]) (by simp [go_sem, List.take_of_length_le, ren, ren1, ren2, okr, okr1, okr2, ChkT, ChkN, BlkN, nf, frz, niw, grammarC, ints])
        clear hI
        rintro ⟨form, a, R⟩ hI
        have h1 := hI.at_
        have h2 := hI.ln
        have h3 := hI.fl
        have h4 := hI.fr
        dsimp only at h1 h2 h3 h4 ⊢
        have stepa : wr64 ((a : Int) + 1) = ((a + 1 : Nat) : Int) := wr64_id (by omega) (by omega)
        cases form with
        | nil =>
          have hnil : ints [] = [] := rfl
          by_cases hal : a < w.length
          · have hv := hI.done (v := ([], (a : Int), false)) (by simp only [stepA, if_pos hal])
            subst hv
            have hali : (a : Int) < (w.length : Int) := by omega
            refine wkdc (And.intro @hal (And.intro @hali (@hnil))) _ ?_
            refine Out.mk (xs := ?_) ?_ ?_ (by first | exact .inr rfl | exact .inl rfl)
            rotate_left
            · simp [go_sem, List.take_of_length_le] <;> with_reducible rfl
            exact Fz.tuL (.cons (Fz.nl _) (.cons (.v _) (.cons (.v _) .nil)))
          · have hv := hI.done (v := (R, (a : Int), true)) (by simp only [stepA, if_neg hal])
            subst hv
            have hali : ¬ (a : Int) < (w.length : Int) := by omega
            refine wkdc (And.intro @hal (And.intro @hali (@hnil))) _ ?_
            refine Out.mk (xs := ?_) ?_ ?_ (by first | exact .inr rfl | exact .inl rfl)
            rotate_left
            · simp [go_sem, List.take_of_length_le] <;> with_reducible rfl
            exact Fz.tuL (.cons (Fz.all rfl rfl (by simp) rfl (ints_cl _)) (.cons (.v _) (.cons (.v _) .nil)))
        | cons x f =>
          have hx := h4 x (.head _)
          have hxc : (ints (x :: f)) = [.v (.int .i64 x)] :: ints f := rfl
          obtain ⟨t, ht⟩ : ∃ t, t = tokA w a := ⟨_, rfl⟩
          refine wkdc (@hxc) _ ?_
          refine Holds.join (ι := Unit) (fun _ => ⟨[(1, .im 1 (ints w)), (2, .pb 0 3 0 0), (9, .im 3 (nodes l)), (10, .im 1 ([.v (.int .i64 x)] :: ints f)), (11, .v (.int .i64 a)), (12, .own 1 1 0 R.length), (13, .v (.int .i64 t))], [(1, ⟨3, 1, ints R⟩), (0, ⟨31, 3, [grammarC g]⟩)], 2⟩) (fun _ => True) ?_ ?_
          · refine Holds.cond rfl (fun h => ?_) (fun h => ?_)
            · have hal : a < w.length := by simpa using h
              have hwa := tokA_lt hal
              rw [← ht] at hwa
              refine wkdc (And.intro @hal (And.intro @hwa (@get_E _ _ _ _ hwa))) _ ?_
              refine ⟨(), trivial, ?_⟩
              exact Cov.ofn (id) rfl (by simp [go_sem, List.take_of_length_le, ren, ren1, ren2, okr, okr1, okr2, ChkT, ChkN, BlkN, nf, grammarC]) (by simp [go_sem, List.take_of_length_le, ren, ren1, ren2, okr, okr1, okr2, ChkT, ChkN, BlkN, nf, grammarC])
            · have hal : ¬ a < w.length := by simpa using h
              have htt := tokA_ge hal
              rw [← ht] at htt
              rw [htt]
              refine wkdc0 _ ?_
              refine ⟨(), trivial, ?_⟩
              exact Cov.ofn (id) rfl (by simp [go_sem, List.take_of_length_le, ren, ren1, ren2, okr, okr1, okr2, ChkT, ChkN, BlkN, nf, grammarC]) (by simp [go_sem, List.take_of_length_le, ren, ren1, ren2, okr, okr1, okr2, ChkT, ChkN, BlkN, nf, grammarC])
          rintro ⟨⟩ _
          have hwx : wr64 (-1 - x) = -1 - x := wr64_id (by omega) (by omega)
          by_cases hx0 : x < 0
          · by_cases hxt : -1 - x = t
            · obtain ⟨hal, hI'⟩ := hI.tok hx0 (by rw [hxt, ht])
              have hee : (t == -1 - x) = true := by rw [beq_iff_eq]; omega
              refine wkdc (And.intro @hx0 (And.intro @hwx (And.intro @hee (And.intro ((show t = -1 - x by omega)) ((show (t != -1 - x) = false by simp [bne, hee])))))) _ ?_
              refine ⟨(f, a + 1, R), hI', by simp only [muA]; omega, ?_⟩
              rw [stepa]
              exact Cov.ofn (id) rfl (by simp [go_sem, List.take_of_length_le, ren, ren1, ren2, okr, okr1, okr2, ChkT, ChkN, BlkN, nf, grammarC]) (by simp [go_sem, List.take_of_length_le, ren, ren1, ren2, okr, okr1, okr2, ChkT, ChkN, BlkN, nf, grammarC])
            · have hv := hI.done (v := ([], (a : Int), false)) (by simp only [stepA, if_pos hx0]; rw [← ht, if_neg hxt])
              subst hv
              have hne : (t == -1 - x) = false := by rw [beq_eq_false_iff_ne]; omega
              refine wkdc (And.intro @hx0 (And.intro @hwx (And.intro @hne (And.intro ((show ¬ t = -1 - x by omega)) ((show (t != -1 - x) = true by simp [bne, hne])))))) _ ?_
              refine Out.mk (xs := ?_) ?_ ?_ (by first | exact .inr rfl | exact .inl rfl)
              rotate_left
              · simp [go_sem, List.take_of_length_le] <;> with_reducible rfl
              exact Fz.tuL (.cons (Fz.nl _) (.cons (.v _) (.cons (.v _) .nil)))
          · refine wkdc (@hx0) _ ?_
            refine Holds.loop (ι := Nat) (fun j => ⟨[(1, .im 1 (ints w)), (2, .pb 0 3 0 0), (9, .im 3 (nodes l)), (10, .im 1 ([.v (.int .i64 x)] :: ints f)), (11, .v (.int .i64 a)), (12, .own 1 1 0 R.length), (13, .v (.int .i64 t)), (14, .v (.int .i64 (lastA x t (l.take j)))), (63, .im 3 (nodes l)), (64, .v (.int .i64 l.length)), (65, .v (.int .i64 j))], [(1, ⟨3, 1, ints R⟩), (0, ⟨31, 3, [grammarC g]⟩)], 2⟩)
              (fun j => j ≤ l.length) (fun j => l.length - j) 0 (Nat.zero_le _) ?_ ?_
            · exact Cov.ofn (id) rfl (by simp [go_sem, List.take_of_length_le, ren, ren1, ren2, okr, okr1, okr2, ChkT, ChkN, BlkN, nf, grammarC, show lastA x t [] = -1 from rfl]) (by simp [go_sem, List.take_of_length_le, ren, ren1, ren2, okr, okr1, okr2, ChkT, ChkN, BlkN, nf, grammarC, show lastA x t [] = -1 from rfl])
            intro j hj
            have stepj : wr64 ((j : Int) + 1) = ((j + 1 : Nat) : Int) := wr64_id (by omega) (by omega)
            refine wkdc0 _ ?_
            refine Holds.cond rfl (fun h => ?_) (fun h => ?_)
            · have hlj : j < l.length := by simp at h; omega
              have hcj : l[j]? = some l[j] := List.getElem?_eq_getElem hlj
              generalize l[j] = c at hcj
              have hls := lastA_snoc x t hcj
              obtain ⟨c1, c2, c3⟩ := c
              cases hk1 : (c1 == x) with
              | false =>
                rw [show isKey x t (c1, c2, c3) = false by simp [isKey, hk1], if_neg Bool.false_ne_true] at hls
                refine wkdc (And.intro @hlj (And.intro @hcj (And.intro (@get_E _ _ _ _ hcj) (And.intro @nodeC.eq_1 (@hk1))))) _ ?_
                refine ⟨j + 1, by omega, by omega, ?_⟩
                dsimp only
                rw [stepj, hls]
                exact Cov.ofn (id) rfl (by simp [go_sem, List.take_of_length_le, ren, ren1, ren2, okr, okr1, okr2, ChkT, ChkN, BlkN, nf, grammarC]) (by simp [go_sem, List.take_of_length_le, ren, ren1, ren2, okr, okr1, okr2, ChkT, ChkN, BlkN, nf, grammarC])
              | true =>
                cases hk2 : (c2 == t) with
                | false =>
                  rw [show isKey x t (c1, c2, c3) = false by simp only [isKey, hk1, hk2, Bool.true_and], if_neg Bool.false_ne_true] at hls
                  refine wkdc (And.intro @hlj (And.intro @hcj (And.intro (@get_E _ _ _ _ hcj) (And.intro @nodeC.eq_1 (And.intro @hk1 (@hk2)))))) _ ?_
                  refine ⟨j + 1, by omega, by omega, ?_⟩
                  dsimp only
                  rw [stepj, hls]
                  exact Cov.ofn (id) rfl (by simp [go_sem, List.take_of_length_le, ren, ren1, ren2, okr, okr1, okr2, ChkT, ChkN, BlkN, nf, grammarC]) (by simp [go_sem, List.take_of_length_le, ren, ren1, ren2, okr, okr1, okr2, ChkT, ChkN, BlkN, nf, grammarC])
                | true =>
                  rw [show isKey x t (c1, c2, c3) = true by simp only [isKey, hk1, hk2, Bool.true_and], if_pos rfl] at hls
                  refine wkdc (And.intro @hlj (And.intro @hcj (And.intro (@get_E _ _ _ _ hcj) (And.intro @nodeC.eq_1 (And.intro @hk1 (@hk2)))))) _ ?_
                  refine ⟨j + 1, by omega, by omega, ?_⟩
                  dsimp only
                  rw [stepj, hls]
                  exact Cov.ofn (id) rfl (by simp [go_sem, List.take_of_length_le, ren, ren1, ren2, okr, okr1, okr2, ChkT, ChkN, BlkN, nf, grammarC]) (by simp [go_sem, List.take_of_length_le, ren, ren1, ren2, okr, okr1, okr2, ChkT, ChkN, BlkN, nf, grammarC])
            · have hje : j = l.length := by simp at h; omega
              subst hje
              rw [List.take_length, lastA_choose hone]
              rcases choose_fst l x t with ⟨_, e2⟩ | ⟨i, c, _, hic, e2⟩
              · have hv := hI.done (v := ([], (a : Int), false)) (by simp only [stepA, if_neg hx0]; rw [← ht, if_pos (.inl (by omega))])
                subst hv
                rw [e2]
                refine wkdc0 _ ?_
                refine Out.mk (xs := ?_) ?_ ?_ (by first | exact .inr rfl | exact .inl rfl)
                rotate_left
                · simp [go_sem, List.take_of_length_le] <;> with_reducible rfl
                exact Fz.tuL (.cons (Fz.nl _) (.cons (.v _) (.cons (.v _) .nil)))
              · obtain ⟨q, r, hq, hr, _, _, _⟩ := hok c (List.mem_of_getElem? hic)
                rw [hq] at e2
                rw [e2]
                have hq0 : ¬ (q : Int) < 0 := by omega
                by_cases hR : R.length = 60
                · have hv := hI.done (v := ([], (a : Int), false)) (by simp only [stepA, if_neg hx0]; rw [← ht, if_pos (.inr hR)])
                  subst hv
                  have hRi : ((R.length : Int) == 60) = true := by rw [hR]; rfl
                  refine wkdc (And.intro @hq0 (And.intro @hRi (@hR))) _ ?_
                  refine Out.mk (xs := ?_) ?_ ?_ (by first | exact .inr rfl | exact .inl rfl)
                  rotate_left
                  · simp [go_sem, List.take_of_length_le] <;> with_reducible rfl
                  exact Fz.tuL (.cons (Fz.nl _) (.cons (.v _) (.cons (.v _) .nil)))
                · have hRi : ((R.length : Int) == 60) = false := by rw [beq_eq_false_iff_ne]; omega
                  subst hl
                  have hI' := hI.rule hG hx0 (by rw [← ht]; exact e2) hr hR
                  have hql : q < g.2.2.length := (List.getElem?_eq_some_iff.1 hr).1
                  have hr4 := hG.r4 r (List.mem_of_getElem? hr)
                  have hbb : (R.length + 1) * 8 ≤ 140737488355328 := by omega
                  simp only [List.length_cons] at h3
                  have hb2 : (r.2.length + f.length) * 8 ≤ 140737488355328 := by omega
                  have cow := l1OwnF r.2 (by omega)
                  refine wkdsc (And.intro @hq0 (And.intro @hRi (And.intro @hR (@hbb)))) _ ?_
                  refine Holds.anx [6, 9] [0, 1, 2, 3, 4, 5, 7, 8] (fun n => decide (5 ≤ n)) mixed ?_ ?_ ?_; (· kernel_rfl); (· kernel_rfl)
                  refine wkdasc (And.intro @hql (And.intro @hr (And.intro (@get_E _ _ _ _ hr) (And.intro @ruleC.eq_1 (@grammarC.eq_1))))) _ ?_
                  first | refine GS.fnn [] (cow) rfl rfl rfl rfl (by simp [go_sem, List.take_of_length_le, ren, ren1, ren2, okr, okr1, okr2, ChkN, BlkN, List.range_succ, nf] <;> with_reducible rfl) (by simp [go_sem, List.take_of_length_le, ren, ren1, ren2, okr, okr1, okr2, ChkN, BlkN, List.range_succ, nf]) (by simp [go_sem, List.take_of_length_le, ren, ren1, ren2, okr, okr1, okr2, ChkN, BlkN, List.range_succ, nf]) (by simp [List.range_succ, lb]) (ChkN.toB (by simp [go_sem, List.take_of_length_le, ren, ren1, ren2, okr, okr1, okr2, ChkN, BlkN, List.range_succ, nf])) (by decide) (by simp) rfl (.nfr (by simp) .nil) (by simp [go_sem, List.take_of_length_le, ren, ren1, ren2, okr, okr1, okr2, ChkN, BlkN, List.range_succ, nf] <;> with_reducible rfl) ?_ | refine Gx.fnn [] (cow) rfl rfl rfl rfl rfl (by simp [go_sem, List.take_of_length_le, ren, ren1, ren2, okr, okr1, okr2, ChkN, BlkN, List.range_succ, nf] <;> with_reducible rfl) (by simp [go_sem, List.take_of_length_le, ren, ren1, ren2, okr, okr1, okr2, ChkN, BlkN, List.range_succ, nf]) (by simp [go_sem, List.take_of_length_le, ren, ren1, ren2, okr, okr1, okr2, ChkN, BlkN, List.range_succ, nf]) (by simp [List.range_succ, lb]) (ChkN.toB (by simp [go_sem, List.take_of_length_le, ren, ren1, ren2, okr, okr1, okr2, ChkN, BlkN, List.range_succ, nf])) (by decide) (by simp) rfl (.nfr (by simp) .nil) (by simp [go_sem, List.take_of_length_le, ren, ren1, ren2, okr, okr1, okr2, ChkN, BlkN, List.range_succ, nf]) (by simp [go_sem, List.take_of_length_le, ren, ren1, ren2, okr, okr1, okr2, ChkN, BlkN, List.range_succ, nf] <;> with_reducible rfl) ?_ | refine Gx.fnno [] (cow) rfl rfl rfl rfl rfl (by simp [go_sem, List.take_of_length_le, ren, ren1, ren2, okr, okr1, okr2, ChkN, BlkN, List.range_succ, nf] <;> with_reducible rfl) (by simp [go_sem, List.take_of_length_le, ren, ren1, ren2, okr, okr1, okr2, ChkN, BlkN, List.range_succ, nf]) (by simp [go_sem, List.take_of_length_le, ren, ren1, ren2, okr, okr1, okr2, ChkN, BlkN, List.range_succ, nf]) (by simp [List.range_succ, lb]) (ChkN.toB (by simp [go_sem, List.take_of_length_le, ren, ren1, ren2, okr, okr1, okr2, ChkN, BlkN, List.range_succ, nf])) (by decide) (by simp) rfl (.nfr (by simp) .nil) (by simp [go_sem, List.take_of_length_le, ren, ren1, ren2, okr, okr1, okr2, ChkN, BlkN, List.range_succ, nf] <;> with_reducible rfl) ?_
                  refine wkdasc (And.intro @ints_all (@hb2)) _ ?_
                  refine ⟨(r.2 ++ f, a, R ++ [(q : Int)]), hI', by simp only [muA, List.length_append, List.length_singleton]; omega, ?_⟩
                  refine Cov.trans ?_ (Cov.freeze [7] (ts := [(10, .im 1 (ints (r.2 ++ f)))]) (.cons rfl (Fz.all rfl rfl (by simp) (by simp [ints]) (ints_cl _)) .nil))
                  exact Cov.ofn (nm [0, 4]) rfl (by simp [go_sem, List.take_of_length_le, ren, ren1, ren2, okr, okr1, okr2, ChkT, ChkN, BlkN, nf, frz, grammarC, ints_snoc]) (by simp [go_sem, List.take_of_length_le, ren, ren1, ren2, okr, okr1, okr2, ChkT, ChkN, BlkN, nf, frz, grammarC, ints_snoc])
end Go.Proofs.Ytenienncgjanpaa.En
end
section
namespace Go.Proofs.Ytenienncgjanpaa.En
open Go.RowKit
set_option linter.unusedSimpArgs false
set_option linter.unusedVariables false
set_option maxHeartbeats 4000000
end Go.Proofs.Ytenienncgjanpaa.En
end
section
namespace Go.Proofs.Ytenienncgjanpaa.En
open Go.RowKit
set_option linter.unusedSimpArgs false
set_option linter.unusedVariables false
set_option maxHeartbeats 8000000
end Go.Proofs.Ytenienncgjanpaa.En
end
section
namespace Go.Proofs.Ytenienncgjanpaa.En
open Go.RowKit
set_option linter.unusedSimpArgs false
set_option linter.unusedVariables false
set_option maxHeartbeats 8000000
theorem lawPA (g : GrammarT) (w : List Int) (hxg : g.2.2.length < 8796093022208) (hsg : ∀ e ∈ g.2.2, e.2.length < 35184372088832) (hcw : w.length < 35184372088832) : Pure Try.prog 8 [.ag (grammarC g), .im 1 (ints w)] (.v (.bool true)) := by
  refine Pure.mk (rs := [.tmp 4]) (nt := 138) Try.func8 (by kernel_rfl) rfl rfl rfl (by simp) ?_
  simp only [sl, grammarC]
  have hsg' : ∀ e ∈ g.2.2, e.2.length < 4611686018427387904 := fun e he => by have := hsg e he; omega
  have ctg := toGrammar g hxg hsg
  have ceg := eqGrammar g g hxg hsg
  have cog := toGrammarO g hxg hsg
  have ctw := toIntS w hcw
  have cew := eqIntS w w (by omega)
  have cow := toIntSO w hcw
  have hig := szGrammarF_in (n := 1048576) (x := g) (by omega)
  have czg := szGrammar g 1048576 (by omega) (by omega) hxg hsg
  have p1 := specPA g w (by omega) hsg' (by omega)
  have p2 := implPA g w (by omega) hsg' (by omega)
  try simp only [decide_true] at ceg cew
  have hv := paV_len g w
  generalize paV g w = v at p1 p2 hv
  have p3 := p2.pure (r' := .tu [.im 1 (ints v.1), .v (.int .i64 v.2.1), .v (.bool v.2.2)]) (Fz.tuL (.cons (Fz.all rfl rfl (by simp) rfl (ints_cl _)) (.cons (.v _) (.cons (.v _) .nil))))
  refine wkd0 _ ?_
  refine Holds.cond rfl (fun h => ?_) (fun h => ?_)
  · refine wkd0 _ ?_
    refine Out.mk (xs := ?_) ?_ ?_ (by first | exact .inr rfl | exact .inl rfl)
    rotate_left
    · simp [go_sem, List.take_of_length_le] <;> with_reducible rfl
    exact .v _
  have hqw : w.length ≤ 1048576 := by simp at h; omega
  refine wkd0 _ ?_
  first | refine GS.cc (czg) rfl rfl rfl rfl (by simp [go_sem, List.take_of_length_le, grammarC] <;> with_reducible rfl) rfl (by simp [go_sem, List.take_of_length_le, grammarC]) ?_ | refine Gd.cc (czg) rfl rfl rfl rfl (by simp [go_sem, List.take_of_length_le, grammarC] <;> with_reducible rfl) rfl (by simp [go_sem, List.take_of_length_le, grammarC]) ?_
  refine wkd0 _ ?_
  refine Holds.cond rfl (fun h => ?_) (fun h => ?_)
  · refine wkd0 _ ?_
    refine Out.mk (xs := ?_) ?_ ?_ (by first | exact .inr rfl | exact .inl rfl)
    rotate_left
    · simp [go_sem, List.take_of_length_le] <;> with_reducible rfl
    exact .v _
  have hqg := szGrammar_wt (show 0 ≤ szGrammarF (1048576) g by simp at h; omega)
  refine wkd (@grammarC.eq_1) _ ?_
  first | refine GS.cc (ctg) rfl rfl rfl rfl (by simp [go_sem, List.take_of_length_le, grammarC] <;> with_reducible rfl) rfl (by simp [go_sem, List.take_of_length_le, grammarC]) ?_ | refine Gd.cc (ctg) rfl rfl rfl rfl (by simp [go_sem, List.take_of_length_le, grammarC] <;> with_reducible rfl) rfl (by simp [go_sem, List.take_of_length_le, grammarC]) ?_
  refine wkd (@grammarC.eq_1) _ ?_
  first | refine GS.cc (ctw) rfl rfl rfl rfl (by simp [go_sem, List.take_of_length_le, grammarC] <;> with_reducible rfl) rfl (by simp [go_sem, List.take_of_length_le, grammarC]) ?_ | refine Gd.cc (ctw) rfl rfl rfl rfl (by simp [go_sem, List.take_of_length_le, grammarC] <;> with_reducible rfl) rfl (by simp [go_sem, List.take_of_length_le, grammarC]) ?_
  refine wkd (@grammarC.eq_1) _ ?_
  first | refine GS.cc (p1) rfl rfl rfl rfl (by simp [go_sem, List.take_of_length_le, grammarC] <;> with_reducible rfl) rfl (by simp [go_sem, List.take_of_length_le, grammarC]) ?_ | refine Gd.cc (p1) rfl rfl rfl rfl (by simp [go_sem, List.take_of_length_le, grammarC] <;> with_reducible rfl) rfl (by simp [go_sem, List.take_of_length_le, grammarC]) ?_
  refine wkd (@grammarC.eq_1) _ ?_
  refine GS.fnn [] (cog) rfl rfl rfl rfl (by simp [go_sem, List.take_of_length_le, ren, ren1, ren2, okr, okr1, okr2, ChkN, BlkN, List.range_succ, nf, grammarC] <;> with_reducible rfl) (by simp [go_sem, List.take_of_length_le, ren, ren1, ren2, okr, okr1, okr2, ChkN, BlkN, List.range_succ, nf, grammarC]) (by simp [go_sem, List.take_of_length_le, ren, ren1, ren2, okr, okr1, okr2, ChkN, BlkN, List.range_succ, nf, grammarC]) (by simp [List.range_succ, lb]) (ChkN.toB (by simp [go_sem, List.take_of_length_le, ren, ren1, ren2, okr, okr1, okr2, ChkN, BlkN, List.range_succ, nf, grammarC])) (by decide) (by simp) rfl (.nfr (by simp) .nil) (by simp [go_sem, List.take_of_length_le, ren, ren1, ren2, okr, okr1, okr2, ChkN, BlkN, List.range_succ, nf, grammarC] <;> with_reducible rfl) ?_
  refine wkd (@grammarC.eq_1) _ ?_
  refine GS.fnn [] (cow) rfl rfl rfl rfl (by simp [go_sem, List.take_of_length_le, ren, ren1, ren2, okr, okr1, okr2, ChkN, BlkN, List.range_succ, nf, grammarC] <;> with_reducible rfl) (by simp [go_sem, List.take_of_length_le, ren, ren1, ren2, okr, okr1, okr2, ChkN, BlkN, List.range_succ, nf, grammarC]) (by simp [go_sem, List.take_of_length_le, ren, ren1, ren2, okr, okr1, okr2, ChkN, BlkN, List.range_succ, nf, grammarC]) (by simp [List.range_succ, lb]) (ChkN.toB (by simp [go_sem, List.take_of_length_le, ren, ren1, ren2, okr, okr1, okr2, ChkN, BlkN, List.range_succ, nf, grammarC])) (by decide) (by simp) rfl (.nfr (by simp) .nil) (by simp [go_sem, List.take_of_length_le, ren, ren1, ren2, okr, okr1, okr2, ChkN, BlkN, List.range_succ, nf, grammarC] <;> with_reducible rfl) ?_
  refine wkd (@grammarC.eq_1) _ ?_
  refine GS.fnnd (p2) rfl rfl rfl rfl (by simp [go_sem, List.take_of_length_le, ren, ren1, ren2, okr, okr1, okr2, List.range_succ, nf, grammarC] <;> with_reducible rfl) (by exact (.cons (Fz.agL (.cons (.v _) (.cons (.v _) (.cons (fz_rulesO _ rfl rfl) .nil)))) (.cons (Fz.all rfl rfl (by simp) rfl (ints_cl _)) .nil))) (by simp) (by simp [go_sem, List.take_of_length_le, ren, ren1, ren2, okr, okr1, okr2, List.range_succ, nf, grammarC]) (by simp [go_sem, List.take_of_length_le, ren, ren1, ren2, okr, okr1, okr2, List.range_succ, nf, grammarC]) rfl (.nfr (by simp) (.nil)) (by simp [go_sem, List.take_of_length_le, ren, ren1, ren2, okr, okr1, okr2, List.range_succ, nf, grammarC] <;> with_reducible rfl) ?_
  have ceq := eqIntS v.1 v.1 (by omega)
  try simp only [decide_true] at ceq
  refine wkd0 _ ?_
  first | refine GS.cd (ceq) rfl rfl rfl rfl (by simp [go_sem, List.take_of_length_le] <;> with_reducible rfl) rfl (by exact (.cons (Fz.all rfl rfl (by simp) rfl (ints_cl _)) (.cons (.im _ _) .nil))) rfl ?_ | refine Gd.cd (ceq) rfl rfl rfl rfl (by simp [go_sem, List.take_of_length_le] <;> with_reducible rfl) rfl (by exact (.cons (Fz.all rfl rfl (by simp) rfl (ints_cl _)) (.cons (.im _ _) .nil))) rfl ?_
  clear ceq
  refine wkd0 _ ?_
  refine Holds.cond rfl (fun h => ?_) (fun h => ?_)
  · cases h
  refine wkd0 _ ?_
  first | refine GS.cc (ctg) rfl rfl rfl rfl (by simp [go_sem, List.take_of_length_le, grammarC] <;> with_reducible rfl) rfl (by simp [go_sem, List.take_of_length_le, grammarC]) ?_ | refine Gd.cc (ctg) rfl rfl rfl rfl (by simp [go_sem, List.take_of_length_le, grammarC] <;> with_reducible rfl) rfl (by simp [go_sem, List.take_of_length_le, grammarC]) ?_
  refine wkd (@grammarC.eq_1) _ ?_
  first | refine GS.cd (ceg) rfl rfl rfl rfl (by simp [go_sem, List.take_of_length_le, grammarC] <;> with_reducible rfl) rfl (by exact (.cons (Fz.agL (.cons (.v _) (.cons (.v _) (.cons (fz_rulesO _ rfl rfl) .nil)))) (.cons (Fz.cl rfl) .nil))) rfl ?_ | refine Gd.cd (ceg) rfl rfl rfl rfl (by simp [go_sem, List.take_of_length_le, grammarC] <;> with_reducible rfl) rfl (by exact (.cons (Fz.agL (.cons (.v _) (.cons (.v _) (.cons (fz_rulesO _ rfl rfl) .nil)))) (.cons (Fz.cl rfl) .nil))) rfl ?_
  refine wkd0 _ ?_
  refine Holds.cond rfl (fun h => ?_) (fun h => ?_)
  · cases h
  refine wkd0 _ ?_
  first | refine GS.cc (ctw) rfl rfl rfl rfl (by simp [go_sem, List.take_of_length_le, grammarC] <;> with_reducible rfl) rfl (by simp [go_sem, List.take_of_length_le, grammarC]) ?_ | refine Gd.cc (ctw) rfl rfl rfl rfl (by simp [go_sem, List.take_of_length_le, grammarC] <;> with_reducible rfl) rfl (by simp [go_sem, List.take_of_length_le, grammarC]) ?_
  refine wkd (@grammarC.eq_1) _ ?_
  first | refine GS.cd (cew) rfl rfl rfl rfl (by simp [go_sem, List.take_of_length_le, grammarC] <;> with_reducible rfl) rfl (by exact (.cons (Fz.all rfl rfl (by simp) rfl (ints_cl _)) (.cons (.im _ _) .nil))) rfl ?_ | refine Gd.cd (cew) rfl rfl rfl rfl (by simp [go_sem, List.take_of_length_le, grammarC] <;> with_reducible rfl) rfl (by exact (.cons (Fz.all rfl rfl (by simp) rfl (ints_cl _)) (.cons (.im _ _) .nil))) rfl ?_
  refine wkd0 _ ?_
  refine Holds.cond rfl (fun h => ?_) (fun h => ?_)
  · cases h
  have cmg := markGrammar g ((1 : Int)) (by omega) (by omega) (by omega)
  refine wkd0 _ ?_
  refine GS.fnn [1] (cmg) rfl rfl rfl rfl (by simp [go_sem, List.take_of_length_le, ren, ren1, ren2, okr, okr1, okr2, ChkN, BlkN, List.range_succ, nf] <;> with_reducible rfl) (by simp [go_sem, List.take_of_length_le, ren, ren1, ren2, okr, okr1, okr2, ChkN, BlkN, List.range_succ, nf]) (by simp [go_sem, List.take_of_length_le, ren, ren1, ren2, okr, okr1, okr2, ChkN, BlkN, List.range_succ, nf]) (by simp [List.range_succ, lb]) (ChkN.toB (by simp [go_sem, List.take_of_length_le, ren, ren1, ren2, okr, okr1, okr2, ChkN, BlkN, List.range_succ, nf])) (by decide) (by simp) rfl (.nfr (by simp) (.nil)) (by simp [go_sem, List.take_of_length_le, ren, ren1, ren2, okr, okr1, okr2, ChkN, BlkN, List.range_succ, nf] <;> with_reducible rfl) ?_
  have cmw := markIntS w ((1 : Int) + (wGrammar g : Nat)) (by omega) (by simp; omega)
  simp only [wtL_w1] at cmw
  refine wkd0 _ ?_
  refine GS.fnn [3] (cmw) rfl rfl rfl rfl (by simp [go_sem, List.take_of_length_le, ren, ren1, ren2, okr, okr1, okr2, ChkN, BlkN, List.range_succ, nf] <;> with_reducible rfl) (by simp [go_sem, List.take_of_length_le, ren, ren1, ren2, okr, okr1, okr2, ChkN, BlkN, List.range_succ, nf]) (by simp [go_sem, List.take_of_length_le, ren, ren1, ren2, okr, okr1, okr2, ChkN, BlkN, List.range_succ, nf]) (by simp [List.range_succ, lb]) (ChkN.toB (by simp [go_sem, List.take_of_length_le, ren, ren1, ren2, okr, okr1, okr2, ChkN, BlkN, List.range_succ, nf])) (by decide) (by simp) rfl (.nfr (by simp) (.nil)) (by simp [go_sem, List.take_of_length_le, ren, ren1, ren2, okr, okr1, okr2, ChkN, BlkN, List.range_succ, nf] <;> with_reducible rfl) ?_
  have hk0 : ¬ ((1 : Int) + (wGrammar g : Nat) + (w.length : Nat) < 0) := by omega
  have ceq := eqIntS v.1 v.1 (by omega)
  try simp only [decide_true] at ceq
  refine wkd (@hk0) _ ?_
  first | refine GS.cd (ceq) rfl rfl rfl rfl (by simp [go_sem, List.take_of_length_le, hk0] <;> with_reducible rfl) rfl (by exact (.cons (Fz.all rfl rfl (by simp) rfl (ints_cl _)) (.cons (.im _ _) .nil))) rfl ?_ | refine Gd.cd (ceq) rfl rfl rfl rfl (by simp [go_sem, List.take_of_length_le, hk0] <;> with_reducible rfl) rfl (by exact (.cons (Fz.all rfl rfl (by simp) rfl (ints_cl _)) (.cons (.im _ _) .nil))) rfl ?_
  clear ceq
  refine wkd (@hk0) _ ?_
  refine Holds.cond rfl (fun h => ?_) (fun h => ?_)
  · cases h
  have cm := markIntS v.1 ((1 : Int)) (by omega) (by simp; omega)
  have ch4 := heldIntS v.1 ((1 : Int)) (by omega) (by simp; omega)
  try simp only [wtL_w1] at cm ch4
  refine wkd0 _ ?_
  refine GS.fnn [4] (cm) rfl rfl rfl rfl (by simp [go_sem, List.take_of_length_le, ren, ren1, ren2, okr, okr1, okr2, ChkN, BlkN, List.range_succ, nf] <;> with_reducible rfl) (by simp [go_sem, List.take_of_length_le, ren, ren1, ren2, okr, okr1, okr2, ChkN, BlkN, List.range_succ, nf]) (by simp [go_sem, List.take_of_length_le, ren, ren1, ren2, okr, okr1, okr2, ChkN, BlkN, List.range_succ, nf]) (by simp [List.range_succ, lb]) (ChkN.toB (by simp [go_sem, List.take_of_length_le, ren, ren1, ren2, okr, okr1, okr2, ChkN, BlkN, List.range_succ, nf])) (by decide) (by simp) rfl (.nfr (by simp) .nil) (by simp [go_sem, List.take_of_length_le, ren, ren1, ren2, okr, okr1, okr2, ChkN, BlkN, List.range_succ, nf] <;> with_reducible rfl) ?_
  clear cm
  refine wkd0 _ ?_
  first | refine GS.cd (ch4) rfl rfl rfl rfl (by simp [go_sem, List.take_of_length_le] <;> with_reducible rfl) rfl (by exact (.cons (Fz.all rfl rfl (by simp) rfl (ints_cl _)) (.cons (.v _) .nil))) rfl ?_ | refine Gd.cd (ch4) rfl rfl rfl rfl (by simp [go_sem, List.take_of_length_le] <;> with_reducible rfl) rfl (by exact (.cons (Fz.all rfl rfl (by simp) rfl (ints_cl _)) (.cons (.v _) .nil))) rfl ?_
  have hk4 : ¬ ((1 : Int) + (v.1.length : Nat) < 0) := by omega
  refine wkd (@hk4) _ ?_
  refine Holds.cond rfl (fun h => ?_) (fun h => ?_)
  · cases h
  refine wkd0 _ ?_
  refine Holds.cond rfl (fun h => ?_) (fun h => ?_)
  · cases h
  refine wkd (@grammarC.eq_1) _ ?_
  first | refine GS.cc (ctg) rfl rfl rfl rfl (by simp [go_sem, List.take_of_length_le, grammarC] <;> with_reducible rfl) rfl (by simp [go_sem, List.take_of_length_le, grammarC]) ?_ | refine Gd.cc (ctg) rfl rfl rfl rfl (by simp [go_sem, List.take_of_length_le, grammarC] <;> with_reducible rfl) rfl (by simp [go_sem, List.take_of_length_le, grammarC]) ?_
  refine wkd (@grammarC.eq_1) _ ?_
  first | refine GS.cc (ctw) rfl rfl rfl rfl (by simp [go_sem, List.take_of_length_le, grammarC] <;> with_reducible rfl) rfl (by simp [go_sem, List.take_of_length_le, grammarC]) ?_ | refine Gd.cc (ctw) rfl rfl rfl rfl (by simp [go_sem, List.take_of_length_le, grammarC] <;> with_reducible rfl) rfl (by simp [go_sem, List.take_of_length_le, grammarC]) ?_
  refine wkd (@grammarC.eq_1) _ ?_
  first | refine GS.cc (p3) rfl rfl rfl rfl (by simp [go_sem, List.take_of_length_le, grammarC] <;> with_reducible rfl) rfl (by simp [go_sem, List.take_of_length_le, grammarC]) ?_ | refine Gd.cc (p3) rfl rfl rfl rfl (by simp [go_sem, List.take_of_length_le, grammarC] <;> with_reducible rfl) rfl (by simp [go_sem, List.take_of_length_le, grammarC]) ?_
  have ceq := eqIntS v.1 v.1 (by omega)
  try simp only [decide_true] at ceq
  refine wkd0 _ ?_
  first | refine GS.cc (ceq) rfl rfl rfl rfl (by simp [go_sem, List.take_of_length_le] <;> with_reducible rfl) rfl (by simp [go_sem, List.take_of_length_le]) ?_ | refine Gd.cc (ceq) rfl rfl rfl rfl (by simp [go_sem, List.take_of_length_le] <;> with_reducible rfl) rfl (by simp [go_sem, List.take_of_length_le]) ?_
  clear ceq
  refine wkd0 _ ?_
  refine Holds.cond rfl (fun h => ?_) (fun h => ?_)
  · cases h
  refine wkd0 _ ?_
  first | refine GS.cd (ch4) rfl rfl rfl rfl (by simp [go_sem, List.take_of_length_le] <;> with_reducible rfl) rfl (by exact (.cons (Fz.all rfl rfl (by simp) rfl (ints_cl _)) (.cons (.v _) .nil))) rfl ?_ | refine Gd.cd (ch4) rfl rfl rfl rfl (by simp [go_sem, List.take_of_length_le] <;> with_reducible rfl) rfl (by exact (.cons (Fz.all rfl rfl (by simp) rfl (ints_cl _)) (.cons (.v _) .nil))) rfl ?_
  have hk4 : ¬ ((1 : Int) + (v.1.length : Nat) < 0) := by omega
  refine wkd (@hk4) _ ?_
  refine Holds.cond rfl (fun h => ?_) (fun h => ?_)
  · cases h
  refine wkd0 _ ?_
  refine Holds.cond rfl (fun h => ?_) (fun h => ?_)
  · cases h
  refine wkd0 _ ?_
  refine Out.mk (xs := ?_) ?_ ?_ (by first | exact .inr rfl | exact .inl rfl)
  rotate_left
  · simp [go_sem, List.take_of_length_le] <;> with_reducible rfl
  exact .v _
end Go.Proofs.Ytenienncgjanpaa.En
end
