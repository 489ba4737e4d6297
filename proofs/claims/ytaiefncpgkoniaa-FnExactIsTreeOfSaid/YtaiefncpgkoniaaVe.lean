/- Walks of IsTreeOf: both sides. -/
import Derived.Test.YtaiefncpgkoniaaVc
namespace Go.Proofs.Ytaiefncpgkoniaa.En
open Go.RowKit
set_option linter.unusedSimpArgs false
set_option linter.unusedVariables false
set_option maxHeartbeats 8000000
theorem ints_c1 (xs : List Int) : ((ints xs).all fun r => r.all c1) = true := by
  rw [List.all_eq_true]
  intro row hr
  simp only [ints, List.mem_map] at hr
  obtain ⟨n, _, rfl⟩ := hr
  rfl
theorem l11Yield (g : GrammarT) (hg : OkG g) (tree : List Int) (ht : tree.length ≤ 60) : ∀ (f : Nat) (non : Int) (at' : Nat) (p : PT) (w : List Int), at' ≤ 100 → tree.length < f + at' → readF g tree f non at' [] = (some p, w) →
    Pure Try.prog 20 [.ag (grammarC g), .im 1 (ints tree), .v (.int .i64 at')] (.tu [.im 1 (ints w), .v (.int .i64 p.fin)]) := by
  intro f
  induction f with
  | zero => intro non at' p w _ _ h; cases h
  | succ f ih =>
    intro non at' p w ha hf hread
    unfold readF at hread
    cases hh : headOk g tree non at' with
    | false => rw [hh] at hread; simp at hread
    | true =>
      obtain ⟨k, r, hlt, hz, hk, h2, hr, h3, hra, hgd⟩ := head_good hh
      rw [hh, if_pos rfl, hra] at hread
      have hrm := List.mem_of_getElem? hr
      have h4 := hg.r4 _ hrm
      have hs0 := hg.s0 _ hrm
      have ht1 := hg.t1
      obtain ⟨l, right⟩ := r
      dsimp only at h3 h4 hs0 hread
      generalize hR : kidsF (readF g tree f) right (at' + 1) [] [] = R at hread
      obtain ⟨q, W⟩ := R
      cases q with
      | none => simp at hread
      | some q =>
        obtain ⟨K, E⟩ := q
        dsimp only at hread
        have hfin : p.fin = E := by
          have := congrArg Prod.fst hread
          simp only [Option.some.injEq] at this
          rw [← this]; rfl
        have hW : W = w := congrArg Prod.snd hread
        subst hW
        rw [hfin]
        clear hread hfin
        have hw1 : wr64 ((at' : Int) + 1) = ((at' + 1 : Nat) : Int) := wr64_id (by omega) (by omega)
        refine Pure.mk (rs := [.tmp 6, .tmp 7]) (nt := 51) Try.func20 (by kernel_rfl) rfl rfl rfl (by simp) ?_
        simp only [sl, grammarC]
        repeat' first
          | refine Holds.seq ?_
          | refine Holds.skip ?_
          | refine Holds.exit ?_
          | refine Holds.ret ?_
          | refine thenA_normal ?_
          | refine thenA_exit ?_
          | refine thenA_ret ?_
          | refine inB_normal ?_
          | refine inB_ret ?_
          | refine inB_here ?_
          | (refine inB_past ?_ ?_; (· exact rfl))
          | refine Holds.reg ?_
          | refine Holds.block ?_
          | refine GS.nil ?_
          | refine Gd.nil ?_
          | (refine Holds.any mixed ?_ ?_; (· kernel_rfl))
          | (refine GS.step (s' := ?_) ?_ ?_ ?_; rotate_left; (· exact rfl); (· (simp [go_sem, List.take_of_length_le, hz, hr, ruleC, hw1] <;> with_reducible rfl)))
          | (refine GS.skip ?_ ?_ ?_; (· exact rfl); (· exact rfl))
          | (refine Gd.go (s' := ?_) ?_ ?_ ?_; rotate_left; (· exact rfl); (· (simp [go_sem, List.take_of_length_le, hz, hr, ruleC, hw1] <;> with_reducible rfl)))
          | (refine Gd.skip ?_ ?_ ?_; (· exact rfl); (· exact rfl))
          | fail
        refine Holds.niw 8 3 1 rfl ?_
        refine Holds.loop (ι := Nat × Nat × List PT × List Int) (fun i => ⟨[(1, .im 1 (ints tree)), (3, .pb 0 3 0 0), (8, .own 1 1 0 i.2.2.2.length), (9, .v (.int .i64 i.2.1)), (24, .im 1 (ints right)), (25, .v (.int .i64 right.length)), (26, .v (.int .i64 i.1))], [(0, ⟨31, 3, [[.v (.int .i64 g.1), .v (.int .i64 g.2.1), .im 2 (rules g.2.2)]]⟩), (1, ⟨3, 1, ints i.2.2.2⟩)], 2⟩)
          (fun i => i.1 ≤ right.length ∧ kidsF (readF g tree f) (right.drop i.1) i.2.1 i.2.2.1 i.2.2.2 = (some (K, E), W) ∧ at' + 1 ≤ i.2.1 ∧ i.2.1 ≤ tree.length ∧ i.2.2.2.length ≤ i.1 + 4 * (i.2.1 - at' - 1)) (fun i => right.length - i.1) (0, at' + 1, [], []) ⟨Nat.zero_le _, hR, Nat.le_refl _, by dsimp only; omega, by simp⟩ ?_ ?_
        · exact Cov.ofn (nm [0, 1]) rfl (by simp [go_sem, List.take_of_length_le, ren, ren1, okr, okr1, ChkT, ChkN, BlkN, nf]) (by simp [go_sem, List.take_of_length_le, ren, ren1, okr, okr1, ChkT, ChkN, BlkN, nf])
        rintro ⟨j, e, ks, w'⟩ ⟨hj, hfold, he0, he1, hwl⟩
        dsimp only at hj hfold he0 he1 hwl ⊢
        have step : wr64 ((j : Int) + 1) = ((j + 1 : Nat) : Int) := wr64_id (by omega) (by omega)
        repeat' first
          | refine Holds.seq ?_
          | refine Holds.skip ?_
          | refine Holds.exit ?_
          | refine Holds.ret ?_
          | refine thenA_normal ?_
          | refine thenA_exit ?_
          | refine thenA_ret ?_
          | refine inB_normal ?_
          | refine inB_ret ?_
          | refine inB_here ?_
          | (refine inB_past ?_ ?_; (· exact rfl))
          | refine Holds.reg ?_
          | refine Holds.block ?_
          | refine GS.nil ?_
          | refine Gd.nil ?_
          | (refine Holds.any mixed ?_ ?_; (· kernel_rfl))
          | (refine GS.step (s' := ?_) ?_ ?_ ?_; rotate_left; (· exact rfl); (· (simp [go_sem, List.take_of_length_le] <;> with_reducible rfl)))
          | (refine GS.skip ?_ ?_ ?_; (· exact rfl); (· exact rfl))
          | (refine Gd.go (s' := ?_) ?_ ?_ ?_; rotate_left; (· exact rfl); (· (simp [go_sem, List.take_of_length_le] <;> with_reducible rfl)))
          | (refine Gd.skip ?_ ?_ ?_; (· exact rfl); (· exact rfl))
          | fail
        refine Holds.cond rfl (fun hl => ?_) (fun hl => ?_)
        · have hjt : j < right.length := by simpa using hl
          have hxj : right[j]? = some right[j] := List.getElem?_eq_getElem hjt
          have hxs := hs0 _ (List.getElem_mem hjt)
          rw [List.drop_eq_getElem_cons hjt] at hfold
          unfold kidsF at hfold
          generalize right[j] = x at hxj hfold hxs
          repeat' first
            | refine Holds.seq ?_
            | refine Holds.skip ?_
            | refine Holds.exit ?_
            | refine Holds.ret ?_
            | refine thenA_normal ?_
            | refine thenA_exit ?_
            | refine thenA_ret ?_
            | refine inB_normal ?_
            | refine inB_ret ?_
            | refine inB_here ?_
            | (refine inB_past ?_ ?_; (· exact rfl))
            | refine Holds.reg ?_
            | refine Holds.block ?_
            | refine GS.nil ?_
            | refine Gd.nil ?_
            | (refine Holds.any mixed ?_ ?_; (· kernel_rfl))
            | (refine GS.step (s' := ?_) ?_ ?_ ?_; rotate_left; (· exact rfl); (· (simp [go_sem, List.take_of_length_le, hxj] <;> with_reducible rfl)))
            | (refine GS.skip ?_ ?_ ?_; (· exact rfl); (· exact rfl))
            | (refine Gd.go (s' := ?_) ?_ ?_ ?_; rotate_left; (· exact rfl); (· (simp [go_sem, List.take_of_length_le, hxj] <;> with_reducible rfl)))
            | (refine Gd.skip ?_ ?_ ?_; (· exact rfl); (· exact rfl))
            | fail
          refine Holds.cond rfl (fun hx => ?_) (fun hx => ?_)
          · have hx : x < 0 := by simpa using hx
            rw [if_pos hx] at hfold
            have hwx : wr64 (-1 - x) = -1 - x := wr64_id (by omega) (by omega)
            repeat' first
              | refine Holds.seq ?_
              | refine Holds.skip ?_
              | refine Holds.exit ?_
              | refine Holds.ret ?_
              | refine thenA_normal ?_
              | refine thenA_exit ?_
              | refine thenA_ret ?_
              | refine inB_normal ?_
              | refine inB_ret ?_
              | refine inB_here ?_
              | (refine inB_past ?_ ?_; (· exact rfl))
              | refine Holds.reg ?_
              | refine Holds.block ?_
              | refine GS.nil ?_
              | refine Gd.nil ?_
              | (refine Holds.any mixed ?_ ?_; (· kernel_rfl))
              | (refine GS.step (s' := ?_) ?_ ?_ ?_; rotate_left; (· exact rfl); (· (simp [go_sem, List.take_of_length_le, hwx, show (w'.length + 1) * 8 ≤ 140737488355328 by omega] <;> with_reducible rfl)))
              | (refine GS.skip ?_ ?_ ?_; (· exact rfl); (· exact rfl))
              | (refine Gd.go (s' := ?_) ?_ ?_ ?_; rotate_left; (· exact rfl); (· (simp [go_sem, List.take_of_length_le, hwx, show (w'.length + 1) * 8 ≤ 140737488355328 by omega] <;> with_reducible rfl)))
              | (refine Gd.skip ?_ ?_ ?_; (· exact rfl); (· exact rfl))
              | fail
            refine ⟨(j + 1, e, ks, w' ++ [-1 - x]), ⟨by dsimp only; omega, hfold, he0, he1, by simp; omega⟩, by dsimp only; omega, ?_⟩
            rw [step]
            exact Cov.ofn (nm [0, 4]) rfl (by simp [go_sem, List.take_of_length_le, ren, ren1, okr, okr1, ChkT, ChkN, BlkN, nf, ints_snoc, hwx]) (by simp [go_sem, List.take_of_length_le, ren, ren1, okr, okr1, ChkT, ChkN, BlkN, nf, ints_snoc, hwx])
          have hx : ¬ x < 0 := by simpa using hx
          rw [if_neg hx] at hfold
          obtain ⟨s1, s2⟩ := read_shift g tree f x e w'
          have hp := readF_props hg tree f x e []
          have hi := ih x e
          generalize readF g tree f x e w' = q at hfold s1 s2
          generalize readF g tree f x e [] = q0 at s1 s2 hp hi
          obtain ⟨q, w1⟩ := q
          obtain ⟨q0, y⟩ := q0
          dsimp only at s1 s2
          subst s1
          cases q with
          | none => simp at hfold
          | some p1 =>
            cases q0 with
            | none => simp at s2
            | some p0 =>
              have hfe : p1.fin = p0.fin := by simpa using s2
              obtain ⟨b0, b1, b2⟩ := hp p0 y rfl
              have hi := hi p0 y (by omega) (by omega) rfl
              dsimp only at hfold
              rw [hfe] at hfold
              simp only [List.length_nil] at b2
              repeat' first
                | refine Holds.seq ?_
                | refine Holds.skip ?_
                | refine Holds.exit ?_
                | refine Holds.ret ?_
                | refine thenA_normal ?_
                | refine thenA_exit ?_
                | refine thenA_ret ?_
                | refine inB_normal ?_
                | refine inB_ret ?_
                | refine inB_here ?_
                | (refine inB_past ?_ ?_; (· exact rfl))
                | refine Holds.reg ?_
                | refine Holds.block ?_
                | refine GS.nil ?_
                | refine Gd.nil ?_
                | (refine Holds.any mixed ?_ ?_; (· kernel_rfl))
                | (refine GS.step (s' := ?_) ?_ ?_ ?_; rotate_left; (· exact rfl); (· (simp [go_sem, List.take_of_length_le, grammarC] <;> with_reducible rfl)))
                | (refine GS.skip ?_ ?_ ?_; (· exact rfl); (· exact rfl))
                | (refine Gd.go (s' := ?_) ?_ ?_ ?_; rotate_left; (· exact rfl); (· (simp [go_sem, List.take_of_length_le, grammarC] <;> with_reducible rfl)))
                | (refine Gd.skip ?_ ?_ ?_; (· exact rfl); (· exact rfl))
                | fail
              first | refine GS.cc (hi) rfl rfl rfl rfl (by simp [go_sem, List.take_of_length_le, grammarC] <;> with_reducible rfl) rfl (by simp [go_sem, List.take_of_length_le, grammarC]) ?_ | refine Gd.cc (hi) rfl rfl rfl rfl (by simp [go_sem, List.take_of_length_le, grammarC] <;> with_reducible rfl) rfl (by simp [go_sem, List.take_of_length_le, grammarC]) ?_
              repeat' first
                | refine Holds.seq ?_
                | refine Holds.skip ?_
                | refine Holds.exit ?_
                | refine Holds.ret ?_
                | refine thenA_normal ?_
                | refine thenA_exit ?_
                | refine thenA_ret ?_
                | refine inB_normal ?_
                | refine inB_ret ?_
                | refine inB_here ?_
                | (refine inB_past ?_ ?_; (· exact rfl))
                | refine Holds.reg ?_
                | refine Holds.block ?_
                | refine GS.nil ?_
                | refine Gd.nil ?_
                | (refine Holds.any mixed ?_ ?_; (· kernel_rfl))
                | (refine GS.step (s' := ?_) ?_ ?_ ?_; rotate_left; (· exact rfl); (· (simp [go_sem, List.take_of_length_le, ints_c1, show (w'.length + y.length) * 8 ≤ 140737488355328 by omega] <;> with_reducible rfl)))
                | (refine GS.skip ?_ ?_ ?_; (· exact rfl); (· exact rfl))
                | (refine Gd.go (s' := ?_) ?_ ?_ ?_; rotate_left; (· exact rfl); (· (simp [go_sem, List.take_of_length_le, ints_c1, show (w'.length + y.length) * 8 ≤ 140737488355328 by omega] <;> with_reducible rfl)))
                | (refine Gd.skip ?_ ?_ ?_; (· exact rfl); (· exact rfl))
                | fail
              refine ⟨(j + 1, p0.fin, ks ++ [p1], w' ++ y), ⟨by dsimp only; omega, hfold, by dsimp only; omega, by dsimp only; omega, by simp; omega⟩, by dsimp only; omega, ?_⟩
              rw [step]
              exact Cov.ofn (nm [0, 3]) rfl (by simp [go_sem, List.take_of_length_le, ren, ren1, okr, okr1, ChkT, ChkN, BlkN, nf, ints_append]) (by simp [go_sem, List.take_of_length_le, ren, ren1, okr, okr1, ChkT, ChkN, BlkN, nf, ints_append])
        · have hje : j = right.length := by
            have : ¬ j < right.length := by simpa using hl
            omega
          subst hje
          rw [List.drop_length] at hfold
          unfold kidsF at hfold
          simp only [Prod.mk.injEq, Option.some.injEq] at hfold
          obtain ⟨⟨_, rfl⟩, rfl⟩ := hfold
          repeat' first
            | refine Holds.seq ?_
            | refine Holds.skip ?_
            | refine Holds.exit ?_
            | refine Holds.ret ?_
            | refine thenA_normal ?_
            | refine thenA_exit ?_
            | refine thenA_ret ?_
            | refine inB_normal ?_
            | refine inB_ret ?_
            | refine inB_here ?_
            | (refine inB_past ?_ ?_; (· exact rfl))
            | refine Holds.reg ?_
            | refine Holds.block ?_
            | refine GS.nil ?_
            | refine Gd.nil ?_
            | (refine Holds.any mixed ?_ ?_; (· kernel_rfl))
            | (refine GS.step (s' := ?_) ?_ ?_ ?_; rotate_left; (· exact rfl); (· (simp [go_sem, List.take_of_length_le] <;> with_reducible rfl)))
            | (refine GS.skip ?_ ?_ ?_; (· exact rfl); (· exact rfl))
            | (refine Gd.go (s' := ?_) ?_ ?_ ?_; rotate_left; (· exact rfl); (· (simp [go_sem, List.take_of_length_le] <;> with_reducible rfl)))
            | (refine Gd.skip ?_ ?_ ?_; (· exact rfl); (· exact rfl))
            | fail
          refine Out.mk (xs := ?_) ?_ ?_ (by first | exact .inr rfl | exact .inl rfl)
          rotate_left
          · simp [go_sem, List.take_of_length_le] <;> with_reducible rfl
          exact Fz.tuL (.cons (Fz.all rfl rfl (by simp) rfl (ints_cl _)) (.cons (.v _) .nil))
theorem isWord1 (n t : Int) (h0 : -1000000 ≤ t) (h1 : t ≤ 1000000) : Pure Try.prog 46 [.v (.int .i64 n), .pi [.v (.int .i64 t)]] (.v (.bool (!inR n 0 (t - 1)))) := by
  refine Pure.mk (rs := [.tmp 3]) (nt := 9) Try.func46 (by kernel_rfl) rfl rfl rfl (by simp) ?_
  simp only [sl]
  have hw : wr64 (t - 1) = t - 1 := wr64_id (by omega) (by omega)
  repeat' first
    | refine Holds.seq ?_
    | refine Holds.skip ?_
    | refine Holds.exit ?_
    | refine Holds.ret ?_
    | refine thenA_normal ?_
    | refine thenA_exit ?_
    | refine thenA_ret ?_
    | refine inB_normal ?_
    | refine inB_ret ?_
    | refine inB_here ?_
    | (refine inB_past ?_ ?_; (· exact rfl))
    | refine Holds.reg ?_
    | refine Holds.block ?_
    | refine GS.nil ?_
    | (refine GS.step (s' := ?_) ?_ ?_ ?_; rotate_left; (· exact rfl); (· (simp [go_sem, List.take_of_length_le, hw] <;> with_reducible rfl)))
    | (refine GS.skip ?_ ?_ ?_; (· exact rfl); (· exact rfl))
    | fail
  refine GS.cc (implIn n 0 (t - 1)) rfl rfl rfl rfl (by simp [go_sem, List.take_of_length_le] <;> with_reducible rfl) rfl (by simp [go_sem, List.take_of_length_le]) ?_
  repeat' first
    | refine Holds.seq ?_
    | refine Holds.skip ?_
    | refine Holds.exit ?_
    | refine Holds.ret ?_
    | refine thenA_normal ?_
    | refine thenA_exit ?_
    | refine thenA_ret ?_
    | refine inB_normal ?_
    | refine inB_ret ?_
    | refine inB_here ?_
    | (refine inB_past ?_ ?_; (· exact rfl))
    | refine Holds.reg ?_
    | refine Holds.block ?_
    | refine GS.nil ?_
    | (refine GS.step (s' := ?_) ?_ ?_ ?_; rotate_left; (· exact rfl); (· (simp [go_sem, List.take_of_length_le] <;> with_reducible rfl)))
    | (refine GS.skip ?_ ?_ ?_; (· exact rfl); (· exact rfl))
    | fail
  refine Out.mk (xs := ?_) ?_ ?_ (by first | exact .inr rfl | exact .inl rfl)
  rotate_left
  · simp [go_sem, List.take_of_length_le] <;> with_reducible rfl
  exact .v _
theorem isWord (t : Int) (w : List Int) (h0 : -1000000 ≤ t) (h1 : t ≤ 1000000) (hw : w.length < 4611686018427387904) : Pure Try.prog 24 [.v (.int .i64 t), .im 1 (ints w)] (.v (.bool (wordV t w))) := by
  refine Pure.mk (rs := [.tmp 4]) (nt := 14) Try.func24 (by kernel_rfl) rfl rfl rfl (by simp) ?_
  simp only [sl]
  have hc := containsFuncInt 46 [.pi [.v (.int .i64 t)]] (fun n => !inR n 0 (t - 1)) w hw rfl (fun x _ => isWord1 x t h0 h1)
  unfold wordV
  rw [all_not_any (fun n => inR n 0 (t - 1)) w, show decide (w.length ≤ 10) = decide ((w.length : Int) ≤ 10) by rw [decide_eq_decide]; omega]
  generalize (w.any fun n => !inR n 0 (t - 1)) = b at hc
  repeat' first
    | refine Holds.seq ?_
    | refine Holds.skip ?_
    | refine Holds.exit ?_
    | refine Holds.ret ?_
    | refine thenA_normal ?_
    | refine thenA_exit ?_
    | refine thenA_ret ?_
    | refine inB_normal ?_
    | refine inB_ret ?_
    | refine inB_here ?_
    | (refine inB_past ?_ ?_; (· exact rfl))
    | refine Holds.reg ?_
    | refine Holds.block ?_
    | refine GS.nil ?_
    | (refine GS.step (s' := ?_) ?_ ?_ ?_; rotate_left; (· exact rfl); (· (simp [go_sem, List.take_of_length_le] <;> with_reducible rfl)))
    | (refine GS.skip ?_ ?_ ?_; (· exact rfl); (· exact rfl))
    | fail
  refine GS.guard (t := 8) rfl (fun h => ?_) (fun h => ?_)
  · repeat' first
      | refine Holds.seq ?_
      | refine Holds.skip ?_
      | refine Holds.exit ?_
      | refine Holds.ret ?_
      | refine thenA_normal ?_
      | refine thenA_exit ?_
      | refine thenA_ret ?_
      | refine inB_normal ?_
      | refine inB_ret ?_
      | refine inB_here ?_
      | (refine inB_past ?_ ?_; (· exact rfl))
      | refine Holds.reg ?_
      | refine Holds.block ?_
      | refine GS.nil ?_
      | (refine GS.step (s' := ?_) ?_ ?_ ?_; rotate_left; (· exact rfl); (· (simp [go_sem, List.take_of_length_le] <;> with_reducible rfl)))
      | (refine GS.skip ?_ ?_ ?_; (· exact rfl); (· exact rfl))
      | fail
    refine GS.cd (hc) rfl rfl rfl rfl (by simp [go_sem, List.take_of_length_le] <;> with_reducible rfl) rfl (by exact .cons (.im _ _) (.cons (Fz.fnL (.cons (Fz.box rfl rfl rfl rfl) .nil)) .nil)) rfl ?_
    repeat' first
      | refine Holds.seq ?_
      | refine Holds.skip ?_
      | refine Holds.exit ?_
      | refine Holds.ret ?_
      | refine thenA_normal ?_
      | refine thenA_exit ?_
      | refine thenA_ret ?_
      | refine inB_normal ?_
      | refine inB_ret ?_
      | refine inB_here ?_
      | (refine inB_past ?_ ?_; (· exact rfl))
      | refine Holds.reg ?_
      | refine Holds.block ?_
      | refine GS.nil ?_
      | (refine GS.step (s' := ?_) ?_ ?_ ?_; rotate_left; (· exact rfl); (· (simp [go_sem, List.take_of_length_le] <;> with_reducible rfl)))
      | (refine GS.skip ?_ ?_ ?_; (· exact rfl); (· exact rfl))
      | fail
    rw [h]
    refine Out.mk (xs := ?_) ?_ ?_ (by first | exact .inr rfl | exact .inl rfl)
    rotate_left
    · simp [go_sem, List.take_of_length_le] <;> with_reducible rfl
    exact .v _
  · repeat' first
      | refine Holds.seq ?_
      | refine Holds.skip ?_
      | refine Holds.exit ?_
      | refine Holds.ret ?_
      | refine thenA_normal ?_
      | refine thenA_exit ?_
      | refine thenA_ret ?_
      | refine inB_normal ?_
      | refine inB_ret ?_
      | refine inB_here ?_
      | (refine inB_past ?_ ?_; (· exact rfl))
      | refine Holds.reg ?_
      | refine Holds.block ?_
      | refine GS.nil ?_
      | (refine GS.step (s' := ?_) ?_ ?_ ?_; rotate_left; (· exact rfl); (· (simp [go_sem, List.take_of_length_le] <;> with_reducible rfl)))
      | (refine GS.skip ?_ ?_ ?_; (· exact rfl); (· exact rfl))
      | fail
    rw [h]
    refine Out.mk (xs := ?_) ?_ ?_ (by first | exact .inr rfl | exact .inl rfl)
    rotate_left
    · simp [go_sem, List.take_of_length_le] <;> with_reducible rfl
    exact .v _
def isTV (g : GrammarT) (w tree : List Int) : Bool × Bool := if goodG g && wordV g.2.1 w && decide (tree.length ≤ 60) then (isTreeV g 0 tree && decide ((readF g tree 61 0 0 []).2 = w), true) else (false, false)
theorem specIsTree (g : GrammarT) (w tree : List Int) (hx : g.2.2.length < 4611686018427387904) (hs : ∀ e ∈ g.2.2, e.2.length < 4611686018427387904) (hw : w.length < 4611686018427387904) (htl : tree.length < 4611686018427387904) : Pure Try.prog 7 [.ag (grammarC g), .im 1 (ints w), .im 1 (ints tree)] (.tu [.v (.bool (isTV g w tree).1), .v (.bool (isTV g w tree).2)]) := by
  refine Pure.mk (rs := [.tmp 6, .tmp 7]) (nt := 32) Try.func7 (by kernel_rfl) rfl rfl rfl (by simp) ?_
  simp only [sl, grammarC]
  have c1 := goodWord g w hx hs hw
  unfold isTV
  generalize hgg : (goodG g && wordV g.2.1 w) = b at c1
  repeat' first
    | refine Holds.seq ?_
    | refine Holds.skip ?_
    | refine Holds.exit ?_
    | refine Holds.ret ?_
    | refine thenA_normal ?_
    | refine thenA_exit ?_
    | refine thenA_ret ?_
    | refine inB_normal ?_
    | refine inB_ret ?_
    | refine inB_here ?_
    | (refine inB_past ?_ ?_; (· exact rfl))
    | refine Holds.reg ?_
    | refine Holds.block ?_
    | refine GS.nil ?_
    | (refine GS.step (s' := ?_) ?_ ?_ ?_; rotate_left; (· exact rfl); (· (simp [go_sem, List.take_of_length_le] <;> with_reducible rfl)))
    | (refine GS.skip ?_ ?_ ?_; (· exact rfl); (· exact rfl))
    | fail
  refine GS.cc (c1) rfl rfl rfl rfl (by simp [go_sem, List.take_of_length_le, grammarC] <;> with_reducible rfl) rfl (by simp [go_sem, List.take_of_length_le, grammarC]) ?_
  repeat' first
    | refine Holds.seq ?_
    | refine Holds.skip ?_
    | refine Holds.exit ?_
    | refine Holds.ret ?_
    | refine thenA_normal ?_
    | refine thenA_exit ?_
    | refine thenA_ret ?_
    | refine inB_normal ?_
    | refine inB_ret ?_
    | refine inB_here ?_
    | (refine inB_past ?_ ?_; (· exact rfl))
    | refine Holds.reg ?_
    | refine Holds.block ?_
    | refine GS.nil ?_
    | (refine GS.step (s' := ?_) ?_ ?_ ?_; rotate_left; (· exact rfl); (· (simp [go_sem, List.take_of_length_le] <;> with_reducible rfl)))
    | (refine GS.skip ?_ ?_ ?_; (· exact rfl); (· exact rfl))
    | fail
  refine GS.guard (t := 14) rfl (fun h => ?_) (fun h => ?_)
  · have h : b = false := by simpa using h
    subst h
    repeat' first
      | refine Holds.seq ?_
      | refine Holds.skip ?_
      | refine Holds.exit ?_
      | refine Holds.ret ?_
      | refine thenA_normal ?_
      | refine thenA_exit ?_
      | refine thenA_ret ?_
      | refine inB_normal ?_
      | refine inB_ret ?_
      | refine inB_here ?_
      | (refine inB_past ?_ ?_; (· exact rfl))
      | refine Holds.reg ?_
      | refine Holds.block ?_
      | refine GS.nil ?_
      | (refine GS.step (s' := ?_) ?_ ?_ ?_; rotate_left; (· exact rfl); (· (simp [go_sem, List.take_of_length_le] <;> with_reducible rfl)))
      | (refine GS.skip ?_ ?_ ?_; (· exact rfl); (· exact rfl))
      | fail
    refine Holds.cond rfl (fun h => ?_) (fun h => ?_)
    · repeat' first
        | refine Holds.seq ?_
        | refine Holds.skip ?_
        | refine Holds.exit ?_
        | refine Holds.ret ?_
        | refine thenA_normal ?_
        | refine thenA_exit ?_
        | refine thenA_ret ?_
        | refine inB_normal ?_
        | refine inB_ret ?_
        | refine inB_here ?_
        | (refine inB_past ?_ ?_; (· exact rfl))
        | refine Holds.reg ?_
        | refine Holds.block ?_
        | refine GS.nil ?_
        | (refine GS.step (s' := ?_) ?_ ?_ ?_; rotate_left; (· exact rfl); (· (simp [go_sem, List.take_of_length_le] <;> with_reducible rfl)))
        | (refine GS.skip ?_ ?_ ?_; (· exact rfl); (· exact rfl))
        | fail
      refine Out.mk (xs := ?_) ?_ ?_ (by first | exact .inr rfl | exact .inl rfl)
      rotate_left
      · simp [go_sem, List.take_of_length_le] <;> with_reducible rfl
      exact Fz.cl rfl
    · cases h
  have h : b = true := by simpa using h
  subst h
  simp only [Bool.and_eq_true] at hgg
  have hok := goodG_ok hgg.1
  repeat' first
    | refine Holds.seq ?_
    | refine Holds.skip ?_
    | refine Holds.exit ?_
    | refine Holds.ret ?_
    | refine thenA_normal ?_
    | refine thenA_exit ?_
    | refine thenA_ret ?_
    | refine inB_normal ?_
    | refine inB_ret ?_
    | refine inB_here ?_
    | (refine inB_past ?_ ?_; (· exact rfl))
    | refine Holds.reg ?_
    | refine Holds.block ?_
    | refine GS.nil ?_
    | (refine GS.step (s' := ?_) ?_ ?_ ?_; rotate_left; (· exact rfl); (· (simp [go_sem, List.take_of_length_le] <;> with_reducible rfl)))
    | (refine GS.skip ?_ ?_ ?_; (· exact rfl); (· exact rfl))
    | fail
  refine Holds.cond rfl (fun h => ?_) (fun h => ?_)
  · have h : ¬ tree.length ≤ 60 := by simp at h; omega
    rw [decide_eq_false h]
    repeat' first
      | refine Holds.seq ?_
      | refine Holds.skip ?_
      | refine Holds.exit ?_
      | refine Holds.ret ?_
      | refine thenA_normal ?_
      | refine thenA_exit ?_
      | refine thenA_ret ?_
      | refine inB_normal ?_
      | refine inB_ret ?_
      | refine inB_here ?_
      | (refine inB_past ?_ ?_; (· exact rfl))
      | refine Holds.reg ?_
      | refine Holds.block ?_
      | refine GS.nil ?_
      | (refine GS.step (s' := ?_) ?_ ?_ ?_; rotate_left; (· exact rfl); (· (simp [go_sem, List.take_of_length_le] <;> with_reducible rfl)))
      | (refine GS.skip ?_ ?_ ?_; (· exact rfl); (· exact rfl))
      | fail
    refine Out.mk (xs := ?_) ?_ ?_ (by first | exact .inr rfl | exact .inl rfl)
    rotate_left
    · simp [go_sem, List.take_of_length_le] <;> with_reducible rfl
    exact Fz.cl rfl
  have ht : tree.length ≤ 60 := by simp at h; omega
  rw [decide_eq_true ht]
  have c2 := l11Is g hok tree ht 0
  cases hit : isTreeV g 0 tree with
  | false =>
    rw [hit] at c2
    repeat' first
      | refine Holds.seq ?_
      | refine Holds.skip ?_
      | refine Holds.exit ?_
      | refine Holds.ret ?_
      | refine thenA_normal ?_
      | refine thenA_exit ?_
      | refine thenA_ret ?_
      | refine inB_normal ?_
      | refine inB_ret ?_
      | refine inB_here ?_
      | (refine inB_past ?_ ?_; (· exact rfl))
      | refine Holds.reg ?_
      | refine Holds.block ?_
      | refine GS.nil ?_
      | (refine GS.step (s' := ?_) ?_ ?_ ?_; rotate_left; (· exact rfl); (· (simp [go_sem, List.take_of_length_le, grammarC] <;> with_reducible rfl)))
      | (refine GS.skip ?_ ?_ ?_; (· exact rfl); (· exact rfl))
      | fail
    refine GS.cc (c2) rfl rfl rfl rfl (by simp [go_sem, List.take_of_length_le, grammarC] <;> with_reducible rfl) rfl (by simp [go_sem, List.take_of_length_le, grammarC]) ?_
    repeat' first
      | refine Holds.seq ?_
      | refine Holds.skip ?_
      | refine Holds.exit ?_
      | refine Holds.ret ?_
      | refine thenA_normal ?_
      | refine thenA_exit ?_
      | refine thenA_ret ?_
      | refine inB_normal ?_
      | refine inB_ret ?_
      | refine inB_here ?_
      | (refine inB_past ?_ ?_; (· exact rfl))
      | refine Holds.reg ?_
      | refine Holds.block ?_
      | refine GS.nil ?_
      | (refine GS.step (s' := ?_) ?_ ?_ ?_; rotate_left; (· exact rfl); (· (simp [go_sem, List.take_of_length_le] <;> with_reducible rfl)))
      | (refine GS.skip ?_ ?_ ?_; (· exact rfl); (· exact rfl))
      | fail
    refine Holds.cond rfl (fun h => ?_) (fun h => ?_)
    · repeat' first
        | refine Holds.seq ?_
        | refine Holds.skip ?_
        | refine Holds.exit ?_
        | refine Holds.ret ?_
        | refine thenA_normal ?_
        | refine thenA_exit ?_
        | refine thenA_ret ?_
        | refine inB_normal ?_
        | refine inB_ret ?_
        | refine inB_here ?_
        | (refine inB_past ?_ ?_; (· exact rfl))
        | refine Holds.reg ?_
        | refine Holds.block ?_
        | refine GS.nil ?_
        | (refine GS.step (s' := ?_) ?_ ?_ ?_; rotate_left; (· exact rfl); (· (simp [go_sem, List.take_of_length_le] <;> with_reducible rfl)))
        | (refine GS.skip ?_ ?_ ?_; (· exact rfl); (· exact rfl))
        | fail
      refine Out.mk (xs := ?_) ?_ ?_ (by first | exact .inr rfl | exact .inl rfl)
      rotate_left
      · simp [go_sem, List.take_of_length_le] <;> with_reducible rfl
      exact Fz.cl rfl
    · cases h
  | true =>
    rw [hit] at c2
    obtain ⟨⟨p, y, hrd, hfl⟩, _⟩ := isTree_facts hit
    have c3 := l11Yield g hok tree ht 61 0 0 p y (by omega) (by omega) hrd
    have hpl := readF_props hok tree 61 0 0 [] p y hrd
    have c4 := l1Same y w (by simp only [List.length_nil] at hpl; omega)
    rw [hrd]
    repeat' first
      | refine Holds.seq ?_
      | refine Holds.skip ?_
      | refine Holds.exit ?_
      | refine Holds.ret ?_
      | refine thenA_normal ?_
      | refine thenA_exit ?_
      | refine thenA_ret ?_
      | refine inB_normal ?_
      | refine inB_ret ?_
      | refine inB_here ?_
      | (refine inB_past ?_ ?_; (· exact rfl))
      | refine Holds.reg ?_
      | refine Holds.block ?_
      | refine GS.nil ?_
      | (refine GS.step (s' := ?_) ?_ ?_ ?_; rotate_left; (· exact rfl); (· (simp [go_sem, List.take_of_length_le, grammarC] <;> with_reducible rfl)))
      | (refine GS.skip ?_ ?_ ?_; (· exact rfl); (· exact rfl))
      | fail
    refine GS.cc (c2) rfl rfl rfl rfl (by simp [go_sem, List.take_of_length_le, grammarC] <;> with_reducible rfl) rfl (by simp [go_sem, List.take_of_length_le, grammarC]) ?_
    repeat' first
      | refine Holds.seq ?_
      | refine Holds.skip ?_
      | refine Holds.exit ?_
      | refine Holds.ret ?_
      | refine thenA_normal ?_
      | refine thenA_exit ?_
      | refine thenA_ret ?_
      | refine inB_normal ?_
      | refine inB_ret ?_
      | refine inB_here ?_
      | (refine inB_past ?_ ?_; (· exact rfl))
      | refine Holds.reg ?_
      | refine Holds.block ?_
      | refine GS.nil ?_
      | (refine GS.step (s' := ?_) ?_ ?_ ?_; rotate_left; (· exact rfl); (· (simp [go_sem, List.take_of_length_le] <;> with_reducible rfl)))
      | (refine GS.skip ?_ ?_ ?_; (· exact rfl); (· exact rfl))
      | fail
    refine Holds.cond rfl (fun h => ?_) (fun h => ?_)
    · cases h
    repeat' first
      | refine Holds.seq ?_
      | refine Holds.skip ?_
      | refine Holds.exit ?_
      | refine Holds.ret ?_
      | refine thenA_normal ?_
      | refine thenA_exit ?_
      | refine thenA_ret ?_
      | refine inB_normal ?_
      | refine inB_ret ?_
      | refine inB_here ?_
      | (refine inB_past ?_ ?_; (· exact rfl))
      | refine Holds.reg ?_
      | refine Holds.block ?_
      | refine GS.nil ?_
      | (refine GS.step (s' := ?_) ?_ ?_ ?_; rotate_left; (· exact rfl); (· (simp [go_sem, List.take_of_length_le, grammarC] <;> with_reducible rfl)))
      | (refine GS.skip ?_ ?_ ?_; (· exact rfl); (· exact rfl))
      | fail
    refine GS.cc (c3) rfl rfl rfl rfl (by simp [go_sem, List.take_of_length_le, grammarC] <;> with_reducible rfl) rfl (by simp [go_sem, List.take_of_length_le, grammarC]) ?_
    repeat' first
      | refine Holds.seq ?_
      | refine Holds.skip ?_
      | refine Holds.exit ?_
      | refine Holds.ret ?_
      | refine thenA_normal ?_
      | refine thenA_exit ?_
      | refine thenA_ret ?_
      | refine inB_normal ?_
      | refine inB_ret ?_
      | refine inB_here ?_
      | (refine inB_past ?_ ?_; (· exact rfl))
      | refine Holds.reg ?_
      | refine Holds.block ?_
      | refine GS.nil ?_
      | (refine GS.step (s' := ?_) ?_ ?_ ?_; rotate_left; (· exact rfl); (· (simp [go_sem, List.take_of_length_le] <;> with_reducible rfl)))
      | (refine GS.skip ?_ ?_ ?_; (· exact rfl); (· exact rfl))
      | fail
    refine GS.cc (c4) rfl rfl rfl rfl (by simp [go_sem, List.take_of_length_le] <;> with_reducible rfl) rfl (by simp [go_sem, List.take_of_length_le]) ?_
    repeat' first
      | refine Holds.seq ?_
      | refine Holds.skip ?_
      | refine Holds.exit ?_
      | refine Holds.ret ?_
      | refine thenA_normal ?_
      | refine thenA_exit ?_
      | refine thenA_ret ?_
      | refine inB_normal ?_
      | refine inB_ret ?_
      | refine inB_here ?_
      | (refine inB_past ?_ ?_; (· exact rfl))
      | refine Holds.reg ?_
      | refine Holds.block ?_
      | refine GS.nil ?_
      | (refine GS.step (s' := ?_) ?_ ?_ ?_; rotate_left; (· exact rfl); (· (simp [go_sem, List.take_of_length_le] <;> with_reducible rfl)))
      | (refine GS.skip ?_ ?_ ?_; (· exact rfl); (· exact rfl))
      | fail
    refine Out.mk (xs := ?_) ?_ ?_ (by first | exact .inr rfl | exact .inl rfl)
    rotate_left
    · simp [go_sem, List.take_of_length_le] <;> with_reducible rfl
    exact Fz.cl rfl
theorem implIsTree (g : GrammarT) (w tree : List Int) (hx : g.2.2.length < 4611686018427387904) (hs : ∀ e ∈ g.2.2, e.2.length < 4611686018427387904) (hw : w.length < 4611686018427387904) (htl : tree.length < 4611686018427387904) : Pure Try.prog 10 [.ag (grammarC g), .im 1 (ints w), .im 1 (ints tree)] (.tu [.v (.bool (isTV g w tree).1), .v (.bool (isTV g w tree).2)]) := by
  refine Pure.mk (rs := [.tmp 6, .tmp 7]) (nt := 48) Try.func10 (by kernel_rfl) rfl rfl rfl (by simp) ?_
  simp only [sl, grammarC]
  have c1 := implGoodG g hx hs
  unfold isTV
  generalize hgg : goodG g = b at c1
  repeat' first
    | refine Holds.seq ?_
    | refine Holds.skip ?_
    | refine Holds.exit ?_
    | refine Holds.ret ?_
    | refine thenA_normal ?_
    | refine thenA_exit ?_
    | refine thenA_ret ?_
    | refine inB_normal ?_
    | refine inB_ret ?_
    | refine inB_here ?_
    | (refine inB_past ?_ ?_; (· exact rfl))
    | refine Holds.reg ?_
    | refine Holds.block ?_
    | refine GS.nil ?_
    | (refine GS.step (s' := ?_) ?_ ?_ ?_; rotate_left; (· exact rfl); (· (simp [go_sem, List.take_of_length_le] <;> with_reducible rfl)))
    | (refine GS.skip ?_ ?_ ?_; (· exact rfl); (· exact rfl))
    | fail
  refine GS.cc (c1) rfl rfl rfl rfl (by simp [go_sem, List.take_of_length_le, grammarC] <;> with_reducible rfl) rfl (by simp [go_sem, List.take_of_length_le, grammarC]) ?_
  repeat' first
    | refine Holds.seq ?_
    | refine Holds.skip ?_
    | refine Holds.exit ?_
    | refine Holds.ret ?_
    | refine thenA_normal ?_
    | refine thenA_exit ?_
    | refine thenA_ret ?_
    | refine inB_normal ?_
    | refine inB_ret ?_
    | refine inB_here ?_
    | (refine inB_past ?_ ?_; (· exact rfl))
    | refine Holds.reg ?_
    | refine Holds.block ?_
    | refine GS.nil ?_
    | (refine GS.step (s' := ?_) ?_ ?_ ?_; rotate_left; (· exact rfl); (· (simp [go_sem, List.take_of_length_le] <;> with_reducible rfl)))
    | (refine GS.skip ?_ ?_ ?_; (· exact rfl); (· exact rfl))
    | fail
  refine GS.guard (t := 14) rfl (fun h => ?_) (fun h => ?_)
  · have h : b = false := by simpa using h
    subst h
    repeat' first
      | refine Holds.seq ?_
      | refine Holds.skip ?_
      | refine Holds.exit ?_
      | refine Holds.ret ?_
      | refine thenA_normal ?_
      | refine thenA_exit ?_
      | refine thenA_ret ?_
      | refine inB_normal ?_
      | refine inB_ret ?_
      | refine inB_here ?_
      | (refine inB_past ?_ ?_; (· exact rfl))
      | refine Holds.reg ?_
      | refine Holds.block ?_
      | refine GS.nil ?_
      | (refine GS.step (s' := ?_) ?_ ?_ ?_; rotate_left; (· exact rfl); (· (simp [go_sem, List.take_of_length_le] <;> with_reducible rfl)))
      | (refine GS.skip ?_ ?_ ?_; (· exact rfl); (· exact rfl))
      | fail
    refine Holds.cond rfl (fun h => ?_) (fun h => ?_)
    · repeat' first
        | refine Holds.seq ?_
        | refine Holds.skip ?_
        | refine Holds.exit ?_
        | refine Holds.ret ?_
        | refine thenA_normal ?_
        | refine thenA_exit ?_
        | refine thenA_ret ?_
        | refine inB_normal ?_
        | refine inB_ret ?_
        | refine inB_here ?_
        | (refine inB_past ?_ ?_; (· exact rfl))
        | refine Holds.reg ?_
        | refine Holds.block ?_
        | refine GS.nil ?_
        | (refine GS.step (s' := ?_) ?_ ?_ ?_; rotate_left; (· exact rfl); (· (simp [go_sem, List.take_of_length_le] <;> with_reducible rfl)))
        | (refine GS.skip ?_ ?_ ?_; (· exact rfl); (· exact rfl))
        | fail
      refine Out.mk (xs := ?_) ?_ ?_ (by first | exact .inr rfl | exact .inl rfl)
      rotate_left
      · simp [go_sem, List.take_of_length_le] <;> with_reducible rfl
      exact Fz.cl rfl
    · cases h
  have h : b = true := by simpa using h
  subst h
  have hok := goodG_ok hgg
  have c2 := isWord g.2.1 w (by have := hok.t0; omega) (by have := hok.t1; omega) hw
  generalize wordV g.2.1 w = b2 at c2
  repeat' first
    | refine Holds.seq ?_
    | refine Holds.skip ?_
    | refine Holds.exit ?_
    | refine Holds.ret ?_
    | refine thenA_normal ?_
    | refine thenA_exit ?_
    | refine thenA_ret ?_
    | refine inB_normal ?_
    | refine inB_ret ?_
    | refine inB_here ?_
    | (refine inB_past ?_ ?_; (· exact rfl))
    | refine Holds.reg ?_
    | refine Holds.block ?_
    | refine GS.nil ?_
    | (refine GS.step (s' := ?_) ?_ ?_ ?_; rotate_left; (· exact rfl); (· (simp [go_sem, List.take_of_length_le] <;> with_reducible rfl)))
    | (refine GS.skip ?_ ?_ ?_; (· exact rfl); (· exact rfl))
    | fail
  refine GS.cc (c2) rfl rfl rfl rfl (by simp [go_sem, List.take_of_length_le] <;> with_reducible rfl) rfl (by simp [go_sem, List.take_of_length_le]) ?_
  repeat' first
    | refine Holds.seq ?_
    | refine Holds.skip ?_
    | refine Holds.exit ?_
    | refine Holds.ret ?_
    | refine thenA_normal ?_
    | refine thenA_exit ?_
    | refine thenA_ret ?_
    | refine inB_normal ?_
    | refine inB_ret ?_
    | refine inB_here ?_
    | (refine inB_past ?_ ?_; (· exact rfl))
    | refine Holds.reg ?_
    | refine Holds.block ?_
    | refine GS.nil ?_
    | (refine GS.step (s' := ?_) ?_ ?_ ?_; rotate_left; (· exact rfl); (· (simp [go_sem, List.take_of_length_le] <;> with_reducible rfl)))
    | (refine GS.skip ?_ ?_ ?_; (· exact rfl); (· exact rfl))
    | fail
  refine GS.guard (t := 21) rfl (fun h => ?_) (fun h => ?_)
  · have h : b2 = false := by simpa using h
    subst h
    repeat' first
      | refine Holds.seq ?_
      | refine Holds.skip ?_
      | refine Holds.exit ?_
      | refine Holds.ret ?_
      | refine thenA_normal ?_
      | refine thenA_exit ?_
      | refine thenA_ret ?_
      | refine inB_normal ?_
      | refine inB_ret ?_
      | refine inB_here ?_
      | (refine inB_past ?_ ?_; (· exact rfl))
      | refine Holds.reg ?_
      | refine Holds.block ?_
      | refine GS.nil ?_
      | (refine GS.step (s' := ?_) ?_ ?_ ?_; rotate_left; (· exact rfl); (· (simp [go_sem, List.take_of_length_le] <;> with_reducible rfl)))
      | (refine GS.skip ?_ ?_ ?_; (· exact rfl); (· exact rfl))
      | fail
    refine Holds.cond rfl (fun h => ?_) (fun h => ?_)
    · repeat' first
        | refine Holds.seq ?_
        | refine Holds.skip ?_
        | refine Holds.exit ?_
        | refine Holds.ret ?_
        | refine thenA_normal ?_
        | refine thenA_exit ?_
        | refine thenA_ret ?_
        | refine inB_normal ?_
        | refine inB_ret ?_
        | refine inB_here ?_
        | (refine inB_past ?_ ?_; (· exact rfl))
        | refine Holds.reg ?_
        | refine Holds.block ?_
        | refine GS.nil ?_
        | (refine GS.step (s' := ?_) ?_ ?_ ?_; rotate_left; (· exact rfl); (· (simp [go_sem, List.take_of_length_le] <;> with_reducible rfl)))
        | (refine GS.skip ?_ ?_ ?_; (· exact rfl); (· exact rfl))
        | fail
      refine Out.mk (xs := ?_) ?_ ?_ (by first | exact .inr rfl | exact .inl rfl)
      rotate_left
      · simp [go_sem, List.take_of_length_le] <;> with_reducible rfl
      exact Fz.cl rfl
    · cases h
  have h : b2 = true := by simpa using h
  subst h
  repeat' first
    | refine Holds.seq ?_
    | refine Holds.skip ?_
    | refine Holds.exit ?_
    | refine Holds.ret ?_
    | refine thenA_normal ?_
    | refine thenA_exit ?_
    | refine thenA_ret ?_
    | refine inB_normal ?_
    | refine inB_ret ?_
    | refine inB_here ?_
    | (refine inB_past ?_ ?_; (· exact rfl))
    | refine Holds.reg ?_
    | refine Holds.block ?_
    | refine GS.nil ?_
    | (refine GS.step (s' := ?_) ?_ ?_ ?_; rotate_left; (· exact rfl); (· (simp [go_sem, List.take_of_length_le] <;> with_reducible rfl)))
    | (refine GS.skip ?_ ?_ ?_; (· exact rfl); (· exact rfl))
    | fail
  refine Holds.cond rfl (fun h => ?_) (fun h => ?_)
  · have h : ¬ tree.length ≤ 60 := by simp at h; omega
    rw [decide_eq_false h]
    repeat' first
      | refine Holds.seq ?_
      | refine Holds.skip ?_
      | refine Holds.exit ?_
      | refine Holds.ret ?_
      | refine thenA_normal ?_
      | refine thenA_exit ?_
      | refine thenA_ret ?_
      | refine inB_normal ?_
      | refine inB_ret ?_
      | refine inB_here ?_
      | (refine inB_past ?_ ?_; (· exact rfl))
      | refine Holds.reg ?_
      | refine Holds.block ?_
      | refine GS.nil ?_
      | (refine GS.step (s' := ?_) ?_ ?_ ?_; rotate_left; (· exact rfl); (· (simp [go_sem, List.take_of_length_le] <;> with_reducible rfl)))
      | (refine GS.skip ?_ ?_ ?_; (· exact rfl); (· exact rfl))
      | fail
    refine Out.mk (xs := ?_) ?_ ?_ (by first | exact .inr rfl | exact .inl rfl)
    rotate_left
    · simp [go_sem, List.take_of_length_le] <;> with_reducible rfl
    exact Fz.cl rfl
  have ht : tree.length ≤ 60 := by simp at h; omega
  rw [decide_eq_true ht]
  have he := end_read g tree 61 0 0 []
  have hpl := readF_props hok tree 61 0 0 []
  have hf := gTree g hok tree ht 0
  unfold isTreeV
  generalize readF g tree 61 0 0 [] = R at hf he hpl
  obtain ⟨q, y⟩ := R
  rw [he]
  cases q with
  | none =>
    simp only [ptr, Option.isSome_none] at hf ⊢
    rw [decide_eq_false (by omega)]
    repeat' first
      | refine Holds.seq ?_
      | refine Holds.skip ?_
      | refine Holds.exit ?_
      | refine Holds.ret ?_
      | refine thenA_normal ?_
      | refine thenA_exit ?_
      | refine thenA_ret ?_
      | refine inB_normal ?_
      | refine inB_ret ?_
      | refine inB_here ?_
      | (refine inB_past ?_ ?_; (· exact rfl))
      | refine Holds.reg ?_
      | refine Holds.block ?_
      | refine GS.nil ?_
      | (refine GS.step (s' := ?_) ?_ ?_ ?_; rotate_left; (· exact rfl); (· (simp [go_sem, List.take_of_length_le, grammarC] <;> with_reducible rfl)))
      | (refine GS.skip ?_ ?_ ?_; (· exact rfl); (· exact rfl))
      | fail
    refine GS.cc (hf) rfl rfl rfl rfl (by simp [go_sem, List.take_of_length_le, grammarC] <;> with_reducible rfl) rfl (by simp [go_sem, List.take_of_length_le, grammarC]) ?_
    repeat' first
      | refine Holds.seq ?_
      | refine Holds.skip ?_
      | refine Holds.exit ?_
      | refine Holds.ret ?_
      | refine thenA_normal ?_
      | refine thenA_exit ?_
      | refine thenA_ret ?_
      | refine inB_normal ?_
      | refine inB_ret ?_
      | refine inB_here ?_
      | (refine inB_past ?_ ?_; (· exact rfl))
      | refine Holds.reg ?_
      | refine Holds.block ?_
      | refine GS.nil ?_
      | (refine GS.step (s' := ?_) ?_ ?_ ?_; rotate_left; (· exact rfl); (· (simp [go_sem, List.take_of_length_le] <;> with_reducible rfl)))
      | (refine GS.skip ?_ ?_ ?_; (· exact rfl); (· exact rfl))
      | fail
    refine Out.mk (xs := ?_) ?_ ?_ (by first | exact .inr rfl | exact .inl rfl)
    rotate_left
    · simp [go_sem, List.take_of_length_le] <;> with_reducible rfl
    exact Fz.cl rfl
  | some p =>
    have hfin := partC_fin p
    have hpl := hpl p y rfl
    have c4 := equalInts y w (by simp only [List.length_nil] at hpl; omega)
    simp only [ptr, Option.isSome_some] at hf ⊢
    by_cases hfl : p.fin = tree.length
    · rw [hfl] at hfin
      rw [decide_eq_true (show (p.fin : Int) = (tree.length : Int) by omega)]
      repeat' first
        | refine Holds.seq ?_
        | refine Holds.skip ?_
        | refine Holds.exit ?_
        | refine Holds.ret ?_
        | refine thenA_normal ?_
        | refine thenA_exit ?_
        | refine thenA_ret ?_
        | refine inB_normal ?_
        | refine inB_ret ?_
        | refine inB_here ?_
        | (refine inB_past ?_ ?_; (· exact rfl))
        | refine Holds.reg ?_
        | refine Holds.block ?_
        | refine GS.nil ?_
        | (refine GS.step (s' := ?_) ?_ ?_ ?_; rotate_left; (· exact rfl); (· (simp [go_sem, List.take_of_length_le, grammarC] <;> with_reducible rfl)))
        | (refine GS.skip ?_ ?_ ?_; (· exact rfl); (· exact rfl))
        | fail
      refine GS.cc (hf) rfl rfl rfl rfl (by simp [go_sem, List.take_of_length_le, grammarC] <;> with_reducible rfl) rfl (by simp [go_sem, List.take_of_length_le, grammarC]) ?_
      repeat' first
        | refine Holds.seq ?_
        | refine Holds.skip ?_
        | refine Holds.exit ?_
        | refine Holds.ret ?_
        | refine thenA_normal ?_
        | refine thenA_exit ?_
        | refine thenA_ret ?_
        | refine inB_normal ?_
        | refine inB_ret ?_
        | refine inB_here ?_
        | (refine inB_past ?_ ?_; (· exact rfl))
        | refine Holds.reg ?_
        | refine Holds.block ?_
        | refine GS.nil ?_
        | (refine GS.step (s' := ?_) ?_ ?_ ?_; rotate_left; (· exact rfl); (· (simp [go_sem, List.take_of_length_le, hfin] <;> with_reducible rfl)))
        | (refine GS.skip ?_ ?_ ?_; (· exact rfl); (· exact rfl))
        | fail
      refine GS.cc (c4) rfl rfl rfl rfl (by simp [go_sem, List.take_of_length_le] <;> with_reducible rfl) rfl (by simp [go_sem, List.take_of_length_le]) ?_
      repeat' first
        | refine Holds.seq ?_
        | refine Holds.skip ?_
        | refine Holds.exit ?_
        | refine Holds.ret ?_
        | refine thenA_normal ?_
        | refine thenA_exit ?_
        | refine thenA_ret ?_
        | refine inB_normal ?_
        | refine inB_ret ?_
        | refine inB_here ?_
        | (refine inB_past ?_ ?_; (· exact rfl))
        | refine Holds.reg ?_
        | refine Holds.block ?_
        | refine GS.nil ?_
        | (refine GS.step (s' := ?_) ?_ ?_ ?_; rotate_left; (· exact rfl); (· (simp [go_sem, List.take_of_length_le] <;> with_reducible rfl)))
        | (refine GS.skip ?_ ?_ ?_; (· exact rfl); (· exact rfl))
        | fail
      refine Out.mk (xs := ?_) ?_ ?_ (by first | exact .inr rfl | exact .inl rfl)
      rotate_left
      · simp [go_sem, List.take_of_length_le] <;> with_reducible rfl
      exact Fz.cl rfl
    · rw [decide_eq_false (by omega)]
      have hb : ((p.fin : Int) == (tree.length : Int)) = false := by simp; omega
      repeat' first
        | refine Holds.seq ?_
        | refine Holds.skip ?_
        | refine Holds.exit ?_
        | refine Holds.ret ?_
        | refine thenA_normal ?_
        | refine thenA_exit ?_
        | refine thenA_ret ?_
        | refine inB_normal ?_
        | refine inB_ret ?_
        | refine inB_here ?_
        | (refine inB_past ?_ ?_; (· exact rfl))
        | refine Holds.reg ?_
        | refine Holds.block ?_
        | refine GS.nil ?_
        | (refine GS.step (s' := ?_) ?_ ?_ ?_; rotate_left; (· exact rfl); (· (simp [go_sem, List.take_of_length_le, grammarC] <;> with_reducible rfl)))
        | (refine GS.skip ?_ ?_ ?_; (· exact rfl); (· exact rfl))
        | fail
      refine GS.cc (hf) rfl rfl rfl rfl (by simp [go_sem, List.take_of_length_le, grammarC] <;> with_reducible rfl) rfl (by simp [go_sem, List.take_of_length_le, grammarC]) ?_
      repeat' first
        | refine Holds.seq ?_
        | refine Holds.skip ?_
        | refine Holds.exit ?_
        | refine Holds.ret ?_
        | refine thenA_normal ?_
        | refine thenA_exit ?_
        | refine thenA_ret ?_
        | refine inB_normal ?_
        | refine inB_ret ?_
        | refine inB_here ?_
        | (refine inB_past ?_ ?_; (· exact rfl))
        | refine Holds.reg ?_
        | refine Holds.block ?_
        | refine GS.nil ?_
        | (refine GS.step (s' := ?_) ?_ ?_ ?_; rotate_left; (· exact rfl); (· (simp [go_sem, List.take_of_length_le, hfin, hb] <;> with_reducible rfl)))
        | (refine GS.skip ?_ ?_ ?_; (· exact rfl); (· exact rfl))
        | fail
      refine Out.mk (xs := ?_) ?_ ?_ (by first | exact .inr rfl | exact .inl rfl)
      rotate_left
      · simp [go_sem, List.take_of_length_le] <;> with_reducible rfl
      exact Fz.cl rfl
end Go.Proofs.Ytaiefncpgkoniaa.En
