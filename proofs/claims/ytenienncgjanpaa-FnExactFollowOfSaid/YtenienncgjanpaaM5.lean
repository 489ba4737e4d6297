/- Own words and walks of this claim, part 5: what the program's functions compute, for all the arguments that are named; no further conditions. -/
import Derived.Test.YtenienncgjanpaaM2
import Derived.Test.YtenienncgjanpaaM4
section
namespace Go.Proofs.Ytenienncgjanpaa.En
open Go.RowKit
set_option linter.unusedSimpArgs false
set_option linter.unusedVariables false
set_option maxHeartbeats 8000000
theorem lawFollow (g : GrammarT) (non : Int) (hxg : g.2.2.length < 8796093022208) (hsg : ∀ e ∈ g.2.2, e.2.length < 35184372088832) : Pure Try.prog 4 [.ag (grammarC g), .v (.int .i64 non)] (.v (.bool true)) := by
  refine Pure.mk (rs := [.tmp 4]) (nt := 122) Try.func4 (by kernel_rfl) rfl rfl rfl (by simp) ?_
  simp only [sl, grammarC]
  have hsg' : ∀ e ∈ g.2.2, e.2.length < 4611686018427387904 := fun e he => by have := hsg e he; omega
  have ctg := toGrammar g hxg hsg
  have ceg := eqGrammar g g hxg hsg
  have cog := toGrammarO g hxg hsg
  have hig := szGrammarF_in (n := 1048576) (x := g) (by omega)
  have czg := szGrammar g 1048576 (by omega) (by omega) hxg hsg
  have p1 := specFollow g non (by omega) hsg'
  have p2 := implFollow g non (by omega) hsg'
  try simp only [decide_true] at ceg
  have hv := followV_len g non
  generalize followV g non = v at p1 p2 hv
  have p3 := p2.pure (r' := .tu [.im 1 (ints v.1), .v (.bool v.2.1), .v (.bool v.2.2)]) (Fz.tuL (.cons (Fz.all rfl rfl (by simp) rfl (ints_cl _)) (.cons (.v _) (.cons (.v _) .nil))))
  refine wkd0 _ ?_
  first | refine GS.cc (czg) rfl rfl rfl rfl (by simp [go_sem, List.take_of_length_le, grammarC] <;> with_reducible rfl) rfl (by simp [go_sem, List.take_of_length_le, grammarC]) ?_ | refine Gd.cc (czg) rfl rfl rfl rfl (by simp [go_sem, List.take_of_length_le, grammarC] <;> with_reducible rfl) rfl (by simp [go_sem, List.take_of_length_le, grammarC]) ?_
  refine wkd0 _ ?_
  refine Holds.cond rfl (fun h => ?_) (fun h => ?_)
  · refine wkd0 _ ?_
    refine Out.mk (xs := ?_) ?_ ?_ (by first | exact .inr rfl | exact .inl rfl)
    rotate_left
    · simp [go_sem, List.take_of_length_le] <;> with_reducible rfl
    exact .v _
  have hqg := szGrammar_wt (show 0 ≤ szGrammarF (1048576) g by simp at h; omega)
  refine wkd (@grammarC.eq_1) _ ?_
  first | refine GS.cc (ctg) rfl rfl rfl rfl (by simp [go_sem, List.take_of_length_le, grammarC] <;> with_reducible rfl) rfl (by simp [go_sem, List.take_of_length_le, grammarC]) ?_ | refine Gd.cc (ctg) rfl rfl rfl rfl (by simp [go_sem, List.take_of_length_le, grammarC] <;> with_reducible rfl) rfl (by simp [go_sem, List.take_of_length_le, grammarC]) ?_
  refine wkd (@grammarC.eq_1) _ ?_
  first | refine GS.cc (p1) rfl rfl rfl rfl (by simp [go_sem, List.take_of_length_le, grammarC] <;> with_reducible rfl) rfl (by simp [go_sem, List.take_of_length_le, grammarC]) ?_ | refine Gd.cc (p1) rfl rfl rfl rfl (by simp [go_sem, List.take_of_length_le, grammarC] <;> with_reducible rfl) rfl (by simp [go_sem, List.take_of_length_le, grammarC]) ?_
  refine wkd (@grammarC.eq_1) _ ?_
  refine GS.fnn [] (cog) rfl rfl rfl rfl (by simp [go_sem, List.take_of_length_le, ren, ren1, ren2, okr, okr1, okr2, ChkN, BlkN, List.range_succ, nf, grammarC] <;> with_reducible rfl) (by simp [go_sem, List.take_of_length_le, ren, ren1, ren2, okr, okr1, okr2, ChkN, BlkN, List.range_succ, nf, grammarC]) (by simp [go_sem, List.take_of_length_le, ren, ren1, ren2, okr, okr1, okr2, ChkN, BlkN, List.range_succ, nf, grammarC]) (by simp [List.range_succ, lb]) (ChkN.toB (by simp [go_sem, List.take_of_length_le, ren, ren1, ren2, okr, okr1, okr2, ChkN, BlkN, List.range_succ, nf, grammarC])) (by decide) (by simp) rfl (.nfr (by simp) .nil) (by simp [go_sem, List.take_of_length_le, ren, ren1, ren2, okr, okr1, okr2, ChkN, BlkN, List.range_succ, nf, grammarC] <;> with_reducible rfl) ?_
  refine wkd (@grammarC.eq_1) _ ?_
  refine GS.fnnd (p2) rfl rfl rfl rfl (by simp [go_sem, List.take_of_length_le, ren, ren1, ren2, okr, okr1, okr2, List.range_succ, nf, grammarC] <;> with_reducible rfl) (by exact (.cons (Fz.agL (.cons (.v _) (.cons (.v _) (.cons (fz_rulesO _ rfl rfl) .nil)))) (.cons (.v _) .nil))) (by simp) (by simp [go_sem, List.take_of_length_le, ren, ren1, ren2, okr, okr1, okr2, List.range_succ, nf, grammarC]) (by simp [go_sem, List.take_of_length_le, ren, ren1, ren2, okr, okr1, okr2, List.range_succ, nf, grammarC]) rfl (.nfr (by simp) (.nil)) (by simp [go_sem, List.take_of_length_le, ren, ren1, ren2, okr, okr1, okr2, List.range_succ, nf, grammarC] <;> with_reducible rfl) ?_
  have ceq := eqIntS v.1 v.1 (by omega)
  try simp only [decide_true] at ceq
  refine wkd0 _ ?_
  first | refine GS.cd (ceq) rfl rfl rfl rfl (by simp [go_sem, List.take_of_length_le] <;> with_reducible rfl) rfl (by exact (.cons (Fz.all rfl rfl (by simp) rfl (ints_cl _)) (.cons (.im _ _) .nil))) rfl ?_ | refine Gd.cd (ceq) rfl rfl rfl rfl (by simp [go_sem, List.take_of_length_le] <;> with_reducible rfl) rfl (by exact (.cons (Fz.all rfl rfl (by simp) rfl (ints_cl _)) (.cons (.im _ _) .nil))) rfl ?_
  clear ceq
  refine wkd0 _ ?_
  refine Holds.cond rfl (fun h => ?_) (fun h => ?_)
  · cases h
  refine wkd0 _ ?_
  first | refine GS.cc (ctg) rfl rfl rfl rfl (by simp [go_sem, List.take_of_length_le, grammarC] <;> with_reducible rfl) rfl (by simp [go_sem, List.take_of_length_le, grammarC]) ?_ | refine Gd.cc (ctg) rfl rfl rfl rfl (by simp [go_sem, List.take_of_length_le, grammarC] <;> with_reducible rfl) rfl (by simp [go_sem, List.take_of_length_le, grammarC]) ?_
  refine wkd (@grammarC.eq_1) _ ?_
  first | refine GS.cd (ceg) rfl rfl rfl rfl (by simp [go_sem, List.take_of_length_le, grammarC] <;> with_reducible rfl) rfl (by exact (.cons (Fz.agL (.cons (.v _) (.cons (.v _) (.cons (fz_rulesO _ rfl rfl) .nil)))) (.cons (Fz.cl rfl) .nil))) rfl ?_ | refine Gd.cd (ceg) rfl rfl rfl rfl (by simp [go_sem, List.take_of_length_le, grammarC] <;> with_reducible rfl) rfl (by exact (.cons (Fz.agL (.cons (.v _) (.cons (.v _) (.cons (fz_rulesO _ rfl rfl) .nil)))) (.cons (Fz.cl rfl) .nil))) rfl ?_
  refine wkd0 _ ?_
  refine Holds.cond rfl (fun h => ?_) (fun h => ?_)
  · cases h
  have cmg := markGrammar g ((1 : Int)) (by omega) (by omega) (by omega)
  refine wkd0 _ ?_
  refine GS.fnn [1] (cmg) rfl rfl rfl rfl (by simp [go_sem, List.take_of_length_le, ren, ren1, ren2, okr, okr1, okr2, ChkN, BlkN, List.range_succ, nf] <;> with_reducible rfl) (by simp [go_sem, List.take_of_length_le, ren, ren1, ren2, okr, okr1, okr2, ChkN, BlkN, List.range_succ, nf]) (by simp [go_sem, List.take_of_length_le, ren, ren1, ren2, okr, okr1, okr2, ChkN, BlkN, List.range_succ, nf]) (by simp [List.range_succ, lb]) (ChkN.toB (by simp [go_sem, List.take_of_length_le, ren, ren1, ren2, okr, okr1, okr2, ChkN, BlkN, List.range_succ, nf])) (by decide) (by simp) rfl (.nfr (by simp) (.nil)) (by simp [go_sem, List.take_of_length_le, ren, ren1, ren2, okr, okr1, okr2, ChkN, BlkN, List.range_succ, nf] <;> with_reducible rfl) ?_
  have hk0 : ¬ ((1 : Int) + (wGrammar g : Nat) < 0) := by omega
  have ceq := eqIntS v.1 v.1 (by omega)
  try simp only [decide_true] at ceq
  refine wkd (@hk0) _ ?_
  first | refine GS.cd (ceq) rfl rfl rfl rfl (by simp [go_sem, List.take_of_length_le, hk0] <;> with_reducible rfl) rfl (by exact (.cons (Fz.all rfl rfl (by simp) rfl (ints_cl _)) (.cons (.im _ _) .nil))) rfl ?_ | refine Gd.cd (ceq) rfl rfl rfl rfl (by simp [go_sem, List.take_of_length_le, hk0] <;> with_reducible rfl) rfl (by exact (.cons (Fz.all rfl rfl (by simp) rfl (ints_cl _)) (.cons (.im _ _) .nil))) rfl ?_
  clear ceq
  refine wkd (@hk0) _ ?_
  refine Holds.cond rfl (fun h => ?_) (fun h => ?_)
  · cases h
  have cm := markIntS v.1 ((1 : Int)) (by omega) (by simp; omega)
  have ch3 := heldIntS v.1 ((1 : Int)) (by omega) (by simp; omega)
  try simp only [wtL_w1] at cm ch3
  refine wkd0 _ ?_
  refine GS.fnn [3] (cm) rfl rfl rfl rfl (by simp [go_sem, List.take_of_length_le, ren, ren1, ren2, okr, okr1, okr2, ChkN, BlkN, List.range_succ, nf] <;> with_reducible rfl) (by simp [go_sem, List.take_of_length_le, ren, ren1, ren2, okr, okr1, okr2, ChkN, BlkN, List.range_succ, nf]) (by simp [go_sem, List.take_of_length_le, ren, ren1, ren2, okr, okr1, okr2, ChkN, BlkN, List.range_succ, nf]) (by simp [List.range_succ, lb]) (ChkN.toB (by simp [go_sem, List.take_of_length_le, ren, ren1, ren2, okr, okr1, okr2, ChkN, BlkN, List.range_succ, nf])) (by decide) (by simp) rfl (.nfr (by simp) .nil) (by simp [go_sem, List.take_of_length_le, ren, ren1, ren2, okr, okr1, okr2, ChkN, BlkN, List.range_succ, nf] <;> with_reducible rfl) ?_
  clear cm
  refine wkd0 _ ?_
  first | refine GS.cd (ch3) rfl rfl rfl rfl (by simp [go_sem, List.take_of_length_le] <;> with_reducible rfl) rfl (by exact (.cons (Fz.all rfl rfl (by simp) rfl (ints_cl _)) (.cons (.v _) .nil))) rfl ?_ | refine Gd.cd (ch3) rfl rfl rfl rfl (by simp [go_sem, List.take_of_length_le] <;> with_reducible rfl) rfl (by exact (.cons (Fz.all rfl rfl (by simp) rfl (ints_cl _)) (.cons (.v _) .nil))) rfl ?_
  have hk3 : ¬ ((1 : Int) + (v.1.length : Nat) < 0) := by omega
  refine wkd (@hk3) _ ?_
  refine Holds.cond rfl (fun h => ?_) (fun h => ?_)
  · cases h
  refine wkd0 _ ?_
  refine Holds.cond rfl (fun h => ?_) (fun h => ?_)
  · cases h
  refine wkd (@grammarC.eq_1) _ ?_
  first | refine GS.cc (ctg) rfl rfl rfl rfl (by simp [go_sem, List.take_of_length_le, grammarC] <;> with_reducible rfl) rfl (by simp [go_sem, List.take_of_length_le, grammarC]) ?_ | refine Gd.cc (ctg) rfl rfl rfl rfl (by simp [go_sem, List.take_of_length_le, grammarC] <;> with_reducible rfl) rfl (by simp [go_sem, List.take_of_length_le, grammarC]) ?_
  refine wkd (@grammarC.eq_1) _ ?_
  first | refine GS.cc (p3) rfl rfl rfl rfl (by simp [go_sem, List.take_of_length_le, grammarC] <;> with_reducible rfl) rfl (by simp [go_sem, List.take_of_length_le, grammarC]) ?_ | refine Gd.cc (p3) rfl rfl rfl rfl (by simp [go_sem, List.take_of_length_le, grammarC] <;> with_reducible rfl) rfl (by simp [go_sem, List.take_of_length_le, grammarC]) ?_
  have ceq := eqIntS v.1 v.1 (by omega)
  try simp only [decide_true] at ceq
  refine wkd0 _ ?_
  first | refine GS.cc (ceq) rfl rfl rfl rfl (by simp [go_sem, List.take_of_length_le] <;> with_reducible rfl) rfl (by simp [go_sem, List.take_of_length_le]) ?_ | refine Gd.cc (ceq) rfl rfl rfl rfl (by simp [go_sem, List.take_of_length_le] <;> with_reducible rfl) rfl (by simp [go_sem, List.take_of_length_le]) ?_
  clear ceq
  refine wkd0 _ ?_
  refine Holds.cond rfl (fun h => ?_) (fun h => ?_)
  · cases h
  refine wkd0 _ ?_
  first | refine GS.cd (ch3) rfl rfl rfl rfl (by simp [go_sem, List.take_of_length_le] <;> with_reducible rfl) rfl (by exact (.cons (Fz.all rfl rfl (by simp) rfl (ints_cl _)) (.cons (.v _) .nil))) rfl ?_ | refine Gd.cd (ch3) rfl rfl rfl rfl (by simp [go_sem, List.take_of_length_le] <;> with_reducible rfl) rfl (by exact (.cons (Fz.all rfl rfl (by simp) rfl (ints_cl _)) (.cons (.v _) .nil))) rfl ?_
  have hk3 : ¬ ((1 : Int) + (v.1.length : Nat) < 0) := by omega
  refine wkd (@hk3) _ ?_
  refine Holds.cond rfl (fun h => ?_) (fun h => ?_)
  · cases h
  refine wkd0 _ ?_
  refine Holds.cond rfl (fun h => ?_) (fun h => ?_)
  · cases h
  refine wkd0 _ ?_
  refine Out.mk (xs := ?_) ?_ ?_ (by first | exact .inr rfl | exact .inl rfl)
  rotate_left
  · simp [go_sem, List.take_of_length_le] <;> with_reducible rfl
  exact .v _
end Go.Proofs.Ytenienncgjanpaa.En
end
