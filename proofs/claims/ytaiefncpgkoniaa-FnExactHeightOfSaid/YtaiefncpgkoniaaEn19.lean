/- Own words, 19: regions that draw their order, in which an operation writes. -/
import Derived.Test.YtaiefncpgkoniaaEn18
namespace Go.Proofs.Ytaiefncpgkoniaa.En
open Go.RowKit
set_option linter.unusedSimpArgs false
set_option linter.unusedVariables false
section
variable {P : Program} {nt : NT} {s s' : AS} {o : Oper}
/-! #### an operation looks at slots through its operands alone -/
def wtm (tm : List (Nat × AV)) (r : AV × AS) : AV × AS := (r.1, ⟨tm, r.2.bl, r.2.nx⟩)
variable {tm : List (Nat × AV)}
abbrev sw (tm : List (Nat × AV)) (s : AS) : AS := ⟨tm, s.bl, s.nx⟩
theorem ok1_sw {x : AV} : ok1 (sw tm s) x = ok1 s x := by cases x <;> rfl
theorem ok1_sw' : ok1 (sw tm s) = ok1 s := funext fun _ => ok1_sw
theorem aload_sw {t : TypeId} {x : Operand} (h : ev (sw tm s) x = ev s x) : aload P (sw tm s) t x = (aload P s t x).map (wtm tm) := by
  unfold aload loadOne
  rw [h]
  generalize ev s x = y
  generalize ti P t = k
  cases y with
  | none => rfl
  | some y =>
    cases k with
    | none => cases y <;> rfl
    | some k =>
      cases y with
      | pb n sz j i =>
        dsimp only [sw]
        generalize lb s.bl n = b
        cases b with
        | none => rfl
        | some b =>
          dsimp only
          by_cases hz : b.sz = sz
          · rw [if_pos hz, if_pos hz]
            generalize b.xs[j]? = row
            cases row with
            | none => rfl
            | some row =>
              dsimp only
              by_cases hk : k.agg = true
              · rw [if_pos hk, if_pos hk]
                by_cases hc : ((row.drop i).take k.sz).all flat = true ∧ i + k.sz ≤ sz
                · rw [if_pos hc, if_pos hc]; rfl
                · rw [if_neg hc, if_neg hc]; rfl
              · rw [if_neg hk, if_neg hk]
                generalize row[i]? = z
                cases z with
                | none => rfl
                | some z =>
                  cases z <;> first
                    | rfl
                    | (dsimp only; split <;> rfl)
          · rw [if_neg hz, if_neg hz]; rfl
      | pi xs =>
        dsimp only
        by_cases hk : k.agg = true
        · rw [if_pos hk, if_pos hk]
          by_cases hc : k.sz ≤ xs.length
          · rw [if_pos hc, if_pos hc]; rfl
          · rw [if_neg hc, if_neg hc]; rfl
        · rw [if_neg hk, if_neg hk]
          cases xs[0]? <;> rfl
      | _ => rfl
theorem astore_sw {t : TypeId} {p x : Operand} (h : ev (sw tm s) p = ev s p) (h' : ev (sw tm s) x = ev s x) : astore P (sw tm s) t p x = (astore P s t p x).map (fun s' => ⟨tm, s'.bl, s'.nx⟩) := by
  unfold astore
  rw [h, h', ok1_sw']
  generalize ev s p = y
  generalize ev s x = z
  generalize ti P t = k
  cases y with
  | none => rfl
  | some y =>
    cases z with
    | none => cases y <;> rfl
    | some z =>
      cases k with
      | none => cases y <;> rfl
      | some k =>
        cases y with
        | pb n sz j i =>
          dsimp only [sw]
          generalize lb s.bl n = b
          cases b with
          | none => rfl
          | some b =>
            dsimp only
            by_cases hc : b.sz = sz ∧ (cel z).length = k.sz ∧ (cel z).all (ok1 s) = true ∧ i + k.sz ≤ sz
            · rw [if_pos hc, if_pos hc]
              cases b.xs[j]? <;> rfl
            · rw [if_neg hc, if_neg hc]; rfl
        | _ => rfl
theorem aalloc_sw {t : TypeId} : aalloc P (sw tm s) t = (aalloc P s t).map (wtm tm) := by
  unfold aalloc
  repeat' split
  all_goals rfl
theorem abox_sw {t : TypeId} {x : Operand} (h : ev (sw tm s) x = ev s x) : abox (sw tm s) t x = (abox s t x).map (wtm tm) := by
  unfold abox
  rw [h, ok1_sw']
  repeat' split
  all_goals rfl
theorem fillA_sw (place : Nat → Option (Nat × Nat)) : ∀ (parts : List (Nat × Operand)) (zs : List AV), (∀ p ∈ parts, ev (sw tm s) p.2 = ev s p.2) → fillA place (sw tm s) zs parts = fillA place s zs parts
  | [], zs, _ => rfl
  | (i, x) :: r, zs, h => by
    unfold fillA
    have e : ∀ zs, fillA place (sw tm s) zs r = fillA place s zs r := fun zs => fillA_sw place r zs fun p hp => h p (.tail _ hp)
    rw [h (i, x) (.head _), ok1_sw']
    simp only [e]
theorem abuild_sw {t : TypeId} {parts : Array (Nat × Operand)} (h : ∀ p ∈ parts.toList, ev (sw tm s) p.2 = ev s p.2) : abuild P (sw tm s) t parts = (abuild P s t parts).map (wtm tm) := by
  unfold abuild
  repeat' split
  all_goals first
    | rfl
    | (rw [fillA_sw _ _ _ h]; simp only [Option.map_map]; rfl)
theorem abuildSlice_sw {t : TypeId} {n : Nat} {parts : Array (Nat × Operand)} (h : ∀ p ∈ parts.toList, ev (sw tm s) p.2 = ev s p.2) : abuildSlice P (sw tm s) t n parts = (abuildSlice P s t n parts).map (wtm tm) := by
  unfold abuildSlice
  repeat' split
  all_goals first
    | rfl
    | (rw [fillA_sw _ _ _ h]; simp only [Option.map_map]; rfl)
theorem amake_sw {t : TypeId} {l c : Operand} (h : ev (sw tm s) l = ev s l) (h' : ev (sw tm s) c = ev s c) : amake P (sw tm s) t l c = (amake P s t l c).map (wtm tm) := by
  unfold amake
  rw [h, h']
  repeat' split
  all_goals rfl
theorem bnd_sw {x : Option Operand} {d : Nat} (h : ∀ y, x = some y → ev (sw tm s) y = ev s y) : bnd (sw tm s) x d = bnd s x d := by
  unfold bnd
  cases x with
  | none => rfl
  | some y => simp only [h y rfl]
theorem aslice_sw {t : TypeId} {x : Operand} {lo hi : Option Operand} (h : ev (sw tm s) x = ev s x) (h1 : ∀ y, lo = some y → ev (sw tm s) y = ev s y) (h2 : ∀ y, hi = some y → ev (sw tm s) y = ev s y) : aslice P (sw tm s) t x lo hi = aslice P s t x lo hi := by
  unfold aslice
  rw [h]
  simp only [bnd_sw h1, bnd_sw h2]
theorem aappend_sw {x y : Operand} {t tx : TypeId} (h : ev (sw tm s) x = ev s x) (h' : ev (sw tm s) y = ev s y) : aappend P (sw tm s) x y t tx = (aappend P s x y t tx).map (wtm tm) := by
  have e1 : srcRows (sw tm s) y = srcRows s y := by unfold srcRows; rw [h']
  have e2 : ∀ n, srcSz (sw tm s) y n = srcSz s y n := fun n => by unfold srcSz; rw [h']
  unfold aappend
  rw [h, e1]
  simp only [e2]
  repeat' split
  all_goals rfl
theorem put_sw {s1 : AS} {d : Option Nat} {x : AV} : put (sw tm s1) d x = sw (put (sw tm s1) d x).tm s1 := by cases d <;> rfl
theorem put_parts {d : Option Nat} {x : AV} : (put s d x).bl = s.bl ∧ (put s d x).nx = s.nx := by cases d <;> exact ⟨rfl, rfl⟩
theorem some_map {α β : Type} {f : α → β} {x : Option α} {y : β} (h : x.map f = some y) : ∃ a, x = some a ∧ f a = y := by cases x <;> simp_all
theorem aload_tm {t : TypeId} {x : Operand} {v : AV} (h : aload P s t x = some (v, s')) : s'.tm = s.tm := by
  unfold aload loadOne at h
  repeat' split at h
  all_goals first
    | (cases h; done)
    | (simp only [Option.some.injEq, Prod.mk.injEq] at h; obtain ⟨_, rfl⟩ := h; rfl)
    | (simp only [Option.map_eq_some_iff, Prod.mk.injEq] at h; obtain ⟨_, _, _, rfl⟩ := h; rfl)
theorem astore_tm {t : TypeId} {p x : Operand} (h : astore P s t p x = some s') : s'.tm = s.tm := by
  unfold astore at h
  repeat' split at h
  all_goals first
    | (cases h; done)
    | (simp only [Option.map_eq_some_iff] at h; obtain ⟨_, _, rfl⟩ := h; rfl)
theorem pair_tm {f : Option (AV × AS)} {v : AV} (h : f = some (v, s')) (hf : f = f.map (wtm tm)) : s'.tm = tm := by
  rw [h] at hf
  simp only [Option.map_some, wtm, Option.some.injEq, Prod.mk.injEq, true_and] at hf
  rw [hf]
theorem astep_other (hd : okd nt.n o.dst = true) (h1 : ∀ t p, o.op = Op.load t p → False) (h2 : ∀ t p x, o.op = Op.store t p x → False) (h3 : ∀ t, o.op = Op.alloc t → False) (h4 : ∀ t x, o.op = Op.box t x → False) (h5 : ∀ t ps, o.op = Op.build t ps → False) (h6 : ∀ t n ps, o.op = Op.buildSlice t n ps → False)
    (h7 : ∀ t l c, o.op = Op.makeSlice t l c → False) (h8 : ∀ t x lo hi, o.op = Op.slice t x lo hi none → False) (h9 : ∀ as ts, o.op = Op.call ⟨.builtin .append, as, ts⟩ → False) : astep P nt s o = (aval P s o.op).map fun v => put s o.dst v := by
  unfold astep
  rw [if_pos hd]
  split
  · rename_i hop; exact (h1 _ _ hop).elim
  · rename_i hop; exact (h2 _ _ _ hop).elim
  · rename_i hop; exact (h3 _ hop).elim
  · rename_i hop; exact (h4 _ _ hop).elim
  · rename_i hop; exact (h5 _ _ hop).elim
  · rename_i hop; exact (h6 _ _ _ hop).elim
  · rename_i hop; exact (h7 _ _ _ hop).elim
  · rename_i hop; exact (h8 _ _ _ _ hop).elim
  · rename_i hop; exact (h9 _ _ hop).elim
  · rfl
theorem astep_sw (h : ∀ y ∈ o.op.operands, ev (sw tm s) y = ev s y) (ha : astep P nt s o = some s') : ∃ r, s' = put ⟨s.tm, s'.bl, s'.nx⟩ o.dst r ∧ astep P nt (sw tm s) o = some (put ⟨tm, s'.bl, s'.nx⟩ o.dst r) := by
  have self : sw s.tm s = s := rfl
  have pr : ∀ {f g : Option (AV × AS)}, f = f.map (wtm s.tm) → g = f.map (wtm tm) → f.map (fun r => put r.2 o.dst r.1) = some s' → ∃ r, s' = put ⟨s.tm, s'.bl, s'.nx⟩ o.dst r ∧ g.map (fun r => put r.2 o.dst r.1) = some (put ⟨tm, s'.bl, s'.nx⟩ o.dst r) := fun {f g} h1 h2 h3 => by
    obtain ⟨⟨v, s1⟩, hf, rfl⟩ := some_map h3
    have ht : s1.tm = s.tm := pair_tm hf h1
    obtain ⟨h4, h5⟩ := put_parts (s := s1) (d := o.dst) (x := v)
    refine ⟨v, ?_, ?_⟩
    · dsimp only at h4 h5 ⊢; rw [h4, h5, ← ht]
    · rw [h2, hf]
      simp only [Option.map_some, wtm, Option.some.injEq]
      rw [h4, h5]
  unfold astep at ha ⊢
  split at ha
  case isFalse => cases ha
  rename_i hd
  rw [if_pos hd]
  split at ha
  · rename_i t p hop
    simp only [hop] at h ⊢
    have e : ev (sw tm s) p = ev s p := h p (by simp [Op.operands])
    exact pr (aload_sw (s := s) (tm := s.tm) rfl) (aload_sw e) ha
  · rename_i t p x hop
    simp only [hop] at h ⊢
    have e : ev (sw tm s) p = ev s p := h p (by simp [Op.operands])
    have e' : ev (sw tm s) x = ev s x := h x (by simp [Op.operands])
    obtain ⟨s1, hs, rfl⟩ := some_map ha
    have ht := astore_tm hs
    obtain ⟨h4, h5⟩ := put_parts (s := s1) (d := o.dst) (x := .tu [])
    refine ⟨.tu [], by rw [h4, h5, ← ht], ?_⟩
    rw [astore_sw e e', hs, h4, h5]; rfl
  · rename_i t hop
    simp only [hop] at h ⊢
    exact pr (aalloc_sw (s := s) (tm := s.tm)) aalloc_sw ha
  · rename_i t x hop
    simp only [hop] at h ⊢
    exact pr (abox_sw (s := s) (tm := s.tm) rfl) (abox_sw (h x (by simp [Op.operands]))) ha
  · rename_i t ps hop
    simp only [hop] at h ⊢
    exact pr (abuild_sw (s := s) (tm := s.tm) fun _ _ => rfl) (abuild_sw fun p hp => h p.2 (by simp only [Op.operands]; simp only [List.mem_toArray, List.mem_map]; exact ⟨p, hp, rfl⟩)) ha
  · rename_i t n ps hop
    simp only [hop] at h ⊢
    exact pr (abuildSlice_sw (s := s) (tm := s.tm) fun _ _ => rfl) (abuildSlice_sw fun p hp => h p.2 (by simp only [Op.operands]; simp only [List.mem_toArray, List.mem_map]; exact ⟨p, hp, rfl⟩)) ha
  · rename_i t l c hop
    simp only [hop] at h ⊢
    exact pr (amake_sw (s := s) (tm := s.tm) rfl rfl) (amake_sw (h l (by simp [Op.operands])) (h c (by simp [Op.operands]))) ha
  · rename_i t x lo hi hop
    simp only [hop] at h ⊢
    obtain ⟨v, hv, rfl⟩ := some_map ha
    obtain ⟨h4, h5⟩ := put_parts (s := s) (d := o.dst) (x := v)
    refine ⟨v, by rw [h4, h5], ?_⟩
    rw [aslice_sw (h x (by simp [Op.operands])) (fun y hy => h y (by simp [Op.operands, hy])) (fun y hy => h y (by simp [Op.operands, hy])), hv, h4, h5]; rfl
  · rename_i as ts hop
    simp only [hop] at h ⊢
    split at ha
    · rename_i x y t tx has hts
      have ea : as = #[x, y] := by rw [← Array.toArray_toList (xs := as), has]
      have et : ts = #[t, tx] := by rw [← Array.toArray_toList (xs := ts), hts]
      subst ea et
      exact pr (aappend_sw (s := s) (tm := s.tm) rfl rfl) (aappend_sw (h x (by simp [Op.operands, Call.operands])) (h y (by simp [Op.operands, Call.operands]))) ha
    · cases ha
  · rename_i hne1 hne2 hne3 hne4 hne5 hne6 hne7 hne8 hne9
    obtain ⟨v, hv, rfl⟩ := some_map ha
    obtain ⟨h4, h5⟩ := put_parts (s := s) (d := o.dst) (x := v)
    refine ⟨v, by rw [h4, h5], ?_⟩
    have e := aval_congr (P := P) (s := s) (s' := sw tm s) h rfl
    rw [hv] at e
    rw [e, h4, h5]; rfl
end
end Go.Proofs.Ytaiefncpgkoniaa.En
