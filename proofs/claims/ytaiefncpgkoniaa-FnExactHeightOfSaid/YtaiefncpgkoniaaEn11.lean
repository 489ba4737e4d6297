/- Own words, 11: a state that says less: slots forgotten, names renamed. -/
import Derived.Test.YtaiefncpgkoniaaEn10
namespace Go.Proofs.Ytaiefncpgkoniaa.En
open Go.RowKit
set_option linter.unusedSimpArgs false
set_option linter.unusedVariables false

def ren1 (ρ : Nat → Nat) : AV → AV
  | .own n sz off len => .own (ρ n) sz off len
  | .pb n sz j i => .pb (ρ n) sz j i
  | x => x
def ren (ρ : Nat → Nat) : AV → AV
  | .ag xs => .ag (xs.map (ren1 ρ))
  | .tu xs => .tu (xs.map (ren1 ρ))
  | .fn g xs => .fn g (xs.map (ren1 ρ))
  | x => ren1 ρ x
def okr1 (nx : Nat) : AV → Bool
  | .own n _ _ _ | .pb n _ _ _ => decide (n < nx)
  | .ag _ | .tu _ | .fn _ _ => false
  | _ => true
def okr (nx : Nat) : AV → Bool
  | .ag xs | .tu xs | .fn _ xs => xs.all (okr1 nx)
  | x => okr1 nx x
/-- A value without names. -/
def nf : AV → Bool
  | .v _ | .im _ _ | .pi _ | .ow _ _ _ => true
  | _ => false

section
variable {C : Ctx} {s s0 : AS} {a : Act} {w : World} {S : Nat → Prop} {Ow Ow' : Owners} {L L' : Names} {P : Program} {ρ : Nat → Nat} {nx : Nat}

theorem Rep.ren1 (hL : ∀ n, n < nx → L' n = L (ρ n) ∨ L' n = .gone) {x : AV} {p p' : Path} {u : Value} (hO : ∀ k q, Ow k = some (p ++ q) → Ow' k = some (p' ++ q)) (hx : okr1 nx x = true) (h : Rep w S Ow L p (En.ren1 ρ x) u) : Rep w S Ow' L' p' x u := by
  cases x with
  | v x => obtain ⟨rfl, h1⟩ := Rep.v_inv h; exact .v _ h1
  | ag xs => simp [okr1] at hx
  | tu xs => simp [okr1] at hx
  | fn g xs => simp [okr1] at hx
  | im sz xs =>
    simp only [En.ren1] at h
    cases h with
    | im _ _ A c ad us hc ha hS hz hcell hr => exact .im sz xs A c ad us hc ha hS hz hcell hr
  | pi xs =>
    simp only [En.ren1] at h
    cases h with
    | pi _ ad us hS hcell hr => exact .pi xs ad us hS hcell hr
  | ow e sz xs =>
    simp only [En.ren1] at h
    cases h with
    | ow _ _ _ b o cap cs us ho hh hs hc hz hcell hr =>
      refine .ow e sz xs b o cap cs us (by have := hO b [] (by simpa using ho); simpa using this) hh hs hc hz hcell fun j row i x hj hi => (hr j row i x hj hi).names (fun _ => .inr (.inl rfl)) fun k q hk => ?_
      have := hO k ([j, i] ++ q) (by rw [← List.append_assoc]; exact hk)
      rw [List.append_assoc]; exact this
    | ow_nil => exact .ow_nil e sz
  | own n sz off len =>
    simp only [En.ren1] at h
    simp only [okr1, decide_eq_true_eq] at hx
    rcases hL n hx with e | e
    · cases h with
      | own _ _ _ _ b o cap h hl => exact .own n sz off len b o cap (e.trans h) hl
      | own_end _ _ _ b o cap a h hl => exact .own_end n sz off b o cap a (e.trans h) hl
      | own_nil _ _ h => exact .own_nil n sz (e.trans h)
      | own_gone _ _ _ _ u h h1 => exact .own_gone n sz off len u (e.trans h) h1
    · exact .own_gone n sz off len u e (h.one rfl)
  | pb n sz j i =>
    simp only [En.ren1] at h
    simp only [okr1, decide_eq_true_eq] at hx
    rcases hL n hx with e | e
    · cases h with
      | pb _ _ _ _ b o cap h => exact .pb n sz j i b o cap (e.trans h)
      | pb_gone _ _ _ _ u h h1 => exact .pb_gone n sz j i u (e.trans h) h1
    · exact .pb_gone n sz j i u e (h.one rfl)

theorem Rep.ren (hL : ∀ n, n < nx → L' n = L (ρ n) ∨ L' n = .gone) {x : AV} {p p' : Path} {u : Value} (hO : ∀ k q, Ow k = some (p ++ q) → Ow' k = some (p' ++ q)) (hx : okr nx x = true) (h : Rep w S Ow L p (En.ren ρ x) u) : Rep w S Ow' L' p' x u := by
  have ext : ∀ (m : Nat) (i : Nat) k q, Ow k = some (p ++ [m, i] ++ q) → Ow' k = some (p' ++ [m, i] ++ q) := fun m i k q hk => by
    rw [List.append_assoc] at hk ⊢; exact hO k _ hk
  have at' : ∀ (xs : List AV) (i : Nat) (x : AV), xs.all (okr1 nx) = true → xs[i]? = some x → okr1 nx x = true ∧ (xs.map (En.ren1 ρ))[i]? = some (En.ren1 ρ x) := fun xs i x ha hi => by
    rw [List.all_eq_true] at ha
    exact ⟨ha x (List.mem_of_getElem? hi), by simp [hi]⟩
  cases x with
  | ag xs =>
    simp only [En.ren] at h
    simp only [okr] at hx
    obtain ⟨us, rfl, hl, hr⟩ := h.ag_inv
    refine .ag xs us (by simpa using hl) fun i x u hi hu => ?_
    obtain ⟨h1, h2⟩ := at' xs i x hx hi
    exact (hr i _ u h2 hu).ren1 hL (ext 0 i) h1
  | tu xs =>
    simp only [En.ren] at h
    simp only [okr] at hx
    obtain ⟨us, rfl, hl, hr⟩ := h.tu_inv
    refine .tu xs us (by simpa using hl) fun i x u hi hu => ?_
    obtain ⟨h1, h2⟩ := at' xs i x hx hi
    exact (hr i _ u h2 hu).ren1 hL (ext 1 i) h1
  | fn g xs =>
    simp only [En.ren] at h
    simp only [okr] at hx
    obtain ⟨us, rfl, hl, hr⟩ := h.fn_inv
    refine .fn g xs us (by simpa using hl) fun i x u hi hu => ?_
    obtain ⟨h1, h2⟩ := at' xs i x hx hi
    exact (hr i _ u h2 hu).ren1 hL (ext 2 i) h1
  | _ => exact Rep.ren1 hL hO hx h

theorem ren_nf {x : AV} (h : nf x = true) : ren ρ x = x := by cases x <;> simp_all [nf, ren, ren1]
theorem okr_nf {x : AV} (h : nf x = true) : okr nx x = true := by cases x <;> simp_all [nf, okr, okr1]
theorem rows_nf {xs : List (List AV)} (h : ∀ row ∈ xs, ∀ x ∈ row, nf x = true) : xs.map (List.map (ren ρ)) = xs := by
  have : ∀ row ∈ xs, row.map (ren ρ) = id row := fun row hr => by
    have : ∀ x ∈ row, ren ρ x = id x := fun x hx => ren_nf (h row hr x hx)
    rw [List.map_congr_left this]; simp
  rw [List.map_congr_left this]; simp

/-- A row under its new name. -/
def BlkC (ρ : Nat → Nat) (nx : Nat) (k k' : Blk) : Prop := k'.e = k.e ∧ k'.sz = k.sz ∧ ((k'.xs = k.xs ∧ ∀ row ∈ k.xs, ∀ x ∈ row, nf x = true) ∨ (k'.xs = k.xs.map (List.map (ren ρ)) ∧ ∀ row ∈ k.xs, ∀ x ∈ row, okr nx x = true))
theorem BlkC.all {k k' : Blk} (h : BlkC ρ nx k k') : k'.xs = k.xs.map (List.map (ren ρ)) ∧ ∀ row ∈ k.xs, ∀ x ∈ row, okr nx x = true := by
  rcases h.2.2 with ⟨e, hn⟩ | h
  · exact ⟨by rw [rows_nf hn, e], fun row hr x hx => okr_nf (hn row hr x hx)⟩
  · exact h
def ChkT (ρ : Nat → Nat) (nx : Nat) (tm : List (Nat × AV)) : List (Nat × AV) → Prop
  | [] => True
  | (t, x) :: r => (okr nx x = true ∧ lk tm t = some (ren ρ x)) ∧ ChkT ρ nx tm r
theorem ChkT.get {tm : List (Nat × AV)} {l : List (Nat × AV)} (h : ChkT ρ nx tm l) {t : Nat} {x : AV} (hx : lk l t = some x) : okr nx x = true ∧ lk tm t = some (En.ren ρ x) := by
  induction l with
  | nil => simp [lk] at hx
  | cons p r ih =>
    obtain ⟨k, y⟩ := p
    simp only [lk] at hx
    split at hx
    · rename_i e; cases hx; subst e; exact h.1
    · exact ih h.2 hx
def ChkB (ρ : Nat → Nat) (nx : Nat) (bl : List (Nat × Blk)) : List (Nat × Blk) → Prop
  | [] => True
  | (n, k) :: r => (n < nx ∧ (∃ k', lb bl (ρ n) = some k' ∧ BlkC ρ nx k k') ∧ ∀ p ∈ r, p.1 = n ∨ ρ p.1 ≠ ρ n) ∧ ChkB ρ nx bl r
theorem lb_mem {l : List (Nat × Blk)} {n : Nat} {k : Blk} (h : lb l n = some k) : (n, k) ∈ l := by
  induction l with
  | nil => simp [lb] at h
  | cons p r ih =>
    obtain ⟨m, y⟩ := p
    simp only [lb] at h
    split at h
    · rename_i e; cases h; subst e; exact .head _
    · exact .tail _ (ih h)
theorem ChkB.get {bl l : List (Nat × Blk)} (h : ChkB ρ nx bl l) : ∀ p ∈ l, p.1 < nx ∧ ∃ k', lb bl (ρ p.1) = some k' ∧ BlkC ρ nx p.2 k' := by
  induction l with
  | nil => intro p hp; cases hp
  | cons q r ih =>
    obtain ⟨m, y⟩ := q
    intro p hp
    cases hp with
    | head => exact ⟨h.1.1, h.1.2.1⟩
    | tail _ hp => exact ih h.2 p hp
theorem ChkB.inj {bl l : List (Nat × Blk)} (h : ChkB ρ nx bl l) : ∀ p ∈ l, ∀ q ∈ l, ρ p.1 = ρ q.1 → p.1 = q.1 := by
  induction l with
  | nil => intro p hp; cases hp
  | cons r0 r ih =>
    obtain ⟨m, y⟩ := r0
    intro p hp q hq e
    cases hp with
    | head =>
      cases hq with
      | head => rfl
      | tail _ hq =>
        rcases h.1.2.2 q hq with g | g
        · exact g.symm
        · exact absurd e.symm g
    | tail _ hp =>
      cases hq with
      | head =>
        rcases h.1.2.2 p hp with g | g
        · exact g
        · exact absurd e g
      | tail _ hq => exact ih h.2 p hp q hq e

theorem covk {k : Nat} (ρ : Nat → Nat) (hk : ∀ n, n < k → n < s0.nx ∧ (lb s0.bl n ≠ none → ρ n = n)) (ht : ChkT ρ s0.nx s.tm s0.tm) (hb : ChkB ρ s0.nx s.bl s0.bl) {C : Ctx} {a : Act} {w : World} {S : Nat → Prop} {Ow : Owners} {L : Names} (hCk : C.nt.k = k) (h : RelX C s a w S Ow L) :
    ∃ S' Ow' L', RelX C s0 a w S' Ow' L' ∧ (∀ x u, okr s0.nx x = true → Rep w S Ow L [0] (En.ren ρ x) u → Rep w S' Ow' L' [0] x u) ∧ S' = S := by
  classical
  let inv : Nat → Option Nat := fun m => if h : ∃ n k, lb s0.bl n = some k ∧ ρ n = m then some (Classical.choose h) else none
  have hinv : ∀ n k, lb s0.bl n = some k → inv (ρ n) = some n := fun n k hn => by
    have g : ∃ n' k, lb s0.bl n' = some k ∧ ρ n' = ρ n := ⟨n, k, hn, rfl⟩
    simp only [inv, dif_pos g]
    obtain ⟨k2, h1, h2⟩ := Classical.choose_spec g
    exact congrArg some (hb.inj _ (lb_mem h1) _ (lb_mem hn) h2)
  have hinv2 : ∀ m n, inv m = some n → ∃ k, lb s0.bl n = some k ∧ ρ n = m := fun m n hm => by
    simp only [inv] at hm
    split at hm
    · rename_i g
      cases hm
      exact Classical.choose_spec g
    · cases hm
  let tr : Path → Option Path := fun p => match p with
    | (m + 1) :: q => (inv m).map fun n => (n + 1) :: q
    | _ => none
  let Ow' : Owners := fun k => (Ow k).bind tr
  let L' : Names := fun n => match lb s0.bl n with
    | some _ => L (ρ n)
    | none => if n < s0.nx then .gone else .free
  have hL : ∀ n, n < s0.nx → L' n = L (ρ n) ∨ L' n = .gone := fun n hn => by
    simp only [L']
    cases lb s0.bl n with
    | some _ => exact .inl rfl
    | none => exact .inr (by simp [hn])
  have hOt : ∀ k p, Ow' k = some p → ∃ n q kk, p = (n + 1) :: q ∧ lb s0.bl n = some kk ∧ Ow k = some ((ρ n + 1) :: q) := fun k p hk => by
    simp only [Ow', Option.bind_eq_some_iff] at hk
    obtain ⟨p0, h0, h1⟩ := hk
    match p0, h1 with
    | (m + 1) :: q, h1 =>
      simp only [tr, Option.map_eq_some_iff] at h1
      obtain ⟨n, hn, rfl⟩ := h1
      obtain ⟨kk, h2, h3⟩ := hinv2 m n hn
      exact ⟨n, q, kk, rfl, h2, by rw [h3]; exact h0⟩
    | [], h1 => simp [tr] at h1
    | 0 :: q, h1 => simp [tr] at h1
  have hO : ∀ n kk, lb s0.bl n = some kk → ∀ k q, Ow k = some ((ρ n + 1) :: q) → Ow' k = some ((n + 1) :: q) := fun n kk hn k q hk => by
    simp only [Ow', hk, Option.bind_some, tr, hinv n kk hn, Option.map_some]
  refine ⟨S, Ow', L', ?_, fun x u h1 h2 => h2.ren hL (fun k q hk => absurd hk (h.ow0 k q)) h1, rfl⟩
  refine { fix := ?_, keep := h.keep, inS := h.inS, upS := h.upS, ltS := h.ltS, owS := fun k hk => by simp [Ow', h.owS k hk], ow := fun k p hk => ?_, ow0 := fun k q hk => ?_, blk := fun n k hn => ?_, fresh := fun n hn => ?_, named := fun n hn => ?_, freshO := fun k n q hk => ?_, slot := fun t x hx => ?_, size := h.size, defers := h.defers }
  · obtain ⟨n, q, kk, rfl, _, h2⟩ := hOt k p hk
    exact h.ow k _ h2
  · obtain ⟨n, q', kk, e, _⟩ := hOt k _ hk
    cases e
  · obtain ⟨hlt, k', hk', hc⟩ := hb.get _ (lb_mem hn)
    obtain ⟨loc, hl, hB⟩ := h.blk _ _ hk'
    refine ⟨loc, by simp only [L', hn]; exact hl, ?_⟩
    obtain ⟨hxs, hok⟩ := hc.all
    cases loc with
    | none =>
      have hB : k'.xs = [] := hB
      show k.xs = []
      rw [hxs] at hB
      simpa using hB
    | some p =>
      obtain ⟨h1, cs, us, h2, h3, h4, h5, h6, h7⟩ := hB
      rw [hc.2.1] at h3 h5 h6
      have get : ∀ (j : Nat) (row : List AV), k.xs[j]? = some row → k'.xs[j]? = some (row.map (En.ren ρ)) := fun j row hj => by rw [hxs]; simp [hj]
      refine ⟨hO n k hn _ [] h1, cs, us, by rw [← hc.1]; exact h2, h3, by rw [hxs, List.length_map] at h4; exact h4, fun j row hj => ?_, fun j row i x hj hi => h6 j _ i (En.ren ρ x) (get j row hj) (by simp [hi]), fun j row i x hj hi => ?_⟩
      · have := h5 j _ (get j row hj); simpa using this
      · exact (h7 j _ i (En.ren ρ x) (get j row hj) (by simp [hi])).ren hL (fun k2 q hk2 => hO n k hn k2 _ hk2) (hok row (List.mem_of_getElem? hj) x (List.mem_of_getElem? hi))
  · simp only [L']
    cases e : lb s0.bl n with
    | some k => exact absurd (hb.get _ (lb_mem e)).1 (Nat.not_lt.2 hn)
    | none => simp [Nat.not_lt.2 hn]
  · simp only [L']
    cases e : lb s0.bl n with
    | some k =>
      obtain ⟨_, k', hk', _⟩ := hb.get _ (lb_mem e)
      obtain ⟨loc, hl, _⟩ := h.blk _ _ hk'
      simp [hl]
    | none => simp [hn]
  · obtain ⟨m, q', kk, e, h1, _⟩ := hOt k _ hk
    cases e
    exact (hb.get _ (lb_mem h1)).1
  · obtain ⟨h1, h2⟩ := ht.get hx
    obtain ⟨u, hu, hR⟩ := h.slot t _ h2
    exact ⟨u, hu, hR.ren hL (fun k q hk => absurd hk (h.ow0 k q)) h1⟩
  · intro n loc hn
    obtain ⟨h1, h2⟩ := h.fix n loc hn
    refine ⟨h1, ?_⟩
    obtain ⟨h3, h4⟩ := hk n (by omega)
    simp only [L']
    cases e : lb s0.bl n with
    | some kk =>
      rw [e] at h4
      rw [h4 (by simp)]
      exact h2
    | none => exact .inr (by simp [h3])
theorem Cov.ofk {k : Nat} (ρ : Nat → Nat) (hk : ∀ n, n < k → n < s0.nx ∧ (lb s0.bl n ≠ none → ρ n = n)) (ht : ChkT ρ s0.nx s.tm s0.tm) (hb : ChkB ρ s0.nx s.bl s0.bl) : Cov k s0 s :=
  fun C a w S Ow L hCk h => let ⟨S', Ow', L', h', _⟩ := covk ρ hk ht hb hCk h; ⟨S', Ow', L', h'⟩
theorem Cov.of (ρ : Nat → Nat) (ht : ChkT ρ s0.nx s.tm s0.tm) (hb : ChkB ρ s0.nx s.bl s0.bl) : Cov 0 s0 s := Cov.ofk ρ (fun n hn => absurd hn (Nat.not_lt_zero n)) ht hb
end
end Go.Proofs.Ytaiefncpgkoniaa.En
