/- Own words, 17: rows frozen; functions that write rows they are lent, and hand back rows. -/
import Derived.Test.YtaiefncpgkoniaaEn16
namespace Go.Proofs.Ytaiefncpgkoniaa.En
open Go.RowKit
set_option linter.unusedSimpArgs false
set_option linter.unusedVariables false
section
attribute [local semireducible] G Gq Holds GS Pure Out
variable {P : Program} {nt : NT} {Q : Exit → AS → Prop} {s s' s0 : AS} {ops : Array Oper} {K : AS → Prop} {i : Nat} {o : Oper} {l : List Oper} {C : Ctx} {a : Act} {w : World} {S : Nat → Prop} {Ow : Owners} {L : Names}

/-! #### freezing -/
theorem lb_filter (bl : List (Nat × Blk)) (f : Nat → Bool) (n : Nat) : lb (bl.filter fun p => f p.1) n = if f n then lb bl n else none := by
  induction bl with
  | nil => simp [lb]
  | cons h r ih =>
    obtain ⟨k, x⟩ := h
    by_cases hk : f k = true
    · simp only [List.filter_cons, hk, if_true, lb]
      by_cases e : k = n
      · subst e; simp [hk]
      · simp [e, ih]
    · simp only [List.filter_cons, hk, if_false, lb]
      by_cases e : k = n
      · subst e; simp [hk, ih]
      · simp [e, ih]
/-- Slots that are told anew, as they are seen when the rows are frozen. -/
inductive FzT (tm : List (Nat × AV)) (bl : List (Nat × Blk)) : List (Nat × AV) → Prop
  | nil : FzT tm bl []
  | cons {t : Nat} {x y : AV} {r : List (Nat × AV)} (hx : lk tm t = some x) (hf : Fz bl x y) (hr : FzT tm bl r) : FzT tm bl ((t, y) :: r)
theorem FzT.get {tm : List (Nat × AV)} {bl : List (Nat × Blk)} {ts : List (Nat × AV)} (h : FzT tm bl ts) {t : Nat} {y : AV} (hy : lk (ts ++ tm) t = some y) : lk tm t = some y ∨ ∃ x, lk tm t = some x ∧ Fz bl x y := by
  induction h with
  | nil => exact .inl hy
  | cons hx hf _ ih =>
    simp only [List.cons_append, lk] at hy
    split at hy
    · rename_i e; cases hy; subst e; exact .inr ⟨_, hx, hf⟩
    · exact ih hy
/-- The rows N are written no more. -/
def frz (s : AS) (N : List Nat) (ts : List (Nat × AV)) : AS := ⟨ts ++ s.tm, s.bl.filter fun p => !N.contains p.1, s.nx⟩
theorem RelX.freeze (h : RelX C s a w S Ow L) {N : List Nat} {ts : List (Nat × AV)} (hf : FzT s.tm (s.bl.filter fun p => N.contains p.1) ts) :
    ∃ S' Ow' L', RelX C (frz s N ts) a w S' Ow' L' := by
  have hNb : ∀ n k, lb (s.bl.filter fun p => N.contains p.1) n = some k → N.contains n = true ∧ lb s.bl n = some k := fun n k hk => by
    rw [lb_filter s.bl (fun n => N.contains n)] at hk
    split at hk
    · rename_i g; exact ⟨g, hk⟩
    · cases hk
  let Nn : Nat → Prop := fun n => N.contains n = true
  let Ow' : Owners := fun b => (Ow b).bind fun p => match p with
    | (n + 1) :: q => if N.contains n = true then none else some ((n + 1) :: q)
    | p => some p
  let L' : Names := fun n => if N.contains n = true then (L n).kill else L n
  have hO : ∀ b p, Ow' b = some p → Ow b = some p := fun b p hb => by
    simp only [Ow', Option.bind_eq_some_iff] at hb
    obtain ⟨p0, h0, h1⟩ := hb
    split at h1
    · split at h1
      · cases h1
      · cases h1; exact h0
    · cases h1; exact h0
  have hO2 : ∀ b n q, Ow b = some ((n + 1) :: q) → N.contains n = false → Ow' b = some ((n + 1) :: q) := fun b n q hb hn => by
    simp [Ow', hb]
    intro hc
    have hnn : ¬ (N.contains n = true) := by rw [hn]; simp
    exact absurd (by simpa using hc) hnn
  have hS : ∀ k, S k → lentN Nn S Ow k := fun k hk => .inl hk
  have hLn : ∀ m, L m = .free ∨ L' m = L m ∨ L' m = .gone := fun m => by
    by_cases e : N.contains m = true
    · simp only [L', if_pos e]; cases L m <;> simp [NL.kill]
    · exact .inr (.inl (if_neg e))
  have free_iff : ∀ m, L' m = .free ↔ L m = .free := fun m => by
    by_cases e : N.contains m = true
    · simp only [L', if_pos e]; cases L m <;> simp [NL.kill]
    · simp only [L', if_neg e]
  have up : ∀ p x u, (∀ b q, Ow b = some (p ++ q) → Ow' b = some (p ++ q)) → Rep w S Ow L p x u → Rep w (lentN Nn S Ow) Ow' L' p x u := fun p x u hp hx =>
    (hx.world (Nat.le_refl _) hS (fun _ _ => rfl) (fun _ _ _ => rfl)).names hLn hp
  refine ⟨lentN Nn S Ow, Ow', L', ?_⟩
  refine { fix := fix_of h.fix hLn, keep := h.keep, inS := fun k hk => .inl (h.inS k hk), upS := fun k hk => ?_, ltS := fun k hk => lent_lt h k (lentN_lent hk), owS := fun k hk => ?_, ow := fun k p hk => h.ow k p (hO k p hk), ow0 := fun k q hk => h.ow0 k q (hO _ _ hk), blk := fun n k hn => ?_, fresh := fun n hn => (free_iff n).2 (h.fresh n hn), named := fun n hn he => h.named n hn ((free_iff n).1 he), freshO := fun k n q hk => h.freshO k n q (hO _ _ hk), slot := fun t y hy => ?_, size := h.size, defers := h.defers }
  · rcases hk with hk | ⟨n, q, _, hk⟩
    · exact h.upS k hk
    · exact .inr (h.ow k _ hk).1
  · rcases hk with hk | ⟨n, q, hn, hk⟩
    · simp [Ow', h.owS k hk]
    · simp only [Ow', hk, Option.bind_some]
      exact if_pos hn
  · rw [show (frz s N ts).bl = s.bl.filter fun p => !N.contains p.1 from rfl, lb_filter s.bl (fun n => !N.contains n)] at hn
    split at hn
    · rename_i g
      have g' : N.contains n = false := by simpa using g
      obtain ⟨loc, hl, hB⟩ := h.blk n k hn
      refine ⟨loc, by simp only [L', g', Bool.false_eq_true, if_false]; exact hl, ?_⟩
      cases loc with
      | none => exact hB
      | some p =>
        obtain ⟨h1, cs, us, h2, h3, h4, h5, h6, h7⟩ := hB
        exact ⟨hO2 _ _ _ h1 g', cs, us, h2, h3, h4, h5, h6, fun j row i x hj hi => up _ x _ (fun b q hb => hO2 b _ _ hb g') (h7 j row i x hj hi)⟩
    · cases hn
  · rcases hf.get hy with hy | ⟨x, hx, hz⟩
    · obtain ⟨u, hu, hR⟩ := h.slot t y hy
      exact ⟨u, hu, up _ y u (fun b q hb => absurd hb (h.ow0 b q)) hR⟩
    · obtain ⟨u, hu, hR⟩ := h.slot t x hx
      exact ⟨u, hu, (Rep.fzN h (N := Nn) hNb hz (fun b q hq => absurd hq (h.ow0 b q)) (fun _ => .inl rfl) hR : Rep w _ noOwner noName [] y u).any⟩
theorem Cov.freeze {k : Nat} (N : List Nat) {ts : List (Nat × AV)} (hf : FzT s.tm (s.bl.filter fun p => N.contains p.1) ts) : Cov k (frz s N ts) s := fun _ _ _ _ _ _ _ h => h.freeze hf
theorem GS.cov (hc : Cov nt.k s' s) (h : GS P nt ops K l i s') : GS P nt ops K l i s := fun hd C a w S Ow L Q hn hR hQ => let ⟨S', Ow', L', hR'⟩ := hc C a w S Ow L (by rw [hn]) hR; h hd C a w S' Ow' L' Q hn hR' hQ
theorem GS.frz (N : List Nat) (ts : List (Nat × AV)) (hf : FzT s.tm (s.bl.filter fun p => N.contains p.1) ts) (h : GS P nt ops K l i (En.frz s N ts)) : GS P nt ops K l i s := GS.cov (Cov.freeze N hf) h
theorem Holds.frz {c : Code} (N : List Nat) (ts : List (Nat × AV)) (hf : FzT s.tm (s.bl.filter fun p => N.contains p.1) ts) (h : Holds P nt c Q (En.frz s N ts)) : Holds P nt c Q s := Holds.cov (Cov.freeze N hf) h

/-! #### nil as a row of one's own -/
def niw (s : AS) (t : Nat) (e : TypeId) (sz : Nat) : AS := ⟨(t, .own s.nx sz 0 0) :: s.tm, (s.nx, ⟨e, sz, []⟩) :: s.bl, s.nx + 1⟩
theorem Cov.niw {k t : Nat} (e : TypeId) (sz : Nat) (hx : lk s.tm t = some (.v (.slice none 0 0))) : Cov k (En.niw s t e sz) s := by
  intro C a w S Ow L _ h
  obtain ⟨L', hR, hL, hup⟩ := h.allocNil ⟨e, sz, []⟩ rfl
  refine ⟨S, Ow, L', { fix := hR.fix, keep := hR.keep, inS := hR.inS, upS := hR.upS, ltS := hR.ltS, owS := hR.owS, ow := hR.ow, ow0 := hR.ow0, blk := hR.blk, fresh := hR.fresh, named := hR.named, freshO := hR.freshO, size := hR.size, defers := hR.defers, slot := fun t' y hy => ?_ }⟩
  by_cases e : t = t'
  · subst e
    simp only [En.niw, lk, if_true, Option.some.injEq] at hy
    subst hy
    obtain ⟨u, hu, hr⟩ := h.slot t _ hx
    obtain ⟨rfl, _⟩ := hr.v_inv
    exact ⟨_, hu, .own_nil _ _ hL⟩
  · simp only [En.niw, lk, if_neg e] at hy
    exact hR.slot t' y hy
/-- nil as a row that nobody writes. -/
theorem Rep.nil_im {p : Path} {sz : Nat} {u : Value} (h : Rep w S Ow L p (.v (.slice none 0 0)) u) : Rep w S Ow L p (.im sz []) u := by
  obtain ⟨rfl, _⟩ := h.v_inv
  exact .im sz [] none 0 ⟨0, 0, none⟩ (fun _ _ => undef) (Nat.le_refl 0) (fun hx => absurd rfl hx) (fun hx => absurd rfl hx) (fun j row hj => by simp at hj) (fun j row i y hj => by simp at hj) (fun j row i y hj => by simp at hj)
theorem Cov.nim {k t : Nat} (sz : Nat) (hx : lk s.tm t = some (.v (.slice none 0 0))) : Cov k (again s t (.im sz [])) s := by
  intro C a w S Ow L _ h
  refine ⟨S, Ow, L, { fix := h.fix, keep := h.keep, inS := h.inS, upS := h.upS, ltS := h.ltS, owS := h.owS, ow := h.ow, ow0 := h.ow0, blk := h.blk, fresh := h.fresh, named := h.named, freshO := h.freshO, size := h.size, defers := h.defers, slot := fun t' y hy => ?_ }⟩
  by_cases e : t = t'
  · subst e
    simp only [En.again, lk, if_true, Option.some.injEq] at hy
    subst hy
    obtain ⟨u, hu, hr⟩ := h.slot t _ hx
    exact ⟨u, hu, hr.nil_im⟩
  · simp only [En.again, lk, if_neg e] at hy
    exact h.slot t' y hy
theorem Holds.niw {c : Code} (t : Nat) (e : TypeId) (sz : Nat) (hx : lk s.tm t = some (.v (.slice none 0 0))) (h : Holds P nt c Q (En.niw s t e sz)) : Holds P nt c Q s := Holds.cov (Cov.niw e sz hx) h
theorem GS.niw (t : Nat) (e : TypeId) (sz : Nat) (hx : lk s.tm t = some (.v (.slice none 0 0))) (h : GS P nt ops K l i (En.niw s t e sz)) : GS P nt ops K l i s := GS.cov (Cov.niw e sz hx) h
theorem Holds.nim {c : Code} (t : Nat) (sz : Nat) (hx : lk s.tm t = some (.v (.slice none 0 0))) (h : Holds P nt c Q (again s t (.im sz []))) : Holds P nt c Q s := Holds.cov (Cov.nim sz hx) h
theorem GS.nim (t : Nat) (sz : Nat) (hx : lk s.tm t = some (.v (.slice none 0 0))) (h : GS P nt ops K l i (again s t (.im sz []))) : GS P nt ops K l i s := GS.cov (Cov.nim sz hx) h

/-! #### names forward -/
theorem Rep.fwd1 {ρ : Nat → Nat} {m : Nat} {Ow2 : Owners} {L2 : Names} (hL : ∀ n, n < m → L2 (ρ n) = L n) {x : AV} {p p' : Path} {u : Value} (hO : ∀ k q, Ow k = some (p ++ q) → Ow2 k = some (p' ++ q)) (hx : okr1 m x = true) (h : Rep w S Ow L p x u) : Rep w S Ow2 L2 p' (En.ren1 ρ x) u := by
  cases h with
  | v _ h => exact .v _ h
  | ag => simp [okr1] at hx
  | tu => simp [okr1] at hx
  | fn => simp [okr1] at hx
  | im sz xs A c ad us hc ha hS hz hcell hr => exact .im sz xs A c ad us hc ha hS hz hcell hr
  | pi xs ad us hS hcell hr => exact .pi xs ad us hS hcell hr
  | ow e sz xs b o cap cs us ho hh hs hc hz hcell hr =>
    refine .ow e sz xs b o cap cs us (by have := hO b [] (by simpa using ho); simpa using this) hh hs hc hz hcell fun j row i x hj hi => (hr j row i x hj hi).names (fun _ => .inr (.inl rfl)) fun k q hk => ?_
    have := hO k ([j, i] ++ q) (by rw [← List.append_assoc]; exact hk)
    rw [List.append_assoc]; exact this
  | ow_nil e sz => exact .ow_nil e sz
  | own n sz off len b o cap h hl => exact .own _ sz off len b o cap ((hL n (by simpa [okr1] using hx)).trans h) hl
  | own_end n sz off b o cap a h hl => exact .own_end _ sz off b o cap a ((hL n (by simpa [okr1] using hx)).trans h) hl
  | own_nil n sz h => exact .own_nil _ sz ((hL n (by simpa [okr1] using hx)).trans h)
  | own_gone n sz off len u h h1 => exact .own_gone _ sz off len u ((hL n (by simpa [okr1] using hx)).trans h) h1
  | pb n sz j i b o cap h => exact .pb _ sz j i b o cap ((hL n (by simpa [okr1] using hx)).trans h)
  | pb_gone n sz j i u h h1 => exact .pb_gone _ sz j i u ((hL n (by simpa [okr1] using hx)).trans h) h1
theorem Rep.fwd {ρ : Nat → Nat} {m : Nat} {Ow2 : Owners} {L2 : Names} (hL : ∀ n, n < m → L2 (ρ n) = L n) {x : AV} {p p' : Path} {u : Value} (hO : ∀ k q, Ow k = some (p ++ q) → Ow2 k = some (p' ++ q)) (hx : okr m x = true) (h : Rep w S Ow L p x u) : Rep w S Ow2 L2 p' (En.ren ρ x) u := by
  have ext : ∀ (m : Nat) (i : Nat) k q, Ow k = some (p ++ [m, i] ++ q) → Ow2 k = some (p' ++ [m, i] ++ q) := fun m i k q hk => by
    rw [List.append_assoc] at hk ⊢; exact hO k _ hk
  have at' : ∀ (xs : List AV) (i : Nat) (y : AV), xs.all (okr1 m) = true → (xs.map (En.ren1 ρ))[i]? = some y → ∃ x, okr1 m x = true ∧ xs[i]? = some x ∧ y = En.ren1 ρ x := fun xs i y ha hi => by
    rw [List.all_eq_true] at ha
    simp only [List.getElem?_map, Option.map_eq_some_iff] at hi
    obtain ⟨x, hx, rfl⟩ := hi
    exact ⟨x, ha x (List.mem_of_getElem? hx), hx, rfl⟩
  cases x with
  | ag xs =>
    simp only [okr] at hx
    obtain ⟨us, rfl, hl, hr⟩ := h.ag_inv
    refine .ag _ us (by simpa using hl) fun i y u hi hu => ?_
    obtain ⟨x, h1, h2, rfl⟩ := at' xs i y hx hi
    exact (hr i x u h2 hu).fwd1 hL (ext 0 i) h1
  | tu xs =>
    simp only [okr] at hx
    obtain ⟨us, rfl, hl, hr⟩ := h.tu_inv
    refine .tu _ us (by simpa using hl) fun i y u hi hu => ?_
    obtain ⟨x, h1, h2, rfl⟩ := at' xs i y hx hi
    exact (hr i x u h2 hu).fwd1 hL (ext 1 i) h1
  | fn g xs =>
    simp only [okr] at hx
    obtain ⟨us, rfl, hl, hr⟩ := h.fn_inv
    refine .fn g _ us (by simpa using hl) fun i y u hi hu => ?_
    obtain ⟨x, h1, h2, rfl⟩ := at' xs i y hx hi
    exact (hr i x u h2 hu).fwd1 hL (ext 2 i) h1
  | v y => exact Rep.fwd1 (x := .v y) hL hO hx h
  | im sz xs => exact Rep.fwd1 (x := .im sz xs) hL hO hx h
  | ow e sz xs => exact Rep.fwd1 (x := .ow e sz xs) hL hO hx h
  | own n sz off len => exact Rep.fwd1 (x := .own n sz off len) hL hO hx h
  | pb n sz j i => exact Rep.fwd1 (x := .pb n sz j i) hL hO hx h
  | pi xs => exact Rep.fwd1 (x := .pi xs) hL hO hx h

/-! #### a function that writes rows it is lent -/
def a0 : Act := { tmps := #[], defers := [] }
def fixOf (k : Nat) (L : Names) : Nat → Option Loc := fun n => match L n with
  | .at loc => if n < k then some loc else none
  | _ => none
theorem fixOf_eq {k : Nat} {L : Names} {n : Nat} {loc : Loc} : fixOf k L n = some loc ↔ n < k ∧ L n = .at loc := by
  unfold fixOf
  cases e : L n <;> simp
/-- f, lent the rows ins under the names below k, called with args: it yields r, and behind it the rows are outs, of which those from k on are new. -/
def Fn (P : Program) (f : FuncId) (k : Nat) (args : List AV) (ins : List (Nat × Blk)) (r : AV) (m : Nat) (outs : List (Nat × Blk)) : Prop :=
  Ent P f ∧ ∀ (W : World) (X S : Nat → Prop) (Ow : Owners) (L : Names) (us : List Value), RelX ⟨W, X, S, ⟨0, k⟩, fixOf k L⟩ ⟨[], ins, k⟩ a0 W S Ow L →
    us.length = args.length → (∀ (i : Nat) (x : AV) (u : Value), args[i]? = some x → us[i]? = some u → Rep W S Ow L [0] x u) →
    Calls P f us.toArray W fun e w' => ∃ v, e = .returned v ∧ ∃ S' Ow' L', RelX ⟨W, X, S, ⟨0, k⟩, fixOf k L⟩ ⟨[], outs, m⟩ a0 w' S' Ow' L' ∧ Rep w' S' Ow' L' [0] r v
theorem RelX.slots (h : RelX C s a w S Ow L) {C' : Ctx} {a' : Act} {tm : List (Nat × AV)} (hW : C'.W = C.W) (hX : C'.X = C.X) (hS : C'.S = C.S) (hk : C'.nt.k = C.nt.k) (hf : C'.fix = C.fix)
    (hs : ∀ t x, lk tm t = some x → ∃ u, a'.tmps[t]? = some u ∧ Rep w S Ow L [0] x u) (hz : a'.tmps.size = C'.nt.n) (hd : a'.defers = []) : RelX C' ⟨tm, s.bl, s.nx⟩ a' w S Ow L := by
  obtain ⟨W, X, S0, nt, fx⟩ := C
  obtain ⟨W', X', S0', nt', fx'⟩ := C'
  dsimp only at hW hX hS hk hf hz
  subst hW hX hS hf
  exact { fix := fun n loc hn => by have := h.fix n loc hn; exact ⟨by rw [show nt'.k = nt.k from hk]; exact this.1, this.2⟩, keep := h.keep, inS := h.inS, upS := h.upS, ltS := h.ltS, owS := h.owS, ow := h.ow, ow0 := h.ow0, blk := h.blk, fresh := h.fresh, named := h.named, freshO := h.freshO, slot := hs, size := hz, defers := hd }
/-- What holds where such a function ends. -/
def OutF (P : Program) (rs : List ResultVar) (k : Nat) (r : AV) (m : Nat) (outs : List (Nat × Blk)) (e : Exit) (s : AS) : Prop :=
  (e = .normal ∨ e = .ret) ∧ ∃ s0 xs, ∃ ρ : Nat → Nat, Cov k s0 s ∧ rs.mapM (rval P s0) = some xs ∧ pack xs = ren ρ r ∧ okr m r = true ∧ ChkB ρ m s0.bl outs ∧ ∀ n, n < k → n < m ∧ ρ n = n
theorem OutF.mk {rs : List ResultVar} {k m : Nat} {r : AV} {outs : List (Nat × Blk)} {e : Exit} {xs : List AV} (ρ : Nat → Nat) (hx : rs.mapM (rval P s) = some xs) (hr : pack xs = ren ρ r) (hok : okr m r = true) (hb : ChkB ρ m s.bl outs) (hk : ∀ n, n < k → n < m ∧ ρ n = n) (he : e = .normal ∨ e = .ret) : OutF P rs k r m outs e s :=
  ⟨he, s, xs, ρ, Cov.refl _ _, hx, hr, hok, hb, hk⟩
theorem OutF.cov {rs : List ResultVar} {k m : Nat} {r : AV} {outs : List (Nat × Blk)} {e : Exit} (hc : Cov k s0 s) (h : OutF P rs k r m outs e s0) : OutF P rs k r m outs e s := by
  obtain ⟨he, s1, xs, ρ, h1, h2⟩ := h
  exact ⟨he, s1, xs, ρ, h1.trans hc, h2⟩
theorem Fn.mk {f : FuncId} {fn : Func} {c : Code} {args : List AV} {rs : List ResultVar} {r : AV} {nt k m : Nat} {ins outs : List (Nat × Blk)} (hf : P.funcs[f]? = some fn) (hn : (fn.name == "runtime.NumGoroutine") = false) (hb : fn.body = some c) (hr : fn.results = rs.toArray) (hnt : fn.ntmps = nt) (hle : args.length ≤ nt)
    (h : Holds P ⟨nt, k⟩ c (OutF P rs k r m outs) ⟨sl 0 args, ins, k⟩) : Fn P f k args ins r m outs := by
  subst hnt
  refine ⟨⟨fn, hf, hn, by rw [hb]; rfl⟩, fun W X S Ow L us hR0 hl hrep => calls_of_wp hf hb ?_⟩
  have hR : RelX ⟨W, X, S, ⟨fn.ntmps, k⟩, fixOf k L⟩ ⟨sl 0 args, ins, k⟩ { tmps := us.toArray ++ Array.replicate (fn.ntmps - us.toArray.size) undef, defers := [] } W S Ow L := by
    refine hR0.slots rfl rfl rfl rfl rfl (fun t x hx => ?_) ?_ rfl
    · obtain ⟨_, hx⟩ := lk_sl args 0 t x hx
      rw [Nat.sub_zero] at hx
      have hlt : t < us.length := by have := (List.getElem?_eq_some_iff.1 hx).1; omega
      have hu : us[t]? = some us[t] := List.getElem?_eq_getElem hlt
      refine ⟨us[t], ?_, hrep t x _ hx hu⟩
      rw [Array.getElem?_append_left (by simpa using hlt)]
      simp [hlt]
    · have hsz : us.toArray.size = args.length := by simpa using hl
      simp; omega
  refine wp_mono (h _ _ _ _ _ _ rfl hR) ?_
  rintro e a w ⟨s, S1, Ow1, L1, ⟨he, s0, xs, ρ, hc, hx, hpk, hok, hb, hk⟩, hR1⟩
  obtain ⟨S2, Ow2, L2, hR2⟩ := hc _ _ _ _ _ _ rfl hR1
  obtain ⟨v, hv, hrv⟩ := results_run hR2 fn hr hx
  rw [hpk] at hrv
  obtain ⟨S3, Ow3, L3, hR3, hval, _⟩ := covk (s0 := ⟨[], outs, m⟩) ρ (fun n hn => ⟨(hk n hn).1, fun _ => (hk n hn).2⟩) trivial hb rfl hR2
  have fin : a.defers = [] ∧ ∃ v, (results fn a.tmps).run P w = .ok v w ∧ ∃ v', Ending.returned v = .returned v' ∧ ∃ S' Ow' L', RelX ⟨W, X, S, ⟨0, k⟩, fixOf k L⟩ ⟨[], outs, m⟩ a0 w S' Ow' L' ∧ Rep w S' Ow' L' [0] r v' :=
    ⟨hR1.defers, v, hv, v, rfl, S3, Ow3, L3, hR3.slots rfl rfl rfl rfl rfl (fun t x hx => (by cases hx)) rfl rfl, hval r v hok hrv⟩
  rcases he with rfl | rfl
  · exact fin
  · exact fin
end
attribute [go_sem] niw
attribute [irreducible] OutF Fn
end Go.Proofs.Ytaiefncpgkoniaa.En
