/- Running the machine: closed calls by computation. -/
import Derived.Test.YtjmcikjcknddbaaE15
namespace Go.Eng
open Go

abbrev CallF := Nat → List AV → List HO → Option (AV × List HO)

/-- A step, with a function for the calls. -/
def stepF (call : CallF) (i : Ins) (s : St) : Option St :=
  match i with
  | .call d f xs => (frzL s.H (xs.map (ev s.fr))).bind fun (args, H1) => (call f args H1).map fun (r, H2) => ⟨putO s.fr d r, s.bx, H2⟩
  | .callP d f xs => if arePure (weakVs (xs.map (ev s.fr))) then (call f (weakVs (xs.map (ev s.fr))) []).bind fun (r, H2) => if H2.isEmpty && isPureT r then some ⟨put s.fr d r, s.bx, s.H⟩ else none else none
  | .callV d fx xs => match ev s.fr fx with
    | .fn f first cap => (frzL s.H (first ++ xs.map (ev s.fr) ++ cap)).bind fun (args, H1) => (call f args H1).map fun (r, H2) => ⟨putO s.fr d r, s.bx, H2⟩
    | _ => none
  | i => iexec i s

def opF (call : CallF) (o : IOp) (s : St) : Option St :=
  match o.g with
  | none => stepF call o.i s
  | some (t, want) => match get s.fr t with
    | .p (.bool b) => if b = want then stepF call o.i s else some ⟨putO s.fr (dstI o.i) (.nl .unit), s.bx, s.H⟩
    | .nl .unit => some ⟨putO s.fr (dstI o.i) (.nl .unit), s.bx, s.H⟩
    | _ => none

def opsF (call : CallF) : List IOp → St → Option St
  | [], s => some s
  | o :: os, s => (opF call o s).bind (opsF call os)

def iter (f : St → Option (Exit × St)) : Nat → St → Option (Exit × St)
  | 0, _ => none
  | m + 1, s => match f s with
    | some (.normal, s') => iter f m s'
    | r => r

def iterS (f : Nat → Option (St → Option (Exit × St))) : Nat → Option (Exit × St) → Option (Exit × St)
  | 0, _ => none
  | m + 1, some (.goto l, s') => match f l with
    | some h => iterS f m (h s')
    | none => none
  | _ + 1, r => r

mutual
def runC (N : Nat) (call : CallF) : IC → St → Option (Exit × St)
  | .skip, s => some (.normal, s)
  | .reg ops keep, s => (opsF call ops s).map fun s' => (.normal, keepS keep s')
  | .regD ops keep, s => if startB s.fr ops = true then (opsF call ops s).map fun s' => (.normal, keepS keep s') else none
  | .regF fs ops keep, s => match frzS fs s with
    | some s0 => if startB s0.fr ops = true then (opsF call ops s0).map fun s' => (.normal, keepS keep s') else none
    | none => none
  | .seq a b, s => match runC N call a s with
    | some (.normal, s') => runC N call b s'
    | r => r
  | .cond x a b, s => match ev s.fr x with
    | .p (.bool t) => if t = true then runC N call a (dropX x s) else runC N call b (dropX x s)
    | _ => none
  | .block id a, s => match runC N call a s with
    | some (.exit id', s') => if id' = id then some (.normal, s') else some (.exit id', s')
    | r => r
  | .loop a, s => iter (runC N call a) N s
  | .exit id, s => some (.exit id, s)
  | .scope a, s => iterS (runL N call a) N (runC N call a s)
  | .label _, s => some (.normal, s)
  | .goto l, s => some (.goto l, s)
  | .ret, s => some (.ret, s)
def runL (N : Nat) (call : CallF) : IC → Nat → Option (St → Option (Exit × St))
  | .seq a b, l => match runL N call a l with
    | some f => some fun s => match f s with
      | some (.normal, s') => runC N call b s'
      | r => r
    | none => runL N call b l
  | .label l', l => if l' == l then some fun s => some (.normal, s) else none
  | _, _ => none
end

def callD (N : Nat) (F : Nat → Option IFn) : Nat → CallF
  | 0, _, _, _ => none
  | d + 1, f, args, H => match F f with
    | some fn => if args.length = fn.nargs then
        if arePure args then
          match runC N (callD N F d) fn.body ⟨argsFr args 0, [], []⟩ with
          | some (.normal, s') => (resL s' fn.res).bind fun xs => if isPureT (tupOf xs) then some (tupOf xs, H) else none
          | some (.ret, s') => (resL s' fn.res).bind fun xs => if isPureT (tupOf xs) then some (tupOf xs, H) else none
          | _ => none
        else if noLocL args then
          match runC N (callD N F d) fn.body ⟨argsFr args 0, [], H⟩ with
          | some (.normal, s') => (rawL s' fn.res).bind fun xs => if noLoc (tupOf xs) then some (tupOf xs, s'.H) else none
          | some (.ret, s') => (rawL s' fn.res).bind fun xs => if noLoc (tupOf xs) then some (tupOf xs, s'.H) else none
          | _ => none
        else none
      else none
    | none => none

section
variable {P : Program} {n N : Nat}

/-- The calls that the function makes meet their contracts. -/
def GoodCall (P : Program) (call : CallF) : Prop := ∀ f args H r H', call f args H = some (r, H') → ACall P f args H r H'

theorem stepF_sound {call : CallF} (hc : GoodCall P call) {i : Ins} {s s' : St} (h : stepF call i s = some s') : AStep P i s s' := by
  cases i with
  | call d f xs =>
    simp only [stepF] at h
    cases h1 : frzL s.H (xs.map (ev s.fr)) with
    | none => simp [h1] at h
    | some p =>
      obtain ⟨args, H1⟩ := p
      simp only [h1, Option.bind_some] at h
      cases h2 : call f args H1 with
      | none => simp [h2] at h
      | some q =>
        obtain ⟨r, H2⟩ := q
        simp only [h2, Option.map_some, Option.some.injEq] at h
        exact ⟨args, H1, r, H2, h1, hc _ _ _ _ _ h2, h.symm⟩
  | callP d f xs =>
    simp only [stepF] at h
    split at h
    · rename_i hp
      cases h2 : call f (weakVs (xs.map (ev s.fr))) [] with
      | none => simp [h2] at h
      | some q =>
        obtain ⟨r, H2⟩ := q
        simp only [h2, Option.bind_some] at h
        split at h
        · rename_i hcond
          simp only [Bool.and_eq_true, List.isEmpty_iff] at hcond
          obtain ⟨rfl, hpr⟩ := hcond
          simp only [Option.some.injEq] at h
          exact ⟨r, ⟨hpr, hp, hc _ _ _ _ _ h2⟩, h.symm⟩
        · cases h
    · cases h
  | callV d fx xs =>
    simp only [stepF] at h
    split at h
    · rename_i f first cap h0
      cases h1 : frzL s.H (first ++ xs.map (ev s.fr) ++ cap) with
      | none => rw [h1] at h; cases h
      | some p =>
        obtain ⟨args, H1⟩ := p
        simp only [h1, Option.bind_some] at h
        cases h2 : call f args H1 with
        | none => simp [h2] at h
        | some q =>
          obtain ⟨r, H2⟩ := q
          simp only [h2, Option.map_some, Option.some.injEq] at h
          exact ⟨f, first, cap, args, H1, r, H2, h0, h1, hc _ _ _ _ _ h2, h.symm⟩
    · cases h
  | _ => exact h

theorem opF_sound {call : CallF} (hc : GoodCall P call) {o : IOp} {s s' : St} (h : opF call o s = some s') : AOp P o s s' := by
  unfold opF at h
  unfold AOp
  split at h
  · rename_i hg
    rw [hg]
    exact stepF_sound hc h
  · rename_i t want hg
    rw [hg]
    simp only
    split at h
    · rename_i b hget
      rw [hget]
      simp only
      split at h
      · rename_i hb; rw [if_pos hb]; exact stepF_sound hc h
      · rename_i hb; rw [if_neg hb]; simp only [Option.some.injEq] at h; exact h.symm
    · rename_i hget
      rw [hget]
      simp only [Option.some.injEq] at h
      exact h.symm
    · cases h

theorem opsF_sound {call : CallF} (hc : GoodCall P call) : ∀ {os : List IOp} {s s' : St}, opsF call os s = some s' → APath P os s s'
  | [], s, s', h => by simp only [opsF, Option.some.injEq] at h; exact h.symm
  | o :: os, s, s', h => by
    simp only [opsF] at h
    cases h1 : opF call o s with
    | none => simp [h1] at h
    | some s1 => simp only [h1, Option.bind_some] at h; exact ⟨s1, opF_sound hc h1, opsF_sound hc h⟩

def isQ (e : Exit) (s' : St) : Exit → St → Prop := fun e2 s2 => e2 = e ∧ s2 = s'

theorem EvI.seq {a b : IC} {s : St} {Q : Exit → St → Prop} (h : EvI P n a s (thenQ (fun s' => EvI P n b s' Q) Q)) : EvI P n (.seq a b) s Q := by
  intro c hc k g x w hr
  cases c <;> simp only [chkC, Bool.false_eq_true, Bool.and_eq_true] at hc
  rename_i c1 c2
  refine wp_seq (wp_mono (h c1 hc.1 k g x w hr) ?_)
  rintro e a' w' ⟨s', g', h1, h2⟩
  cases e with
  | normal => exact h2 c2 hc.2 k g' a' w' h1
  | _ => exact ⟨s', g', h1, h2⟩

theorem EvI.block {id : Nat} {a : IC} {s : St} {Q : Exit → St → Prop} (h : EvI P n a s (blockQ id Q)) : EvI P n (.block id a) s Q := by
  intro c hc k g x w hr
  cases c <;> simp only [chkC, Bool.false_eq_true, Bool.and_eq_true, decide_eq_true_eq] at hc
  rename_i id' c1
  obtain ⟨rfl, hc⟩ := hc
  refine wp_block (wp_mono (h c1 hc k g x w hr) ?_)
  rintro e a' w' ⟨s', g', h1, h2⟩
  cases e with
  | exit j =>
    simp only [blockQ] at h2
    simp only [Exit.inBlock]
    split
    · rename_i e; rw [if_pos e] at h2; exact ⟨s', g', h1, h2⟩
    · rename_i e; rw [if_neg e] at h2; exact ⟨s', g', h1, h2⟩
  | _ => exact ⟨s', g', h1, h2⟩

theorem EvI.cond {x : IX} {a b : IC} {s : St} {Q : Exit → St → Prop} {t : Bool} (hx : ev s.fr x = .p (.bool t)) (h : if t = true then EvI P n a (dropX x s) Q else EvI P n b (dropX x s) Q) : EvI P n (.cond x a b) s Q := by
  intro c hc k g ac w hr
  cases c <;> simp only [chkC, Bool.false_eq_true, Bool.and_eq_true] at hc
  rename_i X c1 c2
  have hv := matchX_VR hr hc.1.1
  rw [hx] at hv
  have ht := VR_bool hv
  cases t with
  | true => simp only [if_true] at h; exact wp_cond_true ht (h c1 hc.1.2 k g ac w (hr.drop x))
  | false => simp only [Bool.false_eq_true, if_false] at h; exact wp_cond_false ht (h c2 hc.2 k g ac w (hr.drop x))

/-- A loop, by a relation on states (no family of states at its head). -/
theorem EvI.loopR {b : IC} {Q : Exit → St → Prop} {α : Type} (R : α → St → Prop) (μ : α → Nat)
    (round : ∀ x s, R x s → EvI P n b s (thenQ (fun s' => ∃ y, R y s' ∧ μ y < μ x) Q)) (x : α) (s : St) (h : R x s) : EvI P n (.loop b) s Q := by
  intro c hc k g a w hr
  cases c <;> simp only [chkC, Bool.false_eq_true] at hc
  rename_i c1
  refine wp_loop_ind (R := fun x a w => ∃ s, R x s ∧ ∃ g, Rel k n g s a w) μ (fun x a w h => ?_) x a w ⟨s, h, g, hr⟩
  obtain ⟨s, hx, g, hr⟩ := h
  refine wp_mono (round x s hx c1 hc k g a w hr) ?_
  rintro e a' w' ⟨s', g', h1, h2⟩
  cases e with
  | normal =>
    obtain ⟨y, hy, hlt⟩ := h2
    exact ⟨y, ⟨s', hy, g', h1⟩, hlt⟩
  | _ => exact ⟨s', g', h1, h2⟩

/-- The code behind a label, as the machine runs it. -/
def Runs (P : Program) (n : Nat) (ic : IC) (f : St → Option (Exit × St)) : Prop := ∀ s e s', f s = some (e, s') → EvI P n ic s (isQ e s')

theorem seq_runs {a b : IC} {f h : St → Option (Exit × St)} (ha : Runs P n a f) (hb : Runs P n b h) : Runs P n (.seq a b) fun s => match f s with
    | some (.normal, s') => h s'
    | r => r := by
  intro s e s' hr
  simp only at hr
  split at hr
  · rename_i s1 h1
    exact EvI.seq ((ha s _ s1 h1).mono fun e2 s2 ⟨h2, h3⟩ => by subst h2 h3; exact hb _ e s' hr)
  · rename_i hne
    refine EvI.seq ((ha s e s' hr).mono fun e2 s2 ⟨h2, h3⟩ => ?_)
    subst h2 h3
    cases e2 with
    | normal => exact absurd hr (hne _)
    | _ => exact ⟨rfl, rfl⟩

theorem scope_runs {b : IC} {fl : Nat → Option (St → Option (Exit × St))} (hl : ∀ l f, fl l = some f → ∃ rest, findI b l = some rest ∧ Runs P n rest f) :
    ∀ (m : Nat) (e0 : Exit) (s0 : St) (e : Exit) (s' : St), iterS fl m (some (e0, s0)) = some (e, s') → ∀ (k : K0) (g : G) (a : Act) (w : World) (c : Code), chkC P n c b = true → Rel k n g s0 a w →
      ∀ (fb : Frame) (kk : List Item) (cs : List Frame) (M : Machine), Arrives P M fb (.inScope c :: kk) cs e0 a w → ∃ a' w' g', Rel k n g' s' a' w' ∧ Arrives P M fb kk cs e a' w' ∧ ∀ l, e ≠ .goto l
  | 0, _, _, _, _, h, _, _, _, _, _, _, _, _, _, _, _, _ => by simp [iterS] at h
  | m + 1, e0, s0, e, s', h, k, g, a, w, c, hc, hr, fb, kk, cs, M, harr => by
    cases e0 with
    | goto l =>
      simp only [iterS] at h
      cases hf : fl l with
      | none => simp [hf] at h
      | some f =>
        simp only [hf] at h
        obtain ⟨rest, h1, h2⟩ := hl l f hf
        obtain ⟨rc, e1, e2⟩ := (findI_sound hc).1 rest h1
        cases hfs : f s0 with
        | none => rw [hfs] at h; cases m <;> simp [iterS] at h
        | some q =>
          obtain ⟨e3, s3⟩ := q
          rw [hfs] at h
          obtain ⟨e4, a4, w4, ⟨s5, g5, h5, h6⟩, harr4⟩ := h2 s0 e3 s3 hfs rc e2 k g a w hr fb (.inScope c :: kk) cs
          obtain ⟨rfl, rfl⟩ := h6
          have hsteps := harr (.code rc :: .inScope c :: kk) (by simp [gotoIn, e1])
          exact scope_runs hl m e4 s5 e s' h k g5 a4 w4 c hc h5 fb kk cs M (.of_steps hsteps harr4)
    | normal =>
      simp only [iterS, Option.some.injEq, Prod.mk.injEq] at h
      obtain ⟨rfl, rfl⟩ := h
      exact ⟨a, w, g, hr, Steps.trans harr (.one step_inScope), by simp⟩
    | exit id =>
      simp only [iterS, Option.some.injEq, Prod.mk.injEq] at h
      obtain ⟨rfl, rfl⟩ := h
      exact ⟨a, w, g, hr, fun k' hk => harr k' (by simp [exitTo, hk]), by simp⟩
    | ret =>
      simp only [iterS, Option.some.injEq, Prod.mk.injEq] at h
      obtain ⟨rfl, rfl⟩ := h
      exact ⟨a, w, g, hr, harr, by simp⟩
    | panic ch =>
      simp only [iterS, Option.some.injEq, Prod.mk.injEq] at h
      obtain ⟨rfl, rfl⟩ := h
      exact ⟨a, w, g, hr, harr, by simp⟩
    | outgrown =>
      simp only [iterS, Option.some.injEq, Prod.mk.injEq] at h
      obtain ⟨rfl, rfl⟩ := h
      exact ⟨a, w, g, hr, harr, by simp⟩

theorem runL_none {call : CallF} : ∀ (ic : IC) (l : Nat), runL N call ic l = none → findI ic l = none
  | .seq a b, l, h => by
    rw [runL] at h
    split at h
    · cases h
    · rename_i h1
      simp [findI, runL_none a l h1, runL_none b l h]
  | .label l', l, h => by
    rw [runL] at h
    split at h
    · cases h
    · rename_i hl; simp only [findI]; rw [if_neg hl]
  | .skip, l, h => rfl
  | .reg .., l, h => rfl
  | .regD .., l, h => rfl
  | .regF .., l, h => rfl
  | .cond .., l, h => rfl
  | .block .., l, h => rfl
  | .loop .., l, h => rfl
  | .exit .., l, h => rfl
  | .scope .., l, h => rfl
  | .goto .., l, h => rfl
  | .ret, l, h => rfl

mutual
theorem runC_sound {call : CallF} (hc : GoodCall P call) : ∀ (ic : IC), Runs P n ic (runC N call ic)
  | .skip => fun s e s' h => by
    simp only [runC, Option.some.injEq, Prod.mk.injEq] at h
    obtain ⟨rfl, rfl⟩ := h
    exact vc_sound .skip _ _ ⟨rfl, rfl⟩
  | .reg ops keep => fun s e s' h => by
    simp only [runC] at h
    cases h1 : opsF call ops s with
    | none => simp [h1] at h
    | some s1 =>
      simp only [h1, Option.map_some, Option.some.injEq, Prod.mk.injEq] at h
      obtain ⟨rfl, rfl⟩ := h
      exact vc_sound (.reg ops keep) _ _ ⟨s1, opsF_sound hc h1, rfl, rfl⟩
  | .regD ops keep => fun s e s' h => by
    simp only [runC] at h
    split at h
    · rename_i hst
      cases h1 : opsF call ops s with
      | none => simp [h1] at h
      | some s1 =>
        simp only [h1, Option.map_some, Option.some.injEq, Prod.mk.injEq] at h
        obtain ⟨rfl, rfl⟩ := h
        exact vc_sound (.regD ops keep) _ _ ⟨hst, s1, opsF_sound hc h1, rfl, rfl⟩
    · cases h
  | .regF fs ops keep => fun s e s' h => by
    simp only [runC] at h
    split at h
    · rename_i s0 h0
      split at h
      · rename_i hst
        cases h1 : opsF call ops s0 with
        | none => simp [h1] at h
        | some s1 =>
          simp only [h1, Option.map_some, Option.some.injEq, Prod.mk.injEq] at h
          obtain ⟨rfl, rfl⟩ := h
          exact vc_sound (.regF fs ops keep) _ _ ⟨s0, h0, hst, s1, opsF_sound hc h1, rfl, rfl⟩
      · cases h
    · cases h
  | .seq a b => fun s e s' h => by
    have := seq_runs (runC_sound hc a) (runC_sound hc b) s e s'
    rw [runC] at h
    exact this h
  | .cond x a b => fun s e s' h => by
    rw [runC] at h
    split at h
    · rename_i t hx
      refine EvI.cond hx ?_
      cases t with
      | true => simp only [if_true] at h ⊢; exact runC_sound hc a _ e s' h
      | false => simp only [Bool.false_eq_true, if_false] at h ⊢; exact runC_sound hc b _ e s' h
    · cases h
  | .block id a => fun s e s' h => by
    rw [runC] at h
    refine EvI.block ?_
    split at h
    · rename_i id' s1 h1
      refine (runC_sound hc a s _ s1 h1).mono fun e2 s2 ⟨h2, h3⟩ => ?_
      subst h2 h3
      simp only [blockQ]
      split at h
      · rename_i hid
        rw [if_pos hid]
        simp only [Option.some.injEq, Prod.mk.injEq] at h
        exact ⟨h.1, h.2⟩
      · rename_i hid
        rw [if_neg hid]
        simp only [Option.some.injEq, Prod.mk.injEq] at h
        exact ⟨h.1, h.2⟩
    · rename_i hne
      refine (runC_sound hc a s e s' h).mono fun e2 s2 ⟨h2, h3⟩ => ?_
      subst h2 h3
      cases e2 with
      | exit id' => exact absurd h (hne _ _)
      | _ => exact ⟨rfl, rfl⟩
  | .loop a => fun s e s' h => by
    rw [runC] at h
    have ih := runC_sound hc a
    refine EvI.loopR (R := fun m s => iter (runC N call a) m s = some (e, s')) (fun m => m) (fun m s hm => ?_) N s h
    cases m with
    | zero => simp [iter] at hm
    | succ m =>
      simp only [iter] at hm
      split at hm
      · rename_i s1 h1
        refine (ih s _ s1 h1).mono fun e2 s2 ⟨h2, h3⟩ => ?_
        subst h2 h3
        exact ⟨m, hm, by omega⟩
      · rename_i hne
        refine (ih s e s' hm).mono fun e2 s2 ⟨h2, h3⟩ => ?_
        subst h2 h3
        cases e2 with
        | normal => exact absurd hm (hne _)
        | _ => exact ⟨rfl, rfl⟩
  | .exit id => fun s e s' h => by
    simp only [runC, Option.some.injEq, Prod.mk.injEq] at h
    obtain ⟨rfl, rfl⟩ := h
    exact vc_sound (.exit id) _ _ ⟨rfl, rfl⟩
  | .scope b => fun s e s' h => by
    rw [runC] at h
    have hb := runC_sound hc b
    have hbl := runL_sound hc b
    intro c hcc k g a w hr
    cases c <;> simp only [chkC, Bool.false_eq_true] at hcc
    rename_i c1
    intro fb kk cs
    cases h1 : runC N call b s with
    | none => rw [h1] at h; cases N <;> simp [iterS] at h
    | some q =>
      obtain ⟨e0, s0⟩ := q
      rw [h1] at h
      obtain ⟨e2, a2, w2, ⟨s3, g3, h3, h4⟩, harr⟩ := hb s e0 s0 h1 c1 hcc k g a w hr fb (.inScope c1 :: kk) cs
      obtain ⟨rfl, rfl⟩ := h4
      obtain ⟨a', w', g', h5, h6, _⟩ := scope_runs hbl N e2 s3 e s' h k g3 a2 w2 c1 hcc h3 fb kk cs _ (.of_steps (.one step_scope) harr)
      exact ⟨e, a', w', ⟨s', g', h5, rfl, rfl⟩, h6⟩
  | .label l => fun s e s' h => by
    simp only [runC, Option.some.injEq, Prod.mk.injEq] at h
    obtain ⟨rfl, rfl⟩ := h
    exact vc_sound (.label l) _ _ ⟨rfl, rfl⟩
  | .goto l => fun s e s' h => by
    simp only [runC, Option.some.injEq, Prod.mk.injEq] at h
    obtain ⟨rfl, rfl⟩ := h
    exact vc_sound (.goto l) _ _ ⟨rfl, rfl⟩
  | .ret => fun s e s' h => by
    simp only [runC, Option.some.injEq, Prod.mk.injEq] at h
    obtain ⟨rfl, rfl⟩ := h
    exact vc_sound .ret _ _ ⟨rfl, rfl⟩
theorem runL_sound {call : CallF} (hc : GoodCall P call) : ∀ (ic : IC) (l : Nat) (f : St → Option (Exit × St)), runL N call ic l = some f → ∃ rest, findI ic l = some rest ∧ Runs P n rest f
  | .seq a b, l, f, h => by
    rw [runL] at h
    split at h
    · rename_i f1 h1
      obtain ⟨rest, r1, r2⟩ := runL_sound hc a l f1 h1
      simp only [Option.some.injEq] at h
      subst h
      exact ⟨.seq rest b, by simp [findI, r1], seq_runs r2 (runC_sound hc b)⟩
    · rename_i h1
      obtain ⟨rest, r1, r2⟩ := runL_sound hc b l f h
      refine ⟨rest, ?_, r2⟩
      have : findI a l = none := runL_none a l h1
      simp [findI, this, r1]
  | .label l', l, f, h => by
    rw [runL] at h
    split at h
    · rename_i hl
      simp only [Option.some.injEq] at h
      subst h
      refine ⟨.skip, by simp only [findI]; rw [if_pos hl], fun s e s' h => ?_⟩
      simp only [Option.some.injEq, Prod.mk.injEq] at h
      obtain ⟨rfl, rfl⟩ := h
      exact vc_sound .skip _ _ ⟨rfl, rfl⟩
    · cases h
  | .skip, l, f, h => by simp [runL] at h
  | .reg .., l, f, h => by simp [runL] at h
  | .regD .., l, f, h => by simp [runL] at h
  | .regF .., l, f, h => by simp [runL] at h
  | .cond .., l, f, h => by simp [runL] at h
  | .block .., l, f, h => by simp [runL] at h
  | .loop .., l, f, h => by simp [runL] at h
  | .exit .., l, f, h => by simp [runL] at h
  | .scope .., l, f, h => by simp [runL] at h
  | .goto .., l, f, h => by simp [runL] at h
  | .ret, l, f, h => by simp [runL] at h
end

/-- The table of functions fits the program. -/
def GoodTable (P : Program) (F : Nat → Option IFn) : Prop := ∀ f fn, F f = some fn → chkF P f fn = true

theorem callD_sound {F : Nat → Option IFn} (hF : GoodTable P F) : ∀ (d : Nat), GoodCall P (callD N F d)
  | 0 => fun f args H r H' h => by simp [callD] at h
  | d + 1 => fun f args H r H' h => by
    simp only [callD] at h
    split at h
    · rename_i fn hf
      split at h
      · rename_i hl
        have hk := hF f fn hf
        have ih := callD_sound hF d
        split at h
        · rename_i hp
          have key : ∀ e s', (e = .normal ∨ e = .ret) → runC N (callD N F d) fn.body ⟨argsFr args 0, [], []⟩ = some (e, s') → ((resL s' fn.res).bind fun xs => if isPureT (tupOf xs) then some (tupOf xs, H) else none) = some (r, H') → ACall P f args H r H' := by
            intro e s' he hrun hres
            cases hr : resL s' fn.res with
            | none => simp [hr] at hres
            | some xs =>
              simp only [hr, Option.bind_some] at hres
              split at hres
              · rename_i hpt
                simp only [Option.some.injEq, Prod.mk.injEq] at hres
                obtain ⟨rfl, rfl⟩ := hres
                refine PCall.frame (pcall_of hk hl hp ((runC_sound ih fn.body _ e s' hrun).mono fun e2 s2 ⟨h2, h3⟩ => ?_) hpt) H
                subst h2 h3
                rcases he with rfl | rfl
                · exact ⟨xs, hr, rfl⟩
                · exact ⟨xs, hr, rfl⟩
              · cases hres
          split at h
          · rename_i s' hrun; exact key _ s' (.inl rfl) hrun h
          · rename_i s' hrun; exact key _ s' (.inr rfl) hrun h
          · cases h
        · split at h
          · rename_i hno
            have key : ∀ e s', (e = .normal ∨ e = .ret) → runC N (callD N F d) fn.body ⟨argsFr args 0, [], H⟩ = some (e, s') → ((rawL s' fn.res).bind fun xs => if noLoc (tupOf xs) then some (tupOf xs, s'.H) else none) = some (r, H') → ACall P f args H r H' := by
              intro e s' he hrun hres
              cases hr : rawL s' fn.res with
              | none => simp [hr] at hres
              | some xs =>
                simp only [hr, Option.bind_some] at hres
                split at hres
                · rename_i hpt
                  simp only [Option.some.injEq, Prod.mk.injEq] at hres
                  obtain ⟨rfl, rfl⟩ := hres
                  refine acall_of hk hl hno hpt ((runC_sound ih fn.body _ e s' hrun).mono fun e2 s2 ⟨h2, h3⟩ => ?_)
                  subst h2 h3
                  rcases he with rfl | rfl
                  · exact ⟨xs, hr, rfl, rfl⟩
                  · exact ⟨xs, hr, rfl, rfl⟩
                · cases hres
            split at h
            · rename_i s' hrun; exact key _ s' (.inl rfl) hrun h
            · rename_i s' hrun; exact key _ s' (.inr rfl) hrun h
            · cases h
          · cases h
      · cases h
    · cases h

def look : List (Nat × IFn) → Nat → Option IFn
  | [], _ => none
  | (k, F) :: r, f => if k = f then some F else look r f

def AllChk (P : Program) : List (Nat × IFn) → Prop
  | [] => True
  | (k, F) :: r => chkF P k F = true ∧ AllChk P r

theorem good_of : ∀ {l : List (Nat × IFn)}, AllChk P l → GoodTable P (look l)
  | [], _, f, fn, h => by simp [look] at h
  | (k, F) :: r, hl, f, fn, h => by
    simp only [AllChk] at hl
    simp only [look] at h
    split at h
    · rename_i e
      simp only [Option.some.injEq] at h
      subst e h
      exact hl.1
    · exact good_of hl.2 f fn h

/-- A closed call, by computation. -/
theorem pcall_run {F : Nat → Option IFn} (hF : GoodTable P F) (N d : Nat) {f : Nat} {args : List AV} {r : AV} (h : callD N F d f args [] = some (r, [])) (hp : arePure args = true) (hr : isPureT r = true) : PCall P f args r :=
  ⟨hr, hp, callD_sound hF d f args [] r [] h⟩
end
end Go.Eng
