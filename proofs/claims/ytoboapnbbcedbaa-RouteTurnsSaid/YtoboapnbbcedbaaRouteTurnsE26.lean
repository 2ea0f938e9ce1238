/- Part of the proof; written by a program out of the texts in wip/. -/
import Derived.Test.YtoboapnbbcedbaaRouteTurnsE25
set_option linter.unusedVariables false
set_option linter.unusedSimpArgs false
namespace Go.Eng
open Go
structure Restr (cE cX cR : Cx) : Prop where
  stay : Stay cX.ok cR.ok cX.w cR.w
  w : cR.w = cX.w
  H : cR.H = cE.H
  pre : ∀ id, id < cE.H.length → cX.H[id]? = cE.H[id]?
  ρ : ∀ id, id < cE.H.length → cR.ρ[id]? = cX.ρ[id]?
theorem get_lt {α : Type} {l : List α} {i : Nat} {x : α} (h : l[i]? = some x) : i < l.length := (List.getElem?_eq_some_iff.1 h).1
theorem blk_w {c c' : Cx} (h : c'.w = c.w) {b : Nat} {vs : Array Value} (hb : c.blk b vs) : c'.blk b vs := by
  obtain ⟨e, hb⟩ := hb
  exact ⟨e, by rw [h]; exact hb⟩
mutual
theorem VR.restr {cE cX cR : Cx} (h : Restr cE cX cR) : ∀ (x : AV) (v0 v : Value), noLoc x = true → VR cE x v0 → VR cX x v → VR cR x v
  | .any, v0, v, _, _, _ => by simp [VR]
  | .p x, v0, v, _, _, hv => by rw [VR] at hv ⊢; exact PR.mono h.stay x v hv
  | .nl x, v0, v, _, _, hv => by rw [VR] at hv ⊢; exact hv
  | .agg cs, v0, v, hn, h0, hv => by
    rw [VR] at h0 hv ⊢
    obtain ⟨vs0, _, h0⟩ := h0
    obtain ⟨vs, e, hv⟩ := hv
    exact ⟨vs, e, VRL.restr h cs vs0 vs (by simpa [noLoc] using hn) h0 hv⟩
  | .tup cs, v0, v, hn, h0, hv => by
    rw [VR] at h0 hv ⊢
    obtain ⟨vs0, _, h0⟩ := h0
    obtain ⟨vs, e, hv⟩ := hv
    exact ⟨vs, e, VRL.restr h cs vs0 vs (by simpa [noLoc] using hn) h0 hv⟩
  | .osl sz id ver off len, v0, v, _, h0, hv => by
    rw [VR] at h0 hv ⊢
    obtain ⟨_, _, _, _, _, hH0, _⟩ := h0
    have hlt := get_lt hH0
    obtain ⟨ver0, frz, rows, b, cap, hH, h1, h2, h3, h4⟩ := hv
    refine ⟨ver0, frz, rows, b, cap, by rw [h.H, ← h.pre id hlt]; exact hH, h1, h2, h3, fun e => ?_⟩
    obtain ⟨vs, a1, a2, a3, a4⟩ := h4 e
    exact ⟨vs, by rw [h.ρ id hlt]; exact a1, a2, blk_w h.w a3, a4⟩
  | .optr sz id ver i off, v0, v, _, h0, hv => by
    rw [VR] at h0 hv ⊢
    obtain ⟨_, _, _, _, hH0, _⟩ := h0
    have hlt := get_lt hH0
    obtain ⟨ver0, frz, rows, b, hH, h1, h2, h4⟩ := hv
    exact ⟨ver0, frz, rows, b, by rw [h.H, ← h.pre id hlt]; exact hH, h1, h2, fun e => by rw [h.ρ id hlt]; exact h4 e⟩
  | .ppt sz rows i off, v0, v, _, _, hv => by
    rw [VR] at hv ⊢
    obtain ⟨a, e, hr⟩ := hv
    exact ⟨a, e, RowsR.mono h.stay sz rows a hr⟩
  | .ptr id off, v0, v, _, h0, hv => by
    rw [VR] at h0 hv ⊢
    obtain ⟨_, _, hH0, _⟩ := h0
    have hlt := get_lt hH0
    obtain ⟨cs, b, h1, h2, h3⟩ := hv
    exact ⟨cs, b, by rw [h.H, ← h.pre id hlt]; exact h1, by rw [h.ρ id hlt]; exact h2, h3⟩
  | .loc t off, v0, v, hn, _, _ => by simp [noLoc] at hn
  | .fn f a b, v0, v, hn, h0, hv => by
    rw [VR] at h0 hv ⊢
    obtain ⟨xs0, ys0, _, a1, a2⟩ := h0
    obtain ⟨xs, ys, e, h1, h2⟩ := hv
    simp only [noLoc, Bool.and_eq_true] at hn
    exact ⟨xs, ys, e, VRL.restr h a xs0 xs hn.1 a1 h1, VRL.restr h b ys0 ys hn.2 a2 h2⟩
  | .map _, v0, v, _, h0, hv => by
    rw [VR] at h0 hv ⊢
    obtain ⟨_, _, _, _, hH0, _⟩ := h0
    have hlt := get_lt hH0
    obtain ⟨L, fr, st, b, h1, h2, h3, h4⟩ := hv
    exact ⟨L, fr, st, b, by rw [h.H, ← h.pre _ hlt]; exact h1, h2, by rw [h.ρ _ hlt]; exact h3, h4⟩
  | .csl _ _, v0, v, _, h0, hv => by
    rw [VR] at h0 hv ⊢
    obtain ⟨_, _, hH0, _⟩ := h0
    have hlt := get_lt hH0
    obtain ⟨cs, b, h1, h2, h3⟩ := hv
    exact ⟨cs, b, by rw [h.H, ← h.pre _ hlt]; exact h1, by rw [h.ρ _ hlt]; exact h2, h3⟩
  | .yl id, v0, v, _, h0, hv => by
    rw [VR] at h0 hv ⊢
    obtain ⟨_, _, _, _, hH0, _⟩ := h0
    have hlt := get_lt hH0
    obtain ⟨L, fr, st, b, h1, h2, h3⟩ := hv
    exact ⟨L, fr, st, b, by rw [h.H, ← h.pre id hlt]; exact h1, by rw [h.ρ id hlt]; exact h2, h3⟩
theorem VRL.restr {cE cX cR : Cx} (h : Restr cE cX cR) : ∀ (xs : List AV) (vs0 vs : List Value), noLocL xs = true → VRL cE xs vs0 → VRL cX xs vs → VRL cR xs vs
  | [], vs0, vs, _, _, hv => by rw [VRL] at hv ⊢; exact hv
  | x :: xs, vs0, vs, hn, h0, hv => by
    rw [VRL] at h0 hv ⊢
    obtain ⟨u0, us0, _, a1, a2⟩ := h0
    obtain ⟨u, us, e, h1, h2⟩ := hv
    simp only [noLocL, noLoc.noLocL, Bool.and_eq_true] at hn
    exact ⟨u, us, e, VR.restr h x u0 u hn.1 a1 h1, VRL.restr h xs us0 us hn.2 a2 h2⟩
end
theorem HoR.restr {cE cX cR : Cx} (h : Restr cE cX cR) {b0 b : Nat} : ∀ {o : HO}, HoR cE b0 o → HoR cX b o → HoR cR b o
  | .arr sz ver frz rows, _, hx => by
    obtain ⟨vs, h1, h2, h3⟩ := hx
    exact ⟨vs, blk_w h.w h1, h2, fun i r hr => let ⟨a1, a2⟩ := h3 i r hr; ⟨a1, fun j x hj => let ⟨u, u1, u2⟩ := a2 j x hj; ⟨u, u1, PR.mono h.stay x u u2⟩⟩⟩
  | .cells cs, h0, hx => by
    obtain ⟨_, vs0, _, a2⟩ := h0
    obtain ⟨h1, vs, h2, h3⟩ := hx
    exact ⟨h1, vs, blk_w h.w h2, VRL.restr h cs _ _ (noLocL_of_okCells h1) a2 h3⟩
  | .lp L fr st, h0, hx => by
    rcases hx with ⟨hm, hx⟩ | ⟨hm, hx⟩
    · obtain ⟨_, _, r0, _, _, _, _, a5, _⟩ := h0.resolve_right fun q => by rw [hm] at q; cases q.1
      obtain ⟨h1, r, h2, h3, h4, h5, h6, h7⟩ := hx
      exact .inl ⟨hm, h1, r, by rw [h.w]; exact h2, h3, h4, h5, fun t => VR.restr h _ _ _ (h1 t) (a5 t) (h6 t), h7⟩
    · obtain ⟨_, h0⟩ := h0.resolve_left fun q => by rw [hm] at q; cases q.1
      cases st with
      | mp ka es =>
        obtain ⟨_, _, ents0, _, _, _, _, a5⟩ := h0
        obtain ⟨h1, hk, ents, clock, h2, h3, h4, h5⟩ := hx
        exact .inr ⟨hm, h1, hk, ents, clock, by rw [h.w]; exact h2, h3, h4, VRL.restr h _ _ _ (noLocL_of_okCells h1) a5 h5⟩
      | _ => exact hx.elim
section
variable {P : Program} {n : Nat} {g : G} {s : St} {a : Act} {w : World}
theorem Rel.names {ok0 : Addr → Prop} {ρ : List Nat} {H Gx : List HO} {w0 : World} (hr0 : HR (k0 ok0 ρ H w0) ρ H w0) (h : Rel (k0 ok0 ρ H w0) n g s a w) (hs : s.H = H ++ Gx) :
    ∀ id, id < H.length → g.ρ[id]? = ρ[id]? := by
  intro id hlt
  have hp : s.H[id]? = H[id]? := by rw [hs, List.getElem?_append_left hlt]
  cases ho : H[id] with
  | arr sz ver frz rows =>
    have e : H[id]? = some (.arr sz ver frz rows) := by rw [List.getElem?_eq_getElem hlt, ho]
    obtain ⟨ver', frz', rows', e', _, hsame⟩ := h.hist.arr id sz ver frz rows e
    have e2 : s.H[id]? = some (.arr sz ver' frz' rows') := e'
    rw [hp, e] at e2
    simp only [Option.some.injEq, HO.arr.injEq] at e2
    exact (hsame e2.2.1.symm).2.1
  | cells cs => exact (h.hist.cells id cs (by show H[id]? = _; rw [List.getElem?_eq_getElem hlt, ho])).2
  | lp L fr st => exact (h.hist.lp id L fr st (by show H[id]? = _; rw [List.getElem?_eq_getElem hlt, ho])).2
theorem Rel.restr {ok0 : Addr → Prop} {ρ : List Nat} {H Gx : List HO} {w0 : World} (hr0 : HR (k0 ok0 ρ H w0) ρ H w0) (h : Rel (k0 ok0 ρ H w0) n g s a w) (hs : s.H = H ++ Gx) :
    Restr (cx (k0 ok0 ρ H w0) ⟨ρ, noB⟩ H w0) (cx (k0 ok0 ρ H w0) g s.H w) (cx (k0 ok0 ρ H w0) ⟨ρ, noB⟩ H w) :=
  have hn := h.names hr0 hs
  { stay := fun A u ho hc => ⟨hc, ho.1, fun t e => (by cases e), fun id e => by
      have hlt : id < H.length := by rw [← hr0.len]; exact get_lt e
      obtain ⟨sz, ver, rows, h1, h2⟩ := ho.2.2 id (by rw [hn id hlt]; exact e)
      exact ⟨sz, ver, rows, by rw [hs, List.getElem?_append_left hlt] at h1; exact h1, h2⟩⟩
    w := rfl
    H := rfl
    pre := fun id hlt => by
      have hlt' : id < H.length := hlt
      show s.H[id]? = H[id]?; rw [hs, List.getElem?_append_left hlt']
    ρ := fun id hlt => (hn id hlt).symm }
theorem Rel.backHR {ok0 : Addr → Prop} {ρ : List Nat} {H Gx : List HO} {w0 : World} (hr0 : HR (k0 ok0 ρ H w0) ρ H w0) (h : Rel (k0 ok0 ρ H w0) n g s a w) (hs : s.H = H ++ Gx) :
    HR (k0 ok0 ρ H w0) ρ H w ∧ Later (cx (k0 ok0 ρ H w0) ⟨ρ, noB⟩ H w0) (cx (k0 ok0 ρ H w0) ⟨ρ, noB⟩ H w) := by
  have hR := h.restr hr0 hs
  have hn := h.names hr0 hs
  have hp : ∀ id, id < H.length → s.H[id]? = H[id]? := fun id hlt => by rw [hs, List.getElem?_append_left hlt]
  refine ⟨{ heap := fun id o e => ?_, len := hr0.len, inj := hr0.inj, own := hr0.own, keep := h.keep }, ?_⟩
  · have hlt := get_lt e
    obtain ⟨b0, _, hb0⟩ := hr0.heap id o e
    obtain ⟨b, hb, hx⟩ := h.heap id o (by rw [hp id hlt]; exact e)
    exact ⟨b, by rw [← hn id hlt]; exact hb, HoR.restr hR hb0 hx⟩
  · have hh := h.hist
    exact
      { stay := fun A u ho hc => let ⟨h1, h2⟩ := hh.stay A u ho hc; hR.stay A u h2 h1
        arr := fun id sz ver frz rows e => by
          have e' : H[id]? = some (.arr sz ver frz rows) := e
          have hlt := get_lt e'
          refine ⟨ver, frz, rows, e, Nat.le_refl _, fun _ => ⟨Nat.le_refl _, rfl, fun b vs hb hblk => ?_⟩⟩
          obtain ⟨ver', frz', rows', e2, _, hsame⟩ := hh.arr id sz ver frz rows e
          have e3 : s.H[id]? = some (.arr sz ver' frz' rows') := e2
          rw [hp id hlt, e'] at e3
          simp only [Option.some.injEq, HO.arr.injEq] at e3
          obtain ⟨_, _, h3⟩ := hsame e3.2.1.symm
          obtain ⟨vs', h4, h5⟩ := h3 b vs hb hblk
          exact ⟨vs', blk_w rfl h4, h5⟩
        cells := fun id cs e => ⟨⟨cs, e⟩, rfl⟩
        lp := fun _ _ _ st e => ⟨⟨st, e⟩, rfl⟩ }
theorem pure1_soundH {ok0 : Addr → Prop} {ρ : List Nat} {H Gx : List HO} {w0 : World} (hr0 : HR (k0 ok0 ρ H w0) ρ H w0) (h : Rel (k0 ok0 ρ H w0) n g s a w) (hs0 : s.H = H ++ Gx) {x r : AV} {v : Value}
    (hid : ∀ sz id ver off len, x = .osl sz id ver off len → H.length ≤ id) (hp : pure1 s.H x = some r) (hv : VR (cx (k0 ok0 ρ H w0) g s.H w) x v) :
    VR (cx (k0 ok0 ρ H w0) ⟨ρ, noB⟩ H w) r v ∧ isPure1 r = true := by
  have hst := (h.restr hr0 hs0).stay
  unfold pure1 at hp
  split at hp
  · simp only [Option.some.injEq] at hp
    subst hp
    exact ⟨VR.weak1 (VR_pure1 hst rfl hv), rfl⟩
  · simp only [Option.some.injEq] at hp
    subst hp
    exact ⟨VR_pure1 hst rfl hv, rfl⟩
  · rename_i sz id ver off len
    have hge := hid _ _ _ _ _ rfl
    split at hp
    · rename_i sz' ver' frz rows hH
      split at hp
      · rename_i hcond
        obtain ⟨rfl, rfl⟩ := hcond
        cases hs : sub off len rows with
        | none => simp [hs] at hp
        | some r0 =>
          simp only [hs, Option.map_some, Option.some.injEq] at hp
          subst hp
          refine ⟨?_, rfl⟩
          obtain ⟨h1, hl, hv2, _⟩ := frz1_sound (x := .osl sz' id ver' off len) (x' := .p (.sl sz' false r0)) (H' := s.H.set id (.arr sz' ver' true rows)) h (by simp [frz1, hH, hs]) hv
          have hs1 : s.H.set id (.arr sz' ver' true rows) = H ++ Gx.set (id - H.length) (.arr sz' ver' true rows) := by rw [hs0, List.set_append_right _ _ hge]
          exact VR_pure1 (h1.restr hr0 hs1).stay rfl hv2
      · cases hp
    · cases hp
  · cases hp
def newV (m : Nat) : AV → Bool
  | .osl _ id _ _ _ => decide (m ≤ id)
  | _ => true
def newVL (m : Nat) : List AV → Bool
  | [] => true
  | c :: cs => newV m c && newVL m cs
def newR (m : Nat) : AV → Bool
  | .agg cs => newVL m cs
  | v => newV m v
theorem pureL_soundH {ok0 : Addr → Prop} {ρ : List Nat} {H Gx : List HO} {w0 : World} (hr0 : HR (k0 ok0 ρ H w0) ρ H w0) (h : Rel (k0 ok0 ρ H w0) n g s a w) (hs0 : s.H = H ++ Gx) : ∀ {xs rs : List AV} {vs : List Value},
    newVL H.length xs = true → pureL s.H xs = some rs → VRL (cx (k0 ok0 ρ H w0) g s.H w) xs vs → VRL (cx (k0 ok0 ρ H w0) ⟨ρ, noB⟩ H w) rs vs ∧ isPureL rs = true
  | [], rs, vs, _, hp, hv => by
    simp only [pureL, Option.some.injEq] at hp
    subst hp
    rw [VRL] at hv ⊢
    exact ⟨hv, rfl⟩
  | x :: xs, rs, vs, hn, hp, hv => by
    simp only [pureL] at hp
    simp only [newVL, Bool.and_eq_true] at hn
    cases h1 : pure1 s.H x with
    | none => simp [h1] at hp
    | some y =>
      simp only [h1, Option.bind_some] at hp
      cases h2 : pureL s.H xs with
      | none => simp [h2] at hp
      | some ys =>
        simp only [h2, Option.map_some, Option.some.injEq] at hp
        subst hp
        rw [VRL] at hv
        obtain ⟨u, us, rfl, v1, v2⟩ := hv
        obtain ⟨a1, a2⟩ := pure1_soundH hr0 h hs0 (fun sz id ver off len e => by subst e; simpa [newV] using hn.1) h1 v1
        obtain ⟨b1, b2⟩ := pureL_soundH hr0 h hs0 hn.2 h2 v2
        exact ⟨by rw [VRL]; exact ⟨u, us, rfl, a1, b1⟩, by simp [isPureL, a2, b2]⟩
theorem pureV_soundH {ok0 : Addr → Prop} {ρ : List Nat} {H Gx : List HO} {w0 : World} (hr0 : HR (k0 ok0 ρ H w0) ρ H w0) (h : Rel (k0 ok0 ρ H w0) n g s a w) (hs0 : s.H = H ++ Gx) {x r : AV} {v : Value}
    (hn : newR H.length x = true) (hp : pureV s.H x = some r) (hv : VR (cx (k0 ok0 ρ H w0) g s.H w) x v) : VR (cx (k0 ok0 ρ H w0) ⟨ρ, noB⟩ H w) r v ∧ isPure r = true := by
  unfold pureV at hp
  split at hp
  · rename_i cs
    cases h1 : pureL s.H cs with
    | none => simp [h1] at hp
    | some rs =>
      simp only [h1, Option.map_some, Option.some.injEq] at hp
      subst hp
      rw [VR] at hv
      obtain ⟨vs, rfl, hv⟩ := hv
      obtain ⟨a1, a2⟩ := pureL_soundH hr0 h hs0 (by simpa [newR] using hn) h1 hv
      exact ⟨by rw [VR]; exact ⟨vs, rfl, a1⟩, by simpa [isPure] using a2⟩
  · rename_i hna
    have hn' : newV H.length x = true := by
      unfold newR at hn
      split at hn
      · rename_i cs; exact absurd rfl (hna cs)
      · exact hn
    obtain ⟨a1, a2⟩ := pure1_soundH hr0 h hs0 (fun sz id ver off len e => by subst e; simpa [newV] using hn') hp hv
    refine ⟨a1, ?_⟩
    cases r <;> simp_all [isPure, isPure1]
def pureR (m : Nat) (s : St) : List RV → Option (List AV)
  | [] => some []
  | r :: rs => (rawV s r).bind fun y => if newR m y then (pureV s.H y).bind fun x => (pureR m s rs).map (x :: ·) else none
theorem pureR_raw {m : Nat} : ∀ {is : List RV} {rs : List AV}, pureR m s is = some rs → ∃ xs, rawL s is = some xs ∧ xs.length = rs.length ∧ ∀ (j : Nat) x r, xs[j]? = some x → rs[j]? = some r → newR m x = true ∧ pureV s.H x = some r
  | [], rs, h => by simp only [pureR, Option.some.injEq] at h; subst h; exact ⟨[], rfl, rfl, by simp⟩
  | i :: is, rs, h => by
    simp only [pureR] at h
    cases h1 : rawV s i with
    | none => simp [h1] at h
    | some y =>
      simp only [h1, Option.bind_some] at h
      split at h
      · rename_i hn
        cases h2 : pureV s.H y with
        | none => simp [h2] at h
        | some z =>
          simp only [h2, Option.bind_some] at h
          cases h3 : pureR m s is with
          | none => simp [h3] at h
          | some zs =>
            simp only [h3, Option.map_some, Option.some.injEq] at h
            subst h
            obtain ⟨xs, a1, a2, a3⟩ := pureR_raw h3
            refine ⟨y :: xs, by simp [rawL, h1, a1], by simp [a2], fun j x' r' hx hr => ?_⟩
            cases j with
            | zero => simp at hx hr; subst hx hr; exact ⟨hn, h2⟩
            | succ j => exact a3 j x' r' (by simpa using hx) (by simpa using hr)
      · cases h
theorem acall_res {f : Nat} {F : IFn} (hk : chkF P f F = true) {args : List AV} {H : List HO} {r : AV} (hl : args.length = F.nargs) (hno : noLocL args = true) (hpr : isPureT r = true)
    (h : EvI P F.nt F.body ⟨argsFr args 0, [], H⟩ (endQ fun s' => ∃ xs, pureR H.length s' F.res = some xs ∧ tupOf xs = r ∧ ∃ Gx, s'.H = H ++ Gx)) : ACall P f args H r H := by
  unfold chkF at hk
  split at hk
  · rename_i fn hf
    split at hk
    · rename_i c hb
      simp only [Bool.and_eq_true, decide_eq_true_eq, Bool.not_eq_true'] at hk
      obtain ⟨⟨⟨⟨hc, hres⟩, hna⟩, hnt⟩, hname⟩ := hk
      have hnr : noLoc r = true := by
        cases r with
        | tup vs => simpa [noLoc] using noLocL_arePure (by simpa [isPureT] using hpr)
        | _ => exact noLoc_pure (by simpa [isPureT] using hpr)
      refine ⟨⟨fn, hf, by rw [hb]; rfl, hname⟩, hnr, fun ok0 ρ w vs hhr hv => ?_⟩
      have hrel := entry_rel (n := fn.ntmps) hhr hv hno (by omega)
      refine calls_FR (r := none) (m := 0) (callsIn_of_wp_marks hf hb trivial (wpIn_mono (h c (by rw [← hnt]; exact hc) _ _ _ _ (by rw [← hnt]; exact hrel)) ?_))
      rintro e a' w' ⟨s', g', h1, h2⟩
      have key : (∃ xs, pureR H.length s' F.res = some xs ∧ tupOf xs = r ∧ ∃ Gx, s'.H = H ++ Gx) → LeavesInM (FR none) 0 P fn a'.tmps (fun e w' => ∃ v' ρ', e = .returned v' ∧ HR (k0 ok0 ρ H w) ρ' H w' ∧ VR (cx (k0 ok0 ρ H w) ⟨ρ', noB⟩ H w') r v' ∧
          Later (cx (k0 ok0 ρ H w) ⟨ρ, noB⟩ H w) (cx (k0 ok0 ρ H w) ⟨ρ', noB⟩ H w')) a'.defers .returning w' := by
        rintro ⟨rs, x1, rfl, Gx, hs⟩
        obtain ⟨xs, y1, y2, y3⟩ := pureR_raw x1
        refine h1.leavesAll fun w2 h2' => ?_
        obtain ⟨us, h3, h4⟩ := raw_sound (P := P) h2' hres y1
        obtain ⟨k1, k2⟩ := h2'.backHR hhr hs
        have h5 : VRL (cx (k0 ok0 ρ H w) ⟨ρ, noB⟩ H w2) rs us := by
          rw [VRL_iff] at h4 ⊢
          refine ⟨by omega, fun j r u hr hu => ?_⟩
          have hjl : j < xs.length := by rw [y2]; exact (List.getElem?_eq_some_iff.1 hr).1
          have hx := List.getElem?_eq_getElem hjl
          obtain ⟨z1, z2⟩ := y3 j _ r hx hr
          exact (pureV_soundH hhr h2' hs z1 z2 (h4.2 j _ u hx hu)).1
        refine ⟨_, ?_, _, ρ, rfl, k1, tupOf_VR h5, k2⟩
        rw [results_eq]
        have hm : (fn.results.mapM (m := Sem) (resF a'.tmps)).run P w2 = .ok us.toArray w2 := by
          rw [← Array.toArray_toList (xs := fn.results), List.mapM_toArray, Sem.run_map, h3]
          rfl
        simp only [Sem.run_bind, hm, Result.andThen_ok, Sem.run_pure]
      cases e with
      | normal => exact key h2
      | ret => exact key h2
      | _ => exact h2.elim
    · cases hk
  · cases hk
theorem Fp.grown {H H' : List HO} {f0 f1 : List Thing} (hf : Fp H H' f0 f1) (h0 : HP H f0) (hc : ∀ i ∈ f0, ∃ id cs, i = .cel id cs) (hin : ∀ i ∈ f0, i ∈ f1) : ∃ Gx, H' = H ++ Gx := by
  refine ⟨H'.drop H.length, ?_⟩
  have : H'.take H.length = H := by
    apply List.ext_getElem?
    intro j
    rw [List.getElem?_take]
    split
    · rename_i hj
      by_cases hn : ∀ i ∈ f0, ¬ Occ i j
      · exact hf.same j hj hn
      · simp only [Classical.not_forall, Classical.not_not] at hn
        obtain ⟨i, hi, ho⟩ := hn
        obtain ⟨id, cs, rfl⟩ := hc i hi
        obtain rfl : id = j := ho
        have e1 : H[id]? = some (.cells cs) := h0.lies _ hi
        have e2 : H'[id]? = some (.cells cs) := hf.now.lies _ (hin _ hi)
        rw [e1, e2]
    · rename_i hj
      rw [List.getElem?_eq_none (by omega)]
  conv => lhs; rw [← List.take_append_drop H.length H', this]
end
end Go.Eng

