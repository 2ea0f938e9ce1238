/- Changes of gate lists: what is kept, and what fitting means. -/
import Derived.Test.YtpadgoejolfllaaSwa3
namespace Go.Sh
open Go Go.Eng
set_option linter.unusedVariables false
set_option linter.unusedSimpArgs false

theorem law29_mask_eq {N : Nat} (hN : 200 ≤ N) {c : api_Change} {t : Int} (h : VC c) (ht : tm t) : law29_mask N c t = some (cAt c t) := by
  unfold law29_mask
  rw [swap_Mask_eq hN, if_pos h, if_pos ht]
  simp

theorem law29_fits_eq {N : Nat} (hN : 200 ≤ N) {c : api_Change} {cl t l : Int} (h : VC c) (hc : 0 ≤ cl ∧ cl ≤ 7) (ht : tm t) (hl : 0 ≤ l ∧ l ≤ 4 * c.Oper.Cycle) : ∃ b, law29_fits N c cl t l = some b ∧ (b = true ↔ FitsC c cl t l) := by
  obtain ⟨b, e1, e2⟩ := swap_fits_ok hN h hc ht hl
  refine ⟨b, ?_, e2⟩
  unfold law29_fits
  rw [e1]
  simp

/-- Advancing changes no mask from then on. -/
theorem cAt_later {c : api_Change} {now t : Int} (h : now ≤ t) : cAt (later c now) t = cAt c t := by
  unfold later
  split
  · rename_i hc
    have e : cAt c t = mAt c.Admin.Entries (t - c.When) := by unfold cAt; rw [if_pos ⟨hc.1, by omega⟩]
    rw [e]
    unfold cAt
    simp
  · rfl

theorem swapKeeps_true (d : ref29_Draft) (l : ref27_Draft) (now base t : Int) (hd : Rg_ref29_Draft d) (hl : Rg_ref27_Draft l) (hn : InK .i16 now) (hb : InK .i16 base) (ht : InK .u16 t) : ∃ N, law29_SwapKeeps N d l now base t = some true := by
  refine ⟨40000000, ?_⟩
  obtain ⟨c, hc, hv, q1, q2, q3, q4⟩ := change_ex (N := 40000000) (by decide) hd
  obtain ⟨g, hg, g2, g3, g4⟩ := draft_gates (N := 40000000) (by decide) hl
  have hgc := small_cycle g2 g3 g4
  have hn := hn.i16
  have hb := hb.i16
  have ht : 0 ≤ t ∧ t ≤ 65535 := ht.u16
  unfold law29_SwapKeeps
  have en : w64 now = now := w64_id (by omega) (by omega)
  have eb : w64 base = base := w64_id (by omega) (by omega)
  have et : w64 t = t := w64_id (by omega) (by omega)
  have ent : w64 (now + t) = now + t := w64_id (by omega) (by omega)
  simp only [works29, Option.bind_some, Bool.not_true, Bool.false_eq_true, if_false, hc, hg, en, eb, et, ent]
  have htn : tm now := by unfold tm; omega
  have htb : tm base := by unfold tm; omega
  have hv' := later_VC hv now
  have hlo : (later c now).Oper.Cycle ≤ 320 ∧ -100000 ≤ (later c now).Base ∧ (later c now).Base ≤ 100000 := by
    unfold later
    split
    · rename_i h; exact ⟨q4 h.1, q3⟩
    · exact ⟨q1, by omega, by omega⟩
  have hcy := hv'.1.cyc
  rw [(adv_same (by decide) c now).1, (set_same (by decide) c now g base).1]
  simp only [hv, htn, htb, g2, if_true, Option.bind_some]
  generalize hm : (if base > now then base else now) = m
  have hm2 : -32768 ≤ m ∧ m ≤ 32767 ∧ now ≤ m ∧ base ≤ m := by rw [← hm]; split <;> omega
  have hd0 := Int.emod_nonneg ((later c now).Base - m) (show (later c now).Oper.Cycle ≠ 0 by omega)
  have hd1 := Int.emod_lt_of_pos ((later c now).Base - m) (show 0 < (later c now).Oper.Cycle by omega)
  have hW : whenOf (later c now) m = m + ((later c now).Base - m) % (later c now).Oper.Cycle := rfl
  have hWB : (whenOf (later c now) m - (later c now).Base) % (later c now).Oper.Cycle = 0 := by
    rw [hW]
    have h1 := Int.mul_ediv_add_emod ((later c now).Base - m) (later c now).Oper.Cycle
    rw [show m + ((later c now).Base - m) % (later c now).Oper.Cycle - (later c now).Base = (later c now).Oper.Cycle * (-(((later c now).Base - m) / (later c now).Oper.Cycle)) by rw [Int.mul_neg]; omega]
    exact Int.mul_emod_right _ _
  generalize hWe : whenOf (later c now) m = W at *
  generalize hA : later c now = a at *
  have hvb : VC (api_Change.mk a.Oper a.Base true g W) := ⟨hv'.1, hv'.2.1, by simp only [if_true]; exact ⟨g2, by omega, by omega, hWB⟩⟩
  have hvr : VC (api_Change.mk a.Oper a.Base false (api_Gates.mk [] 0) 0) := ⟨hv'.1, hv'.2.1, by simp⟩
  have hvf : VC (api_Change.mk g 0 false (api_Gates.mk [] 0) 0) := ⟨g2, by unfold tm; simp, by simp⟩
  have hat : tm (now + t) := by unfold tm; omega
  rw [swap_Check_eq (by decide), swap_Check_eq (by decide), if_pos hv', if_pos hvb]
  simp only [bne_self_eq_false, Bool.false_eq_true, if_false, Option.bind_some, Bool.not_true]
  rw [law29_mask_eq (by decide) hv' hat, law29_mask_eq (by decide) hv hat, law29_mask_eq (by decide) hvb hat, law29_mask_eq (by decide) hvr hat]
  have e1 : cAt a (now + t) = cAt c (now + t) := by rw [← hA]; exact cAt_later (by omega)
  have hr0 := (cAt_bounds hv (now + t)).1
  simp only [e1, Option.bind_some, beq_self_eq_true, if_true, decide_eq_true hr0]
  have hif : ∀ (x : Option Bool), x = some true → (x.bind fun j => some j) = some true := fun x h => by rw [h]; rfl
  have hjoin : (if decide (now + t < W) = true then (if (cAt (api_Change.mk a.Oper a.Base true g W) (now + t) == cAt (api_Change.mk a.Oper a.Base false (api_Gates.mk [] 0) 0) (now + t)) = true then some true else some false) else some true) = some true := by
    by_cases hlt : now + t < W
    · have e2 : cAt (api_Change.mk a.Oper a.Base true g W) (now + t) = cAt (api_Change.mk a.Oper a.Base false (api_Gates.mk [] 0) 0) (now + t) := by
        unfold cAt
        simp only
        rw [if_neg (by omega), if_neg (by simp)]
      rw [if_pos (by simp [hlt]), e2]
      simp
    · rw [if_neg (by simp [hlt])]
  have hj2 : ((if decide (now + t < W) = true then ((if (cAt (api_Change.mk a.Oper a.Base true g W) (now + t) == cAt (api_Change.mk a.Oper a.Base false (api_Gates.mk [] 0) 0) (now + t)) = true then some true else some false).bind fun j => some j) else some true)) = some true := by
    by_cases hlt : now + t < W
    · rw [if_pos (by simp [hlt])] at hjoin ⊢
      rw [hjoin]; rfl
    · rw [if_neg (by simp [hlt])]
  rw [hj2, Option.bind_some]
  have h2g : w64 (2 * g.Cycle) = 2 * g.Cycle := w64_id (by omega) (by omega)
  rw [h2g, remI_pos (by omega), Option.bind_some]
  have hon0 : 0 ≤ t.tmod (2 * g.Cycle) := Int.tmod_nonneg _ (by omega)
  have hon1 : t.tmod (2 * g.Cycle) < 2 * g.Cycle := Int.tmod_lt_of_pos _ (by omega)
  generalize t.tmod (2 * g.Cycle) = on at *
  simp only [if_true]
  rw [if_pos (by simp; omega), w64_id (x := W - a.Oper.Cycle) (by omega) (by omega), if_pos (by simp; omega), w64_id (x := W - a.Base) (by omega) (by omega), remI_pos (by omega), Option.bind_some, (tmod_zero (by omega)).2 hWB]
  simp only [beq_self_eq_true, if_true]
  rw [w64_id (x := W + on) (by omega) (by omega), law29_mask_eq (by decide) hvb (by unfold tm; omega), law29_mask_eq (by decide) hvf (by unfold tm; omega)]
  simp only [Option.bind_some]
  congr 1
  rw [beq_iff_eq]
  unfold cAt
  simp only
  rw [if_pos ⟨trivial, by omega⟩, if_neg (by simp)]
  congr 1
  omega

theorem bits_loop {N : Nat} (hN : 200 ≤ N) {c : api_Change} (hv : VC c) {k at_ n : Int} (hk : 0 ≤ k ∧ k ≤ 7) (hat : -1000000 ≤ at_ ∧ at_ ≤ 1000000) (hn : 0 ≤ n ∧ n ≤ 60) (body : Bool × Int → Option ((Bool × Int) ⊕ ((Bool × Int) ⊕ Bool)))
    (hb : ∀ b i, body (b, i) = (if (decide (i < n)) = true then ((law29_mask N c (w64 (at_ + i))).bind fun r => (if (decide (r < 0)) = true then (some (.inr (.inr false))) else (((if b = true then ((shrI .i64 r (IntKind.u64.wrap k)).bind fun sh => (if ((andI .i64 sh 1) == 1) = true then (some true) else (some false))) else (some false))).bind fun (j : Bool) =>
      (some (.inl (j, (w64 (i + 1)))))))) else (some (.inr (.inl (b, i)))))) (hM : 100 < N) :
    ∃ b i, iterF body N (true, 0) = some (.inl (b, i)) ∧ (b = true ↔ FitsC c k at_ n) := by
  obtain ⟨r, h1, h2⟩ := iterF_of (body := body) (fun x => 0 ≤ x.2 ∧ x.2 ≤ n ∧ (x.1 = true ↔ FitsC c k at_ x.2)) (fun x => (n - x.2).toNat) (fun r => ∃ b i, r = .inl (b, i) ∧ (b = true ↔ FitsC c k at_ n)) (fun x hx => by
    obtain ⟨b, i⟩ := x
    obtain ⟨i0, i1, ib⟩ := hx
    simp only at i0 i1 ib ⊢
    rw [hb]
    by_cases hi : i < n
    · left
      have hrg := cAt_bounds hv (at_ + i)
      rw [if_pos (by simp [hi]), w64_id (x := at_ + i) (by omega) (by omega), law29_mask_eq hN hv (by unfold tm; omega), Option.bind_some, if_neg (by simp; omega), w64_id (x := i + 1) (by omega) (by omega)]
      obtain ⟨s, s1, s2⟩ := bit_one hrg hk
      have hstep : FitsC c k at_ (i + 1) ↔ FitsC c k at_ i ∧ bitB k (cAt c (at_ + i)) = true := by
        constructor
        · intro h; exact ⟨fun q q0 q1 => h q q0 (by omega), h i i0 (by omega)⟩
        · rintro ⟨h, h'⟩ q q0 q1
          by_cases hq : q < i
          · exact h q q0 hq
          · have : q = i := by omega
            rw [this]; exact h'
      cases b with
      | true =>
        simp only [if_true]
        rw [s1, Option.bind_some, s2]
        cases hbb : bitB k (cAt c (at_ + i)) with
        | true => exact ⟨(true, i + 1), by simp, ⟨by simp only; omega, by simp only; omega, by rw [hstep, hbb]; simpa using ib⟩, by simp only; omega⟩
        | false => exact ⟨(false, i + 1), by simp, ⟨by simp only; omega, by simp only; omega, by simp [hstep, hbb]⟩, by simp only; omega⟩
      | false =>
        simp only [Bool.false_eq_true, if_false, Option.bind_some]
        refine ⟨(false, i + 1), rfl, ⟨by simp only; omega, by simp only; omega, ?_⟩, by simp only; omega⟩
        simp only [Bool.false_eq_true, false_iff] at ib ⊢
        rw [hstep]
        exact fun h => ib h.1
    · right
      have : i = n := by omega
      subst this
      rw [if_neg (by simp)]
      exact ⟨_, rfl, b, i, rfl, ib⟩) N (true, 0) ⟨by simp, hn.1, by simp only [true_iff]; exact fun q q0 q1 => by omega⟩ (by simp only; omega)
  obtain ⟨b, i, rfl, h3⟩ := h2
  exact ⟨b, i, h1, h3⟩

/-- What is said of one time. -/
theorem means_one {N : Nat} (hN : 200 ≤ N) {c : api_Change} (hv : VC c) {k at_ n : Int} (hk : 0 ≤ k ∧ k ≤ 7) (hat : -1000000 ≤ at_ ∧ at_ ≤ 1000000) (hn : 0 ≤ n ∧ n ≤ 60) (hn2 : n ≤ 4 * c.Oper.Cycle) {p : Bool} (hp : p = true ↔ FitsC c k at_ n) :
    ((swap_Advance N c at_).bind fun r => ((if (r.2 != 0) = true then (some true) else ((law29_fits N c k at_ n).bind fun r1 => (if (r1 != p) = true then (some true) else (if (decide (n ≤ (w64 (4 * r.1.Oper.Cycle)))) = true then ((law29_fits N r.1 k at_ n).bind fun r2 => (some (r2 != p))) else (some false))))))) = some false := by
  have hta : tm at_ := by unfold tm; omega
  rw [(adv_same hN c at_).1, if_pos hv, if_pos hta, Option.bind_some]
  simp only [bne_self_eq_false, Bool.false_eq_true, if_false]
  obtain ⟨b, e1, e2⟩ := law29_fits_eq hN hv hk hta ⟨hn.1, hn2⟩
  have hbp : b = p := by rw [Bool.eq_iff_iff, e2, hp]
  have hv' := later_VC hv at_
  have hcy := hv'.1.cyc
  rw [e1, Option.bind_some, hbp]
  simp only [bne_self_eq_false, Bool.false_eq_true, if_false]
  rw [w64_id (by omega) (by omega)]
  by_cases hle : n ≤ 4 * (later c at_).Oper.Cycle
  · obtain ⟨b2, f1, f2⟩ := law29_fits_eq hN hv' hk hta ⟨hn.1, hle⟩
    have hbp2 : b2 = p := by
      rw [Bool.eq_iff_iff, f2, hp]
      exact forall_congr' fun q => imp_congr_right fun q0 => imp_congr_right fun q1 => by rw [cAt_later (by omega)]
    rw [if_pos (by simp [hle]), f1, Option.bind_some, hbp2]
    simp
  · rw [if_neg (by simp [hle])]

theorem swapMeans_true (d : ref29_Draft) (cl t near long : Int) (hd : Rg_ref29_Draft d) (hcl : InK .u8 cl) (ht : InK .i16 t) (hne : InK .u8 near) (hlo : InK .u8 long) : ∃ N, law29_SwapMeans N d cl t near long = some true := by
  refine ⟨40000000, ?_⟩
  obtain ⟨c, hc, hv, q1, q2, q3, q4⟩ := change_ex (N := 40000000) (by decide) hd
  have ht := ht.i16
  have hne := hne.u8
  have hlo := hlo.u8
  have hk := mod8 hcl.u8
  have hcy := hv.1.cyc
  unfold law29_SwapMeans
  simp only [works29, Option.bind_some, Bool.not_true, Bool.false_eq_true, if_false, hc]
  have et : w64 t = t := w64_id (by omega) (by omega)
  have hl0 : 0 ≤ long.tmod 60 := Int.tmod_nonneg _ (by omega)
  have hl1 : long.tmod 60 < 60 := Int.tmod_lt_of_pos _ (by omega)
  have hr0 : 0 ≤ near.tmod 40 := Int.tmod_nonneg _ (by omega)
  have hr1 : near.tmod 40 < 40 := Int.tmod_lt_of_pos _ (by omega)
  have e1 : w64 (long.tmod 60) = long.tmod 60 := w64_id (by omega) (by omega)
  have e2 : w64 (near.tmod 40) = near.tmod 40 := w64_id (by omega) (by omega)
  have e3 : w64 (4 * c.Oper.Cycle) = 4 * c.Oper.Cycle := w64_id (by omega) (by omega)
  have e4 : w64 (c.When - near.tmod 40) = c.When - near.tmod 40 := w64_id (by omega) (by omega)
  simp only [et, e1, e2, e3, e4]
  generalize hnn : (if 4 * c.Oper.Cycle < long.tmod 60 then 4 * c.Oper.Cycle else long.tmod 60) = n
  have hn : 0 ≤ n ∧ n ≤ 60 ∧ n ≤ 4 * c.Oper.Cycle := by rw [← hnn]; split <;> omega
  obtain ⟨b, i, l1, l2⟩ := bits_loop (N := 40000000) (by decide) hv (k := w64 (cl.tmod 8)) (at_ := t) (n := n) hk (by omega) ⟨hn.1, hn.2.1⟩ (fun x => law29_SwapMeans_L1 40000000 cl t long c x.1 x.2) (fun b i => by
    unfold law29_SwapMeans_L1
    simp only [et, e1, e3, hnn]) (by decide)
  obtain ⟨b', i', m1, m2⟩ := bits_loop (N := 40000000) (by decide) hv (k := w64 (cl.tmod 8)) (at_ := c.When - near.tmod 40) (n := n) hk (by omega) ⟨hn.1, hn.2.1⟩ (fun x => law29_SwapMeans_L2 40000000 cl near long c x.1 x.2) (fun b i => by
    unfold law29_SwapMeans_L2
    simp only [e1, e2, e3, e4, hnn]) (by decide)
  rw [l1, Option.bind_some]
  simp only
  have A := means_one (N := 40000000) (by decide) hv (k := w64 (cl.tmod 8)) (at_ := t) (n := n) hk (by omega) ⟨hn.1, hn.2.1⟩ hn.2.2 l2
  have B := means_one (N := 40000000) (by decide) hv (k := w64 (cl.tmod 8)) (at_ := c.When - near.tmod 40) (n := n) hk (by omega) ⟨hn.1, hn.2.1⟩ hn.2.2 m2
  have key : ∀ {X : Option (api_Change × Int)} {F : api_Change × Int → Option Bool} {G : Option Bool}, X.bind F = some false → (X.bind fun r => (F r).bind fun j => if j = true then some false else G) = G := by
    intro X F G h
    cases X with
    | none => cases h
    | some r =>
      simp only [Option.bind_some] at h ⊢
      rw [h]
      simp
  rw [key A, m1, Option.bind_some]
  simp only
  rw [key B]
end Go.Sh
