/- Changes of gate lists: masks and fitting. -/
import Derived.Test.YtpadgoejolfllaaSwa1
namespace Go.Sh
open Go Go.Eng
set_option linter.unusedVariables false
set_option linter.unusedSimpArgs false

/-- The mask at a time. -/
noncomputable def cAt (c : api_Change) (t : Int) : Int := if c.Pending = true ∧ c.When ≤ t then mAt c.Admin.Entries (t - c.When) else mAt c.Oper.Entries (t - c.Base)

theorem mAt_mod {g : api_Gates} (hg : VG g) (x k : Int) : mAt g.Entries (x % g.Cycle + k) = mAt g.Entries (x + k) := by
  have h := mAt_period hg.ok hg.1 (x + k) (-(x / g.Cycle))
  rw [hg.2.2.2.1] at h
  rw [← h]
  congr 1
  have := Int.mul_ediv_add_emod x g.Cycle
  have e : -(x / g.Cycle) * g.Cycle = -(g.Cycle * (x / g.Cycle)) := by rw [Int.neg_mul, Int.mul_comm]
  omega

theorem mAt_mod0 {g : api_Gates} (hg : VG g) (x : Int) : mAt g.Entries (x % g.Cycle) = mAt g.Entries x := by
  have := mAt_mod hg x 0
  simpa using this

theorem gMask_in {N : Nat} (hN : 200 ≤ N) {g : api_Gates} (hg : VG g) (x : Int) : gates_Mask N g (x % g.Cycle) = some (mAt g.Entries x, 0) := by
  have hc := hg.cyc
  have h0 := Int.emod_nonneg x (show g.Cycle ≠ 0 by omega)
  have h1 := Int.emod_lt_of_pos x (show 0 < g.Cycle by omega)
  rw [gates_Mask_eq hN, if_pos (errS_ok hg (by omega) (by omega) (by omega)), mAt_mod0 hg]

theorem cAt_bounds {c : api_Change} (h : VC c) (t : Int) : 0 ≤ cAt c t ∧ cAt c t ≤ 255 := by
  unfold cAt
  split
  · rename_i hp
    have h3 := h.2.2
    rw [if_pos hp.1] at h3
    exact mAt_range h3.1 _
  · exact mAt_range h.1 _

theorem swap_Mask_eq {N : Nat} (hN : 200 ≤ N) (c : api_Change) (t : Int) : swap_Mask N c t = some (if VC c then (if tm t then (cAt c t, 0) else (0, 2)) else (0, 390)) := by
  unfold swap_Mask
  rw [swap_Check_eq hN, swap_times_eq (by omega)]
  simp only [Option.bind_some, ne_dec (show (390 : Int) ≠ 0 by decide)]
  by_cases h : VC c
  · by_cases ht : tm t
    · simp only [h, ht, decide_true, Bool.not_true, Bool.false_eq_true, if_false, if_true]
      unfold swap_state_parts
      simp only [Option.bind_some]
      obtain ⟨h1, h2, h3⟩ := h
      have hco := h1.cyc
      unfold tm at ht h2
      unfold swap_state_parts_1
      simp only
      cases hp : c.Pending with
      | true =>
        rw [if_pos hp] at h3
        have hca := h3.1.cyc
        simp only [if_true, Option.bind_some]
        by_cases hw : t ≥ c.When
        · rw [if_pos (by simp [hw]), w64_id (by omega) (by omega), swap_mod_eq (by omega) (by omega), Option.bind_some]
          simp only [yieldF, if_true, swap_Mask_R1, gMask_in hN h3.1, Option.bind_some, Option.map_some]
          simp [cAt, hp, hw]
        · rw [if_neg (by simp [hw]), w64_id (x := t - c.Base) (by omega) (by omega), swap_mod_eq (by omega) (by omega), Option.bind_some]
          simp only [yieldF, if_true, swap_Mask_R1, gMask_in hN h1, Option.bind_some, Option.map_some]
          have hw' : ¬ c.When ≤ t := hw
          simp [cAt, hp, hw']
      | false =>
        simp only [Bool.false_eq_true, if_false, Option.bind_some]
        rw [w64_id (x := t - c.Base) (by omega) (by omega), swap_mod_eq (by omega) (by omega), Option.bind_some]
        simp only [yieldF, if_true, swap_Mask_R1, gMask_in hN h1, Option.bind_some, Option.map_some]
        simp [cAt, hp]
    · simp [h, ht]
  · simp [h]

theorem ref29_Mask_eq {N : Nat} (hN : 200 ≤ N) (c : api_Change) (t : Int) : ref29_Mask N c t = some (if VC c then (if tm t then (cAt c t, 0) else (0, 2)) else (0, 390)) := by
  unfold ref29_Mask
  rw [ref29_Right_eq hN, ref29_time_eq]
  simp only [Option.bind_some]
  by_cases h : VC c
  · by_cases ht : tm t
    · simp only [h, ht, decide_true, Bool.not_true, Bool.false_eq_true, if_false, if_true]
      obtain ⟨h1, h2, h3⟩ := h
      unfold tm at ht h2
      unfold ref29_At cAt
      by_cases hp : c.Pending = true ∧ c.When ≤ t
      · rw [if_pos hp.1] at h3
        rw [if_pos (by simp [hp.1, hp.2]), w64_id (by omega) (by omega), ref27_State_eq hN h3.1, if_pos hp]
        rfl
      · have hw : -1099511627776 ≤ c.When ∧ c.When ≤ 2199023255552 ∨ c.Pending = false := by
          cases hq : c.Pending with
          | false => exact .inr rfl
          | true => rw [if_pos hq] at h3; exact .inl ⟨h3.2.1, h3.2.2.1⟩
        rw [if_neg (by simp only [Bool.and_eq_true, decide_eq_true_eq]; exact hp), w64_id (by omega) (by omega), ref27_State_eq hN h1, if_neg hp]
        rfl
    · simp [h, ht]
  · simp [h]

theorem mask_same {N : Nat} (hN : 200 ≤ N) (c : api_Change) (t : Int) : ∃ r, swap_Mask N c t = some r ∧ ref29_Mask N c t = some r := ⟨_, swap_Mask_eq hN c t, ref29_Mask_eq hN c t⟩

/-- The class fits, in a gate list. -/
theorem gFits {N : Nat} (hN : 200 ≤ N) {g : api_Gates} (hg : VG g) {cl t l : Int} (hc : 0 ≤ cl ∧ cl ≤ 7) (ht : tm t) (hl : 0 ≤ l ∧ l ≤ 1099511627776) :
    ∃ b, gates_Fits N g cl t l = some (b, 0) ∧ (b = true ↔ ∀ k, 0 ≤ k → k < l → bitB cl (mAt g.Entries (t + k)) = true) := by
  unfold gates_Fits
  rw [gates_check_eq hN, errS_ok hg hc ht hl]
  obtain ⟨r, hr⟩ := IsSt_exists hg (bitB cl) t
  have ho := opn_ge hg hr hl.1 hl.2
  have hcy := hg.cyc
  have hr0 : 0 ≤ opn g.Cycle r := by
    unfold opn
    split
    · omega
    · rcases hr with ⟨a, _⟩ | ⟨a, _⟩
      · have := hg.2.2.2.1; omega
      · exact a
  refine ⟨decide (opn g.Cycle r ≥ l), by simp [gates_open_eq hN hg hc hr], ?_⟩
  rw [decide_eq_true_iff]
  have : opn g.Cycle r ≥ l ↔ (l = 0 ∨ opn g.Cycle r ≥ l) := by
    constructor
    · exact .inr
    · rintro (h | h) <;> omega
  rw [this, ho]
  unfold FitsAt
  constructor
  · rintro (h | h | h)
    · intro k h0 h1; omega
    · intro k _ _
      obtain ⟨e, he, hm⟩ := mAt_mem hg.ok hg.1 (t + k)
      rw [hm]; exact h e he
    · exact h
  · intro h; exact .inr (.inr h)

/-- A class fits, at each tick. -/
def FitsC (c : api_Change) (cl t l : Int) : Prop := ∀ k, 0 ≤ k → k < l → bitB cl (cAt c (t + k)) = true

def errF (c : api_Change) (cl t l : Int) : Int := if VC c then (if 0 ≤ cl ∧ cl ≤ 7 ∧ tm t ∧ 0 ≤ l ∧ l ≤ 4 * c.Oper.Cycle then 0 else 2) else 390

theorem VC.when {c : api_Change} (h : VC c) : -1099511627776 ≤ c.When ∧ c.When ≤ 2199023255552 := by
  have h3 := h.2.2
  by_cases hp : c.Pending = true
  · rw [if_pos hp] at h3; exact ⟨h3.2.1, h3.2.2.1⟩
  · rw [if_neg hp] at h3; omega

theorem swap_fits_ok {N : Nat} (hN : 200 ≤ N) {c : api_Change} {cl t l : Int} (h : VC c) (hc : 0 ≤ cl ∧ cl ≤ 7) (ht : tm t) (hl : 0 ≤ l ∧ l ≤ 4 * c.Oper.Cycle) :
    ∃ b, swap_Fits N c cl t l = some (b, 0) ∧ (b = true ↔ FitsC c cl t l) := by
  unfold swap_Fits
  have hw := h.when
  obtain ⟨h1, h2, h3⟩ := h
  have hco := h1.cyc
  rw [swap_Check_eq hN, swap_times_eq (by omega), if_pos ⟨h1, h2, h3⟩]
  simp only [Option.bind_some]
  rw [if_neg (by simp), if_neg (by simp; omega), if_neg (by simp; omega), w64_id (x := 4 * c.Oper.Cycle) (by omega) (by omega)]
  simp only [ht, decide_true, Bool.not_true, Bool.false_eq_true, if_false]
  rw [if_neg (by simp; omega)]
  simp only [Option.bind_some]
  rw [if_neg (by simp; omega)]
  unfold swap_state_parts
  simp only [Option.bind_some]
  have ht' := ht
  unfold tm at ht h2
  have hmo : ∀ (g : api_Gates) (x : Int), VG g → tm (x % g.Cycle) := fun g x hg => by
    have hc := hg.cyc
    have h0 := Int.emod_nonneg x (show g.Cycle ≠ 0 by omega)
    have h1 := Int.emod_lt_of_pos x (show 0 < g.Cycle by omega)
    unfold tm; omega
  unfold swap_state_parts_1
  simp only
  cases hp : c.Pending with
  | false =>
    simp only [Bool.false_eq_true, if_false, Option.bind_some]
    rw [w64_id (x := t - c.Base) (by omega) (by omega), swap_mod_eq (by omega) (by omega), Option.bind_some]
    obtain ⟨b, e1, e2⟩ := gFits hN h1 (t := (t - c.Base) % c.Oper.Cycle) (l := l) hc (hmo _ _ h1) (by omega)
    simp only [yieldF, if_true, swap_Fits_R1, e1, Option.bind_some]
    have hF : b = true ↔ FitsC c cl t l := by
      rw [e2]
      refine forall_congr' fun k => ?_
      have : cAt c (t + k) = mAt c.Oper.Entries (t - c.Base + k) := by simp [cAt, hp]; congr 1; omega
      rw [mAt_mod h1, this]
    refine ⟨b, ?_, hF⟩
    cases b <;> simp
  | true =>
    rw [if_pos hp] at h3
    have hca := h3.1.cyc
    simp only [if_true, Option.bind_some]
    by_cases hwt : t ≥ c.When
    · rw [if_pos (by simp [hwt]), w64_id (by omega) (by omega), swap_mod_eq (by omega) (by omega), Option.bind_some]
      obtain ⟨b, e1, e2⟩ := gFits hN h3.1 (t := (t - c.When) % c.Admin.Cycle) (l := l) hc (hmo _ _ h3.1) (by omega)
      simp only [yieldF, if_true, swap_Fits_R1, e1, Option.bind_some]
      have hF : b = true ↔ FitsC c cl t l := by
        rw [e2]
        refine forall_congr' fun k => ?_
        rw [mAt_mod h3.1]
        refine imp_congr_right fun hk => ?_
        have : cAt c (t + k) = mAt c.Admin.Entries (t - c.When + k) := by
          unfold cAt
          rw [if_pos ⟨hp, by omega⟩]
          congr 1; omega
        rw [this]
      refine ⟨b, ?_, hF⟩
      cases b <;> simp
    · rw [if_neg (by simp [hwt]), w64_id (x := t - c.Base) (by omega) (by omega), swap_mod_eq (by omega) (by omega), w64_id (x := c.When - t) (by omega) (by omega)]
      simp only [Option.bind_some]
      have hn : 0 ≤ (if c.When - t < l then c.When - t else l) ∧ (if c.When - t < l then c.When - t else l) ≤ l ∧ (if c.When - t < l then c.When - t else l) ≤ c.When - t ∧ ((if c.When - t < l then c.When - t else l) < l → (if c.When - t < l then c.When - t else l) = c.When - t) := by split <;> omega
      generalize (if c.When - t < l then c.When - t else l) = n at *
      obtain ⟨b, e1, e2⟩ := gFits hN h1 (t := (t - c.Base) % c.Oper.Cycle) (l := n) hc (hmo _ _ h1) (by omega)
      have hF : b = true ↔ ∀ k, 0 ≤ k → k < n → bitB cl (cAt c (t + k)) = true := by
        rw [e2]
        refine forall_congr' fun k => ?_
        rw [mAt_mod h1]
        refine imp_congr_right fun hk => imp_congr_right fun hk2 => ?_
        have : cAt c (t + k) = mAt c.Oper.Entries (t - c.Base + k) := by
          unfold cAt
          rw [if_neg (by omega)]
          congr 1; omega
        rw [this]
      simp only [yieldF, if_true, swap_Fits_R1, e1, Option.bind_some]
      cases b with
      | false =>
        refine ⟨false, by simp, ?_⟩
        simp only [Bool.false_eq_true, false_iff] at hF ⊢
        exact fun hq => hF fun k k0 k1 => hq k k0 (by omega)
      | true =>
        simp only [true_iff] at hF
        by_cases hnl : n < l
        · obtain ⟨b2, f1, f2⟩ := gFits hN h3.1 (t := 0) (l := l - n) hc (by unfold tm; omega) (by omega)
          simp only [bne_self_eq_false, Bool.not_true, Bool.or_self, Bool.false_eq_true, if_false, Option.map_some, Option.bind_some, beq_self_eq_true, if_true, hnl, decide_true]
          rw [w64_id (x := l - n) (by omega) (by omega)]
          simp only [f1, Option.bind_some]
          have hF2 : b2 = true ↔ FitsC c cl t l := by
            rw [f2]
            have hnw := hn.2.2.2 hnl
            constructor
            · intro hq k k0 k1
              by_cases hkn : k < n
              · exact hF k k0 hkn
              · have := hq (k - n) (by omega) (by omega)
                unfold cAt
                rw [if_pos ⟨hp, by omega⟩]
                rw [show t + k - c.When = 0 + (k - n) by omega]
                exact this
            · intro hq k k0 k1
              have := hq (n + k) (by omega) (by omega)
              unfold cAt at this
              rw [if_pos ⟨hp, by omega⟩, show t + (n + k) - c.When = 0 + k by omega] at this
              exact this
          refine ⟨b2, ?_, hF2⟩
          cases b2 <;> simp
        · refine ⟨true, by simp [hnl], ?_⟩
          simp only [true_iff]
          intro k k0 k1
          exact hF k k0 (by omega)
end Go.Sh
