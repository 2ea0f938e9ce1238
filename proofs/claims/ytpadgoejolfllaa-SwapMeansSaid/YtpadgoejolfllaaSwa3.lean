/- Changes of gate lists: the reference's fitting; the laws that compare. -/
import Derived.Test.YtpadgoejolfllaaSwa2
import Derived.KernelRfl
namespace Go.Sh
open Go Go.Eng
set_option linter.unusedVariables false
set_option linter.unusedSimpArgs false

/-- A round of the reference's loop, in a list from 'from' on, up to 'end'. -/
theorem fits_round {N : Nat} (hN : 200 ≤ N) {g : api_Gates} (hg : VG g) {cl x fr en : Int} (hc : 0 ≤ cl ∧ cl ≤ 7) (hx : -5000000000000 ≤ x ∧ x ≤ 5000000000000) (hf : -5000000000000 ≤ fr ∧ fr ≤ 5000000000000) (hlt : x < en) :
    ∃ (e : api_Entry) (s : Int), 0 ≤ s ∧ s < e.Long ∧ 0 ≤ e.Mask ∧ e.Mask ≤ 255 ∧ (∀ k, 0 ≤ k → s + k < e.Long → mAt g.Entries (x - fr + k) = e.Mask) ∧
      (∀ {γ : Type} (A : γ) (B : Int → γ), ((ref27_At N (api_Gates.mk g.Entries g.Cycle) (w64 (x - fr))).bind fun r => (idx g.Entries r.1).bind fun e1 => (ref27_Bit N e1.Mask cl).bind fun b => (if (!b) then some A else (idx g.Entries r.1).bind fun e2 => some (B (if (w64 ((w64 (x - r.2)) + e2.Long)) < en then (w64 ((w64 (x - r.2)) + e2.Long)) else en)))) =
        some (if bitB cl e.Mask = true then B (if x - s + e.Long < en then x - s + e.Long else en) else A)) := by
  obtain ⟨i, e, s, ha⟩ := AtE_exists hg.ok hg.1 (x - fr)
  have he := okE_iff.1 (hg.ok e (List.mem_of_getElem? ha.1))
  refine ⟨e, s, ha.2.1, ha.2.2.1, he.1, he.2.1, fun k h0 h1 => ticks_in hg.ok ha (by have := ha.2.1; omega) h1, fun A B => ?_⟩
  have h1 := ha.2.1
  have h2 := ha.2.2.1
  rw [w64_id (x := x - fr) (by omega) (by omega), show api_Gates.mk g.Entries g.Cycle = g from rfl, ref27_At_eq hN hg ha, Option.bind_some, idx_some ha.1, Option.bind_some, bits_ref N ⟨he.1, he.2.1⟩ hc, Option.bind_some]
  cases hb : bitB cl e.Mask with
  | false => simp
  | true =>
    simp only [Bool.not_true, Bool.false_eq_true, if_false, if_true, Option.bind_some]
    rw [w64_id (x := x - s) (by omega) (by omega), w64_id (x := x - s + e.Long) (by omega) (by omega)]

theorem ref_fits_ok {N : Nat} (hN : 40000000 ≤ N) {c : api_Change} {cl t l : Int} (h : VC c) (hc : 0 ≤ cl ∧ cl ≤ 7) (ht : tm t) (hl : 0 ≤ l ∧ l ≤ 4 * c.Oper.Cycle) :
    ∃ b, ref29_Fits N c cl t l = some (b, 0) ∧ (b = true ↔ FitsC c cl t l) := by
  unfold ref29_Fits
  have hw := h.when
  have hv := h
  obtain ⟨h1, h2, h3⟩ := h
  have hco := h1.cyc
  rw [ref29_Right_eq (by omega), ref29_time_eq]
  simp only [Option.bind_some, hv, ht, decide_true, Bool.not_true, Bool.false_eq_true, if_false]
  rw [if_neg (by simp; omega), if_neg (by simp; omega), w64_id (x := 4 * c.Oper.Cycle) (by omega) (by omega), if_neg (by simp; omega)]
  simp only [Option.bind_some]
  rw [if_neg (by simp; omega)]
  have htt := ht
  unfold tm at ht h2
  have hloop := iterF_of (body := fun x : Int => ref29_Fits_L1 N c cl t l x) (fun x => t ≤ x ∧ x ≤ t + l ∧ ∀ k, t ≤ k → k < x → bitB cl (cAt c k) = true) (fun x => (t + l - x).toNat)
    (fun r => (∃ p, r = .inl p ∧ FitsC c cl t l) ∨ (r = .inr (false, 0) ∧ ¬ FitsC c cl t l)) (fun x ⟨x0, x1, x2⟩ => by
      unfold ref29_Fits_L1
      rw [w64_id (x := t + l) (by omega) (by omega)]
      by_cases hlt : x < t + l
      · rw [if_pos (by simp [hlt])]
        -- the list in operation at x
        have key : ∀ (g : api_Gates) (fr en : Int), VG g → (-5000000000000 ≤ fr ∧ fr ≤ 5000000000000) → x < en → en ≤ t + l → (∀ k, x ≤ k → k < en → cAt c k = mAt g.Entries (k - fr)) →
            (∃ y, ((ref27_At N (api_Gates.mk g.Entries g.Cycle) (w64 (x - fr))).bind fun r => (idx g.Entries r.1).bind fun e1 => (ref27_Bit N e1.Mask cl).bind fun b => (if (!b) then some (Sum.inr (Sum.inr (false, (0 : Int))) : Int ⊕ (Int ⊕ (Bool × Int))) else (idx g.Entries r.1).bind fun e2 => some (.inl (if (w64 ((w64 (x - r.2)) + e2.Long)) < en then (w64 ((w64 (x - r.2)) + e2.Long)) else en)))) = some (.inl y) ∧ (t ≤ y ∧ y ≤ t + l ∧ ∀ k, t ≤ k → k < y → bitB cl (cAt c k) = true) ∧ (t + l - y).toNat < (t + l - x).toNat) ∨
            (∃ r, ((ref27_At N (api_Gates.mk g.Entries g.Cycle) (w64 (x - fr))).bind fun r => (idx g.Entries r.1).bind fun e1 => (ref27_Bit N e1.Mask cl).bind fun b => (if (!b) then some (Sum.inr (Sum.inr (false, (0 : Int))) : Int ⊕ (Int ⊕ (Bool × Int))) else (idx g.Entries r.1).bind fun e2 => some (.inl (if (w64 ((w64 (x - r.2)) + e2.Long)) < en then (w64 ((w64 (x - r.2)) + e2.Long)) else en)))) = some (.inr r) ∧ ((∃ p, r = .inl p ∧ FitsC c cl t l) ∨ (r = .inr (false, 0) ∧ ¬ FitsC c cl t l))) := by
          intro g fr en hg hfr hxe hen hcat
          obtain ⟨e, s, s0, s1, m0, m1, hm, heq⟩ := fits_round (N := N) (by omega) hg hc (x := x) (fr := fr) (en := en) (by omega) hfr hxe
          rw [heq (γ := Int ⊕ (Int ⊕ (Bool × Int)))]
          by_cases hb : bitB cl e.Mask = true
          · left
            rw [if_pos hb]
            refine ⟨_, rfl, ⟨?_, ?_, ?_⟩, ?_⟩
            · split <;> omega
            · split <;> omega
            · intro k k0 k1
              by_cases hkx : k < x
              · exact x2 k k0 hkx
              · have hk2 : k < en ∧ k < x - s + e.Long := by split at k1 <;> omega
                rw [hcat k (by omega) hk2.1, show k - fr = x - fr + (k - x) by omega, hm (k - x) (by omega) (by omega)]
                exact hb
            · split <;> omega
          · right
            rw [if_neg hb]
            refine ⟨_, rfl, .inr ⟨rfl, fun hq => hb ?_⟩⟩
            have := hq (x - t) (by omega) (by omega)
            rw [show t + (x - t) = x by omega, hcat x (by omega) hxe, show x - fr = x - fr + 0 by omega, hm 0 (by omega) (by omega)] at this
            exact this
        by_cases hpw : c.Pending = true ∧ c.When ≤ x
        · rw [if_pos hpw.1] at h3
          rw [if_pos (by simp [hpw.1, hpw.2])]
          simp only [Option.bind_some]
          exact key c.Admin c.When (t + l) h3.1 (by omega) (by omega) (by omega) fun k k0 k1 => by unfold cAt; rw [if_pos ⟨hpw.1, by omega⟩]
        · rw [if_neg (by simp only [Bool.and_eq_true, decide_eq_true_eq]; exact hpw)]
          cases hp : c.Pending with
          | true =>
            have hwx : x < c.When := by
              rcases Int.lt_or_le x c.When with h | h
              · exact h
              · exact absurd ⟨hp, h⟩ hpw
            simp only [if_true, Option.bind_some]
            exact key c.Oper c.Base (if c.When < t + l then c.When else t + l) h1 (by omega) (by split <;> omega) (by split <;> omega) fun k k0 k1 => by
              unfold cAt; rw [if_neg]; split at k1 <;> omega
          | false =>
            simp only [Bool.false_eq_true, if_false, Option.bind_some]
            exact key c.Oper c.Base (t + l) h1 (by omega) (by omega) (by omega) fun k k0 k1 => by unfold cAt; rw [if_neg (by simp [hp])]
      · right
        rw [if_neg (by simp; omega)]
        exact ⟨_, rfl, .inl ⟨_, rfl, fun k k0 k1 => x2 (t + k) (by omega) (by omega)⟩⟩) N t ⟨by omega, by omega, fun k a b => by omega⟩ (by omega)
  obtain ⟨r, hr, hpost⟩ := hloop
  rw [hr, Option.bind_some]
  rcases hpost with ⟨p, rfl, hF⟩ | ⟨rfl, hF⟩
  · exact ⟨true, rfl, by simp [hF]⟩
  · exact ⟨false, rfl, by simp [hF]⟩

theorem fitsC_same {N : Nat} (hN : 40000000 ≤ N) (c : api_Change) (cl t l : Int) : ∃ r, swap_Fits N c cl t l = some r ∧ ref29_Fits N c cl t l = some r := by
  by_cases h : VC c
  · by_cases hq : 0 ≤ cl ∧ cl ≤ 7 ∧ tm t ∧ 0 ≤ l ∧ l ≤ 4 * c.Oper.Cycle
    · obtain ⟨q1, q2, q3, q4, q5⟩ := hq
      obtain ⟨b, e1, e2⟩ := swap_fits_ok (N := N) (by omega) h ⟨q1, q2⟩ q3 ⟨q4, q5⟩
      obtain ⟨b', f1, f2⟩ := ref_fits_ok hN h ⟨q1, q2⟩ q3 ⟨q4, q5⟩
      have : b = b' := by rw [Bool.eq_iff_iff, e2, f2]
      subst this
      exact ⟨_, e1, f1⟩
    · refine ⟨(false, 2), ?_, ?_⟩
      · unfold swap_Fits
        have hco := h.1.cyc
        rw [swap_Check_eq (by omega), swap_times_eq (by omega), if_pos h]
        simp only [Option.bind_some]
        rw [if_neg (by simp), w64_id (x := 4 * c.Oper.Cycle) (by omega) (by omega)]
        by_cases a1 : cl < 0
        · simp [a1]
        · by_cases a2 : cl ≥ 8
          · simp [a1, a2]
          · by_cases a3 : tm t
            · by_cases a4 : l < 0
              · simp [a1, a2, a3, a4]
              · have a5 : l > 4 * c.Oper.Cycle := by
                  rcases Int.lt_or_le (4 * c.Oper.Cycle) l with h | h
                  · exact h
                  · exact absurd ⟨by omega, by omega, a3, by omega, h⟩ hq
                simp [a1, a2, a3, a4, a5]
            · simp [a1, a2, a3]
      · unfold ref29_Fits
        have hco := h.1.cyc
        rw [ref29_Right_eq (by omega), ref29_time_eq]
        simp only [Option.bind_some]
        rw [if_neg (by simp [h]), w64_id (x := 4 * c.Oper.Cycle) (by omega) (by omega)]
        by_cases a1 : cl < 0
        · simp [a1]
        · by_cases a2 : cl > 7
          · simp [a1, a2]
          · by_cases a3 : tm t
            · by_cases a4 : l < 0
              · simp [a1, a2, a3, a4]
              · have a5 : l > 4 * c.Oper.Cycle := by
                  rcases Int.lt_or_le (4 * c.Oper.Cycle) l with h | h
                  · exact h
                  · exact absurd ⟨by omega, by omega, a3, by omega, h⟩ hq
                simp [a1, a2, a3, a4, a5]
            · simp [a1, a2, a3]
  · refine ⟨(false, 390), ?_, ?_⟩
    · unfold swap_Fits
      rw [swap_Check_eq (by omega), if_neg h]
      simp
    · unfold ref29_Fits
      rw [ref29_Right_eq (by omega)]
      simp [h]

/- comparing -/
theorem same_refl {N : Nat} (hN : 1000 < N) {g : api_Gates} (h : g.Entries.length ≤ 1000) : ref29_same N g g = some true := by
  unfold ref29_same
  rw [if_neg (by simp)]
  have := iterF_all (l := g.Entries) (p := fun _ => true) (body := fun x => ref29_same_L1 N g g x) (bad := .inr false) (fin := .inl (g.Entries.length : Int)) (fun k hk => by
    unfold ref29_same_L1
    rw [if_pos (by simp; omega), idx_nat, List.getElem?_eq_getElem hk]
    simp only [Option.bind_some, beq_self_eq_true, Bool.and_self, Bool.not_true, Bool.false_eq_true, if_false, if_true]
    rw [w64_id (by omega) (by omega)]
    rfl) (by unfold ref29_same_L1; simp) g.Entries.length N 0 rfl (by simp) (by omega)
  have h' : iterF (fun x => ref29_same_L1 N g g x) N 0 = some (.inl (g.Entries.length : Int)) := by simpa using this
  rw [h', Option.bind_some]

theorem Same_refl {N : Nat} (hN : 1000 < N) {c : api_Change} (h : c.Oper.Entries.length ≤ 1000) (h' : c.Admin.Entries.length ≤ 1000) : ref29_Same N c c = some true := by
  unfold ref29_Same
  simp [same_refl hN h, same_refl hN h']

theorem VC.small {c : api_Change} (h : VC c) : c.Oper.Entries.length ≤ 1000 ∧ c.Admin.Entries.length ≤ 1000 := by
  obtain ⟨h1, h2, h3⟩ := h
  refine ⟨by have := h1.2.1; omega, ?_⟩
  by_cases hp : c.Pending = true
  · rw [if_pos hp] at h3; have := h3.1.2.1; omega
  · rw [if_neg hp] at h3; omega

theorem bend_ex (N : Nat) (b : law29_Bend) (c : api_Change) : ∃ r, law29_Bend_of N b c = some r := by
  unfold law29_Bend_of
  have hsub : ∃ l, subI b.G.Entries 0 (if 130 < ((List.length b.G.Entries : Nat) : Int) then 130 else ((List.length b.G.Entries : Nat) : Int)) = some l := by
    unfold subI
    rw [if_pos (by split <;> omega)]
    exact ⟨_, rfl⟩
  obtain ⟨l, hl⟩ := hsub
  rw [hl, Option.bind_some]
  have : ∀ (x : Option ((List api_Entry) × Int × Int × Bool × (List api_Entry) × Int × Int)), x.isSome = true → ∃ r, (x.bind fun j => some (api_Change.mk (api_Gates.mk j.1 j.2.1) j.2.2.1 j.2.2.2.1 (api_Gates.mk j.2.2.2.2.1 j.2.2.2.2.2.1) j.2.2.2.2.2.2)) = some r := by
    intro x hx
    cases x with
    | none => cases hx
    | some j => exact ⟨_, rfl⟩
  refine this _ ?_
  split
  · rfl
  · split
    · rfl
    · split
      · rfl
      · split
        · rfl
        · split <;> rfl

theorem change_ex {N : Nat} (hN : 200 ≤ N) {d : ref29_Draft} (hd : Rg_ref29_Draft d) : ∃ c, ref29_Draft_Change N d = some c ∧ VC c ∧ (c.Oper.Cycle ≤ 320) ∧ (-32768 ≤ c.Base ∧ c.Base ≤ 32767) ∧ (-100000 ≤ c.When ∧ c.When ≤ 100000) ∧ (c.Pending = true → c.Admin.Cycle ≤ 320) := by
  obtain ⟨d1, d2, d3, _, d5⟩ := hd
  obtain ⟨g, g1, g2, g3, g4⟩ := draft_gates hN d1
  obtain ⟨a, a1, a2, a3, a4⟩ := draft_gates hN d2
  have hg := small_cycle g2 g3 g4
  have ha := small_cycle a2 a3 a4
  have hb := d3.i16
  have hl := d5.u8
  unfold ref29_Draft_Change
  rw [g1, Option.bind_some, a1]
  have eb : w64 d.Base = d.Base := w64_id (by omega) (by omega)
  have el : w64 (w64 d.Later - 100) = d.Later - 100 := by rw [w64_id (x := d.Later) (by omega) (by omega), w64_id (by omega) (by omega)]
  have hmul : -32000 ≤ (d.Later - 100) * g.Cycle ∧ (d.Later - 100) * g.Cycle ≤ 49600 := by
    constructor
    · have : -100 * g.Cycle ≤ (d.Later - 100) * g.Cycle := Int.mul_le_mul_of_nonneg_right (by omega) (by omega)
      omega
    · have : (d.Later - 100) * g.Cycle ≤ 155 * g.Cycle := Int.mul_le_mul_of_nonneg_right (by omega) (by omega)
      omega
  rw [eb, el, w64_id (x := (d.Later - 100) * g.Cycle) (by omega) (by omega), w64_id (x := d.Base + (d.Later - 100) * g.Cycle) (by omega) (by omega)]
  cases hp : d.Pending with
  | false =>
    simp only [Bool.false_eq_true, if_false, Option.bind_some]
    refine ⟨_, rfl, ⟨g2, by unfold tm; simp only; omega, by simp⟩, hg.2, hb, by simp, by simp⟩
  | true =>
    simp only [if_true, Option.bind_some]
    refine ⟨_, rfl, ⟨g2, by unfold tm; simp only; omega, ?_⟩, hg.2, hb, by simp only; omega, fun _ => ha.2⟩
    simp only [if_true]
    refine ⟨a2, by omega, by omega, ?_⟩
    rw [show d.Base + (d.Later - 100) * g.Cycle - d.Base = (d.Later - 100) * g.Cycle by omega]
    exact Int.mul_emod_left _ _

set_option maxRecDepth 1000000 in
theorem works29 : law29_works 40000000 = some true := by kernel_rfl

theorem pickA2 {α β γ : Type} {f g : α → β → Option γ} {Q : γ → Prop} (h : ∀ a b, ∃ r, f a b = some r ∧ g a b = some r ∧ Q r) : ∃ F : α → β → γ, ∀ a b, f a b = some (F a b) ∧ g a b = some (F a b) ∧ Q (F a b) :=
  ⟨fun a b => Classical.choose (h a b), fun a b => Classical.choose_spec (h a b)⟩
theorem pickA4 {α β δ ε γ : Type} {f g : α → β → δ → ε → Option γ} {Q : γ → Prop} (h : ∀ a b c d, ∃ r, f a b c d = some r ∧ g a b c d = some r ∧ Q r) : ∃ F : α → β → δ → ε → γ, ∀ a b c d, f a b c d = some (F a b c d) ∧ g a b c d = some (F a b c d) ∧ Q (F a b c d) :=
  ⟨fun a b c d => Classical.choose (h a b c d), fun a b c d => Classical.choose_spec (h a b c d)⟩

def smallC (r : api_Change × Int) : Prop := r.1.Oper.Entries.length ≤ 1000 ∧ r.1.Admin.Entries.length ≤ 1000

theorem new_pick {N : Nat} (hN : 200 ≤ N) (g : api_Gates) (t : Int) : ∃ r, swap_New N g t = some r ∧ ref29_New N g t = some r ∧ smallC r := by
  refine ⟨_, (new_same hN g t).1, (new_same hN g t).2, ?_⟩
  by_cases h : VG g
  · have := h.2.1
    by_cases ht : tm t
    · simp only [h, ht, if_true, smallC]; exact ⟨by omega, by simp⟩
    · simp [h, ht, smallC, noCh]
  · simp [h, smallC, noCh]

theorem adv_pick {N : Nat} (hN : 200 ≤ N) (c : api_Change) (t : Int) : ∃ r, swap_Advance N c t = some r ∧ ref29_Advance N c t = some r ∧ smallC r := by
  refine ⟨_, (adv_same hN c t).1, (adv_same hN c t).2, ?_⟩
  by_cases h : VC c
  · by_cases ht : tm t
    · simp only [h, ht, if_true, smallC]; exact (later_VC h t).small
    · simp [h, ht, smallC, noCh]
  · simp [h, smallC, noCh]

theorem set_pick {N : Nat} (hN : 200 ≤ N) (c : api_Change) (now : Int) (g : api_Gates) (base : Int) : ∃ r, swap_Set N c now g base = some r ∧ ref29_Set N c now g base = some r ∧ smallC r := by
  refine ⟨_, (set_same hN c now g base).1, (set_same hN c now g base).2, ?_⟩
  by_cases h : VC c
  · by_cases h1 : tm now
    · by_cases h2 : VG g
      · by_cases h3 : tm base
        · simp only [h, h1, h2, h3, if_true, smallC]
          exact ⟨(later_VC h now).small.1, by have := h2.2.1; omega⟩
        · simp [h, h1, h2, h3, smallC, noCh]
      · simp [h, h1, h2, smallC, noCh]
    · simp [h, h1, smallC, noCh]
  · simp [h, smallC, noCh]

theorem swapChecks_true (d : ref29_Draft) (b : law29_Bend) (t : Int) (hd : Rg_ref29_Draft d) (hb : Rg_law29_Bend b) (ht : InK .i64 t) : ∃ N, law29_SwapChecks N d b t = some true := by
  refine ⟨40000000, ?_⟩
  obtain ⟨c, hc, _⟩ := change_ex (N := 40000000) (by decide) hd
  obtain ⟨c', hc'⟩ := bend_ex 40000000 b c
  obtain ⟨M, hM⟩ := pick2 (f := swap_Mask 40000000) (g := ref29_Mask 40000000) fun c t => mask_same (by decide) c t
  obtain ⟨F, hF⟩ := pickA2 (f := swap_New 40000000) (g := ref29_New 40000000) fun g t => new_pick (by decide) g t
  have hC : ∀ c, swap_Check 40000000 c = some (if VC c then 0 else 390) := fun c => swap_Check_eq (by decide) c
  have hC' : ∀ c, ref29_Check 40000000 c = some (if VC c then 0 else 390) := fun c => ref29_Check_eq (by decide) c
  have hS : ∀ g t, ref29_Same 40000000 (F g t).1 (F g t).1 = some true := fun g t => Same_refl (by decide) (hF g t).2.2.1 (hF g t).2.2.2
  unfold law29_SwapChecks
  rw [hc, Option.bind_some, hc', Option.bind_some]
  simp only [fun c t => (hM c t).1, fun c t => (hM c t).2, fun g t => (hF g t).1, fun g t => (hF g t).2.1, hC, hC', hS, Option.bind_some, bne_self_eq_false, Bool.or_self, Bool.false_eq_true, if_false, Bool.not_true, works29]

theorem swapSets_true (d : ref29_Draft) (b : law29_Bend) (l : ref27_Draft) (now base : Int) (hd : Rg_ref29_Draft d) (hb : Rg_law29_Bend b) (hl : Rg_ref27_Draft l) (hn : InK .i64 now) (hba : InK .i64 base) : ∃ N, law29_SwapSets N d b l now base = some true := by
  refine ⟨40000000, ?_⟩
  obtain ⟨c, hc, _⟩ := change_ex (N := 40000000) (by decide) hd
  obtain ⟨c', hc'⟩ := bend_ex 40000000 b c
  obtain ⟨g, hg, _⟩ := draft_gates (N := 40000000) (by decide) hl
  obtain ⟨A, hA⟩ := pickA2 (f := swap_Advance 40000000) (g := ref29_Advance 40000000) fun c t => adv_pick (by decide) c t
  obtain ⟨F, hF⟩ := pickA4 (f := swap_Set 40000000) (g := ref29_Set 40000000) fun c n g t => set_pick (by decide) c n g t
  have hS : ∀ c t, ref29_Same 40000000 (A c t).1 (A c t).1 = some true := fun c t => Same_refl (by decide) (hA c t).2.2.1 (hA c t).2.2.2
  have hS' : ∀ c n g t, ref29_Same 40000000 (F c n g t).1 (F c n g t).1 = some true := fun c n g t => Same_refl (by decide) (hF c n g t).2.2.1 (hF c n g t).2.2.2
  unfold law29_SwapSets
  simp only [hc, hc', hg, fun c t => (hA c t).1, fun c t => (hA c t).2.1, fun c n g t => (hF c n g t).1, fun c n g t => (hF c n g t).2.1, hS, hS', Option.bind_some, bne_self_eq_false, Bool.or_self, Bool.false_eq_true, if_false, Bool.not_true, works29]

theorem swapFits_true (d : ref29_Draft) (b : law29_Bend) (cl t l : Int) (hd : Rg_ref29_Draft d) (hb : Rg_law29_Bend b) (hcl : InK .i64 cl) (ht : InK .i64 t) (hl : InK .i64 l) : ∃ N, law29_SwapFits N d b cl t l = some true := by
  refine ⟨40000000, ?_⟩
  obtain ⟨c, hc, _⟩ := change_ex (N := 40000000) (by decide) hd
  obtain ⟨c', hc'⟩ := bend_ex 40000000 b c
  obtain ⟨F, hF⟩ := pick4 (f := swap_Fits 40000000) (g := ref29_Fits 40000000) fun c k t l => fitsC_same (by decide) c k t l
  unfold law29_SwapFits
  simp only [hc, hc', fun c k t l => (hF c k t l).1, fun c k t l => (hF c k t l).2, Option.bind_some, bne_self_eq_false, Bool.or_self, Bool.false_eq_true, if_false, Bool.not_true, works29]
end Go.Sh
