/- Residues: what the functions of layer 23 and its reference compute. -/
import Derived.Test.YtiobnpdikleanaaBase
namespace Go.Sh
open Go Go.Eng

def VSpan (s : api_Span) : Prop := 1 ≤ s.Period ∧ s.Period ≤ 960 ∧ 0 ≤ s.From ∧ s.From < s.Period ∧ 1 ≤ s.Long ∧ s.Long ≤ s.Period
instance (s : api_Span) : Decidable (VSpan s) := by unfold VSpan; infer_instance

theorem residue_Check_eq (N : Nat) (s : api_Span) : residue_Check N s = some (if VSpan s then 0 else 330) := by
  unfold residue_Check
  by_cases h : VSpan s
  · rw [if_pos h]
    unfold VSpan at h
    rw [if_neg (by simp; omega), if_neg (by simp; omega)]
  · rw [if_neg h]
    unfold VSpan at h
    by_cases h1 : ((decide (s.Period < 1)) || ((decide (s.Period > 960)) || ((decide (s.From < 0)) || (decide (s.From ≥ s.Period))))) = true
    · rw [if_pos h1]
    · rw [if_neg h1, if_pos]
      simp at h1 ⊢
      omega

theorem ref23_Right_eq (N : Nat) (s : api_Span) : ref23_Right N s = some (decide (VSpan s)) := by
  unfold ref23_Right
  congr 1
  rw [Bool.eq_iff_iff, decide_eq_true_iff]
  simp only [Bool.and_eq_true, decide_eq_true_eq, VSpan, ge_iff_le]

theorem ref23_Check_eq (N : Nat) (s : api_Span) : ref23_Check N s = some (if VSpan s then 0 else 330) := by
  unfold ref23_Check
  rw [ref23_Right_eq]
  simp only [Option.bind_some, decide_eq_true_eq]
  split <;> rfl

theorem residue_mod_eq (N : Nat) {a b : Int} (hb : 0 < b) (hb2 : b ≤ 1000000) : residue_mod N a b = some (a % b) := by
  unfold residue_mod
  have h1 := Int.lt_tmod_of_pos a hb
  have h2 := Int.tmod_lt_of_pos a hb
  rw [remI_pos (by omega), Option.bind_some, w64_id (by omega) (by omega), remI_pos (by omega), Option.bind_some, tmod_mod hb]

theorem ref23_Mod_eq (N : Nat) {a b : Int} (hb : 0 < b) (hb2 : b ≤ 1000000) : ref23_Mod N a b = some (a % b) := by
  unfold ref23_Mod
  have h1 := Int.lt_tmod_of_pos a hb
  have h2 := Int.tmod_lt_of_pos a hb
  have h3 := tmod_mod (a := a) hb
  rw [remI_pos (by omega), Option.bind_some]
  by_cases h : a.tmod b < 0
  · rw [if_pos (by simpa using h), Option.bind_some, w64_id (by omega) (by omega)]
    rw [Int.tmod_eq_of_lt (by omega) (by omega)] at h3
    rw [h3]
  · rw [if_neg (by simpa using h), Option.bind_some]
    rw [← h3, show a.tmod b + b = a.tmod b + b * 1 by omega]
    have e : (a.tmod b + b).tmod b = (a.tmod b + b) % b := Int.tmod_eq_emod_of_nonneg (by omega)
    rw [Int.mul_one, e, Int.add_emod_right]
    rw [Int.emod_eq_of_lt (by omega) (by omega)]

theorem residue_Covers_eq (N : Nat) (s : api_Span) (t : Int) : residue_Covers N s t = ref23_Covers N s t := by
  unfold residue_Covers ref23_Covers
  rw [residue_Check_eq, ref23_Right_eq]
  simp only [Option.bind_some]
  by_cases h : VSpan s
  · simp only [h, if_true, decide_true, Bool.not_true, bne_self_eq_false, Bool.false_eq_true, if_false]
    split
    · rfl
    · unfold VSpan at h
      rw [residue_mod_eq N (by omega) (by omega), ref23_Mod_eq N (by omega) (by omega)]
  · simp [h]

/- greatest common divisors -/
theorem residue_gcd_loop (M : Nat) : ∀ (b N a : Nat), b < N → iterF (fun x : Int × Int => residue_gcd_L1 M x.1 x.2) N ((a : Int), (b : Int)) = some ((Nat.gcd a b : Int), 0) := by
  intro b
  induction b using Nat.strongRecOn with
  | _ b ih =>
    intro N a hN
    cases N with
    | zero => omega
    | succ N =>
      by_cases hb : b = 0
      · subst hb
        rw [iterF_inr (r := ((a : Int), 0))]
        · simp
        · simp [residue_gcd_L1]
      · have hlt := Nat.mod_lt a (Nat.pos_of_ne_zero hb)
        rw [iterF_inl (y := ((b : Int), ((a % b : Nat) : Int)))]
        · rw [ih (a % b) hlt N b (by omega)]
          rw [Nat.gcd_comm a b, Nat.gcd_rec b a, Nat.gcd_comm (a % b) b]
        · simp only [residue_gcd_L1]
          rw [if_pos (by simp; omega), remI_pos (by omega), Option.bind_some, Int.tmod_eq_emod_of_nonneg (by omega)]
          rfl

theorem residue_gcd_eq {N : Nat} {a b : Int} (ha : 0 ≤ a) (hb : 0 ≤ b) (hN : b.toNat < N) : residue_gcd N a b = some (Nat.gcd a.toNat b.toNat : Int) := by
  unfold residue_gcd
  have := residue_gcd_loop N b.toNat N a.toNat hN
  rw [Int.toNat_of_nonneg ha, Int.toNat_of_nonneg hb] at this
  rw [this]
  rfl

theorem tmod_zero_iff {a d : Int} (hd : 0 < d) (ha : 0 ≤ a) : a.tmod d = 0 ↔ d.toNat ∣ a.toNat := by
  rw [Int.tmod_eq_emod_of_nonneg ha]
  constructor
  · intro h
    have h1 : d ∣ a := Int.dvd_of_emod_eq_zero h
    rw [← Int.toNat_of_nonneg ha, ← Int.toNat_of_nonneg (show 0 ≤ d by omega)] at h1
    exact Int.natCast_dvd_natCast.1 h1
  · intro h
    have : ((d.toNat : Nat) : Int) ∣ ((a.toNat : Nat) : Int) := Int.natCast_dvd_natCast.2 h
    rw [Int.toNat_of_nonneg ha, Int.toNat_of_nonneg (by omega)] at this
    exact Int.emod_eq_zero_of_dvd this

theorem ref23_Gcd_loop (M : Nat) {a b : Int} (ha : 1 ≤ a) (hb : 1 ≤ b) (ha2 : a ≤ 1000000) : ∀ (d : Nat) (N : Nat), d < N → (d : Int) ≤ a → (∀ e : Nat, d < e → ¬ (e ∣ a.toNat ∧ e ∣ b.toNat)) →
    ∃ r, iterF (fun x : Int => ref23_Gcd_L1 M a b x) N (d : Int) = some r ∧ (match r with | .inl _ => (1 : Int) | .inr p => p) = (Nat.gcd a.toNat b.toNat : Int) := by
  intro d
  induction d with
  | zero =>
    intro N hN _ hall
    exfalso
    exact hall 1 (by omega) ⟨Nat.one_dvd _, Nat.one_dvd _⟩
  | succ d ih =>
    intro N hN hle hall
    cases N with
    | zero => omega
    | succ N =>
      have hgpos : 0 < Nat.gcd a.toNat b.toNat := Nat.gcd_pos_of_pos_left _ (by omega)
      have hgle : Nat.gcd a.toNat b.toNat ≤ d + 1 := by
        rcases Nat.lt_or_ge (d + 1) (Nat.gcd a.toNat b.toNat) with h | h
        · exact absurd ⟨Nat.gcd_dvd_left _ _, Nat.gcd_dvd_right _ _⟩ (hall _ h)
        · exact h
      by_cases h1 : d = 0
      · subst h1
        refine ⟨.inl ((0 + 1 : Nat) : Int), iterF_inr (by simp [ref23_Gcd_L1]), ?_⟩
        simp only
        omega
      · have hd1 : ((d + 1 : Nat) : Int) > 1 := by omega
        by_cases h2 : (d + 1) ∣ a.toNat ∧ (d + 1) ∣ b.toNat
        · refine ⟨.inr ((d + 1 : Nat) : Int), iterF_inr ?_, ?_⟩
          · simp only [ref23_Gcd_L1]
            rw [if_pos (by simpa using hd1), remI_pos (by omega), Option.bind_some, if_pos, remI_pos (by omega), Option.bind_some]
            · simp only [Option.bind_some]
              rw [if_pos]
              simp only [beq_iff_eq]
              exact (tmod_zero_iff (by omega) (by omega)).2 (by simpa using h2.2)
            · simp only [beq_iff_eq]
              exact (tmod_zero_iff (by omega) (by omega)).2 (by simpa using h2.1)
          · simp only
            have : d + 1 ∣ Nat.gcd a.toNat b.toNat := Nat.dvd_gcd h2.1 h2.2
            have := Nat.le_of_dvd hgpos this
            omega
        · rw [iterF_inl (y := (d : Int))]
          · refine ih N (by omega) (by omega) fun e he hd => ?_
            by_cases h3 : e = d + 1
            · subst h3; exact h2 hd
            · exact hall e (by omega) hd
          · simp only [ref23_Gcd_L1]
            rw [if_pos (by simpa using hd1), remI_pos (by omega), Option.bind_some]
            have hiff1 := tmod_zero_iff (a := a) (d := ((d + 1 : Nat) : Int)) (by omega) (by omega)
            have hiff2 := tmod_zero_iff (a := b) (d := ((d + 1 : Nat) : Int)) (by omega) (by omega)
            simp only [Int.toNat_natCast] at hiff1 hiff2
            by_cases h4 : a.tmod ((d + 1 : Nat) : Int) = 0
            · rw [if_pos (by simpa using h4), remI_pos (by omega), Option.bind_some, Option.bind_some, if_neg, w64_id (by omega) (by omega)]
              · congr 2; omega
              · simp only [beq_iff_eq]
                intro h5
                exact h2 ⟨hiff1.1 h4, hiff2.1 h5⟩
            · rw [if_neg (by simpa using h4), Option.bind_some, if_neg (by simp), w64_id (by omega) (by omega)]
              congr 2; omega

theorem ref23_Gcd_eq {N : Nat} {a b : Int} (ha : 1 ≤ a) (hb : 1 ≤ b) (ha2 : a ≤ 1000000) (hN : a.toNat < N) : ref23_Gcd N a b = some (Nat.gcd a.toNat b.toNat : Int) := by
  unfold ref23_Gcd
  obtain ⟨r, h1, h2⟩ := ref23_Gcd_loop N ha hb ha2 a.toNat N hN (by omega) (fun e he hd => by
    have := Nat.le_of_dvd (by omega) hd.1
    omega)
  rw [Int.toNat_of_nonneg (by omega)] at h1
  rw [h1, Option.bind_some, ← h2]
  cases r <;> rfl

/-- The step of two spans. -/
def gP (a b : api_Span) : Int := (Nat.gcd a.Period.toNat b.Period.toNat : Int)

theorem gP_pos {a b : api_Span} (ha : 1 ≤ a.Period) : 0 < gP a b := by
  have : 0 < Nat.gcd a.Period.toNat b.Period.toNat := Nat.gcd_pos_of_pos_left _ (by omega)
  unfold gP; omega
theorem gP_le {a b : api_Span} (ha : 1 ≤ a.Period) : gP a b ≤ a.Period := by
  have := Nat.le_of_dvd (by omega : 0 < a.Period.toNat) (Nat.gcd_dvd_left a.Period.toNat b.Period.toNat)
  unfold gP; omega
theorem gP_dvd_left {a b : api_Span} (ha : 1 ≤ a.Period) : gP a b ∣ a.Period := by
  have := Int.natCast_dvd_natCast.2 (Nat.gcd_dvd_left a.Period.toNat b.Period.toNat)
  rwa [Int.toNat_of_nonneg (by omega)] at this
theorem gP_dvd_right {a b : api_Span} (hb : 1 ≤ b.Period) : gP a b ∣ b.Period := by
  have := Int.natCast_dvd_natCast.2 (Nat.gcd_dvd_right a.Period.toNat b.Period.toNat)
  rwa [Int.toNat_of_nonneg (by omega)] at this

/-- Apart, by the difference of the starts. -/
def SepD (a b : api_Span) (d : Int) : Prop := a.Long ≤ d % gP a b ∧ d % gP a b ≤ gP a b - b.Long
instance (a b : api_Span) (d : Int) : Decidable (SepD a b d) := by unfold SepD; infer_instance

/-- Being apart, as the reference counts it. -/
theorem sep_iff {al bl d g : Int} (hg : 0 < g) (ha : 1 ≤ al) (hb : 1 ≤ bl) : (∀ x, 1 - bl ≤ x → x < al → (d - x) % g ≠ 0) ↔ (al ≤ d % g ∧ d % g ≤ g - bl) := by
  have h0 := Int.emod_nonneg d (show g ≠ 0 by omega)
  have h1 := Int.emod_lt_of_pos d hg
  have hd := Int.mul_ediv_add_emod d g
  constructor
  · intro h
    constructor
    · rcases Int.lt_or_le (d % g) al with hlt | hle
      · exfalso
        refine h (d % g) (by omega) hlt ?_
        have : d - d % g = g * (d / g) := by omega
        rw [this]
        exact Int.mul_emod_right _ _
      · exact hle
    · rcases Int.lt_or_le (g - bl) (d % g) with hlt | hle
      · exfalso
        refine h (d % g - g) (by omega) (by omega) ?_
        have : d - (d % g - g) = g * (d / g + 1) := by rw [Int.mul_add]; omega
        rw [this]
        exact Int.mul_emod_right _ _
      · exact hle
  · rintro ⟨h2, h3⟩ x hx1 hx2 hx
    obtain ⟨q, hq⟩ := Int.dvd_of_emod_eq_zero hx
    -- d - x = g q, so d % g - x = g (q - d / g)
    have e : d % g - x = g * (q - d / g) := by rw [Int.mul_sub]; omega
    generalize q - d / g = k at e
    rcases Int.lt_trichotomy k 0 with hk | hk | hk
    · have : g * k ≤ g * (-1) := Int.mul_le_mul_of_nonneg_left (by omega) (by omega)
      omega
    · subst hk; omega
    · have : g * 1 ≤ g * k := Int.mul_le_mul_of_nonneg_left (by omega) (by omega)
      omega
end Go.Sh
