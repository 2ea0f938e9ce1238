/- Counting ticks; runs of ticks. -/
import Derived.Test.YtcbolnjnhiaiiaaGat5
namespace Go.Sh
open Go Go.Eng
set_option linter.unusedVariables false
set_option linter.unusedSimpArgs false

def cntN (q : Int → Bool) (x : Int) : Nat → Int
  | 0 => 0
  | n + 1 => cntN q x n + (if q (x + n) = true then 1 else 0)

/-- How many ticks from x up to y have the property. -/
def cnt (q : Int → Bool) (x y : Int) : Int := cntN q x (y - x).toNat

theorem cnt_nil {q : Int → Bool} {x y : Int} (h : y ≤ x) : cnt q x y = 0 := by
  unfold cnt
  rw [show (y - x).toNat = 0 by omega]
  rfl

theorem cnt_snoc {q : Int → Bool} {x y : Int} (h : x ≤ y) : cnt q x (y + 1) = cnt q x y + (if q y = true then 1 else 0) := by
  unfold cnt
  rw [show (y + 1 - x).toNat = (y - x).toNat + 1 by omega]
  show cntN q x (y - x).toNat + _ = _
  rw [show x + ((y - x).toNat : Int) = y by omega]

theorem up {P : Int → Prop} {m : Int} (h0 : P m) (h1 : ∀ y, m ≤ y → P y → P (y + 1)) : ∀ y, m ≤ y → P y := by
  have key : ∀ n : Nat, P (m + n) := by
    intro n
    induction n with
    | zero => simpa using h0
    | succ n ih => have := h1 _ (by omega) ih; rw [show m + ((n + 1 : Nat) : Int) = m + n + 1 by omega]; exact this
  intro y hy
  have := key (y - m).toNat
  rwa [show m + ((y - m).toNat : Int) = y by omega] at this

theorem cnt_split {q : Int → Bool} {x m y : Int} (h : x ≤ m) (h' : m ≤ y) : cnt q x y = cnt q x m + cnt q m y := by
  refine up (P := fun y => cnt q x y = cnt q x m + cnt q m y) ?_ (fun y hy ih => ?_) y h'
  · rw [cnt_nil (x := m) (Int.le_refl _)]; omega
  · rw [cnt_snoc (by omega), cnt_snoc hy, ih]; omega

theorem cnt_zero {q : Int → Bool} {x y : Int} (h : ∀ t, x ≤ t → t < y → q t = false) : cnt q x y = 0 := by
  rcases Int.lt_or_le y x with h1 | h1
  · exact cnt_nil (by omega)
  · refine up (P := fun y => (∀ t, x ≤ t → t < y → q t = false) → cnt q x y = 0) (fun _ => cnt_nil (Int.le_refl _)) (fun y hy ih hq => ?_) y h1 h
    rw [cnt_snoc hy, ih fun t a b => hq t a (by omega), hq y hy (by omega)]
    simp

theorem cnt_full {q : Int → Bool} {x y : Int} (hxy : x ≤ y) (h : ∀ t, x ≤ t → t < y → q t = true) : cnt q x y = y - x := by
  refine up (P := fun y => (∀ t, x ≤ t → t < y → q t = true) → cnt q x y = y - x) (fun _ => by rw [cnt_nil (Int.le_refl _)]; omega) (fun y hy ih hq => ?_) y hxy h
  rw [cnt_snoc hy, ih fun t a b => hq t a (by omega), hq y hy (by omega)]
  simp; omega

theorem cnt_le {q q' : Int → Bool} {x y : Int} (h : ∀ t, x ≤ t → t < y → q t = true → q' t = true) : cnt q x y ≤ cnt q' x y := by
  rcases Int.lt_or_le y x with h1 | h1
  · rw [cnt_nil (by omega), cnt_nil (by omega)]; exact Int.le_refl _
  · refine up (P := fun y => (∀ t, x ≤ t → t < y → q t = true → q' t = true) → cnt q x y ≤ cnt q' x y) (fun _ => by rw [cnt_nil (Int.le_refl _), cnt_nil (Int.le_refl _)]; exact Int.le_refl _) (fun y hy ih hq => ?_) y h1 h
    rw [cnt_snoc hy, cnt_snoc hy]
    have := ih fun t a b => hq t a (by omega)
    have h2 := hq y hy (by omega)
    cases hqy : q y with
    | false => simp; split <;> omega
    | true => rw [h2 hqy]; simp; omega

theorem cnt_nonneg (q : Int → Bool) (x y : Int) : 0 ≤ cnt q x y := by
  have : cnt (fun _ => false) x y = 0 := cnt_zero fun _ _ _ => rfl
  have h := cnt_le (q := fun _ => false) (q' := q) (x := x) (y := y) (fun _ _ _ h => by cases h)
  omega

theorem cnt_congr {q q' : Int → Bool} {x y : Int} (h : ∀ t, x ≤ t → t < y → q t = q' t) : cnt q x y = cnt q' x y := by
  have h1 := cnt_le (q := q) (q' := q') (x := x) (y := y) fun t a b c => by rw [← h t a b]; exact c
  have h2 := cnt_le (q := q') (q' := q) (x := x) (y := y) fun t a b c => by rw [h t a b]; exact c
  omega

theorem cnt_bound {q : Int → Bool} {x y : Int} (h : x ≤ y) : cnt q x y ≤ y - x := by
  have h1 := cnt_full (q := fun _ => true) h fun _ _ _ => rfl
  have h2 := cnt_le (q := q) (q' := fun _ => true) (x := x) (y := y) fun _ _ _ _ => rfl
  omega

theorem cnt_shift {q : Int → Bool} {C : Int} (h : ∀ t, q (t + C) = q t) (x y : Int) : cnt q (x + C) (y + C) = cnt q x y := by
  rcases Int.lt_or_le y x with h1 | h1
  · rw [cnt_nil (by omega), cnt_nil (by omega)]
  · refine up (P := fun y => cnt q (x + C) (y + C) = cnt q x y) (by rw [cnt_nil (Int.le_refl _), cnt_nil (Int.le_refl _)]) (fun y hy ih => ?_) y h1
    rw [show y + 1 + C = y + C + 1 by omega, cnt_snoc (by omega), cnt_snoc hy, ih, h]

/-- A whole period, wherever it begins. -/
theorem cnt_period {q : Int → Bool} {C : Int} (hC : 0 ≤ C) (h : ∀ t, q (t + C) = q t) (x y : Int) : cnt q x (x + C) = cnt q y (y + C) := by
  have step : ∀ x, cnt q (x + 1) (x + 1 + C) = cnt q x (x + C) := by
    intro x
    have h1 := cnt_split (q := q) (x := x) (m := x + C) (y := x + C + 1) (by omega) (by omega)
    have h2 := cnt_split (q := q) (x := x) (m := x + 1) (y := x + C + 1) (by omega) (by omega)
    have h3 : cnt q (x + C) (x + C + 1) = cnt q x (x + 1) := by
      have := cnt_shift h x (x + 1)
      rwa [show x + 1 + C = x + C + 1 by omega] at this
    rw [show x + 1 + C = x + C + 1 by omega]
    omega
  have all : ∀ x y, x ≤ y → cnt q y (y + C) = cnt q x (x + C) := fun x y hxy =>
    up (P := fun y => cnt q y (y + C) = cnt q x (x + C)) rfl (fun y _ ih => by rw [step, ih]) y hxy
  rcases Int.le_total x y with h1 | h1
  · exact (all x y h1).symm
  · exact all y x h1

/-- All of the last L ticks too. -/
def wt (p : Int → Bool) (L : Int) (t : Int) : Bool := (List.range (L.toNat + 1)).all fun k => p (t - k)

theorem wt_iff {p : Int → Bool} {L t : Int} (hL : 0 ≤ L) : wt p L t = true ↔ ∀ k, 0 ≤ k → k ≤ L → p (t - k) = true := by
  unfold wt
  rw [List.all_eq_true]
  constructor
  · intro h k h0 h1
    have := h k.toNat (List.mem_range.2 (by omega))
    rwa [show t - (k.toNat : Int) = t - k by omega] at this
  · intro h k hk
    exact h k (by omega) (by have := List.mem_range.1 hk; omega)

theorem wt_false {p : Int → Bool} {L t : Int} (hL : 0 ≤ L) {u : Int} (h0 : t - L ≤ u) (h1 : u ≤ t) (hp : p u = false) : wt p L t = false := by
  cases h : wt p L t with
  | false => rfl
  | true =>
    have := (wt_iff hL).1 h (t - u) (by omega) (by omega)
    rw [show t - (t - u) = u by omega, hp] at this
    cases this

theorem wt_period {p : Int → Bool} {L C : Int} (h : ∀ t, p (t + C) = p t) (t : Int) : wt p L (t + C) = wt p L t := by
  unfold wt
  congr 1
  funext k
  rw [show t + C - (k : Int) = t - k + C by omega, h]

/-- The runs of open ticks from a up to b. -/
def IsRuns (p : Int → Bool) (b : Int) : Int → List (Int × Int) → Prop
  | a, [] => ∀ t, a ≤ t → t < b → p t = false
  | a, x :: l => a ≤ x.1 ∧ x.1 < x.2 ∧ x.2 ≤ b ∧ (∀ t, a ≤ t → t < x.1 → p t = false) ∧ (∀ t, x.1 ≤ t → t < x.2 → p t = true) ∧ (x.2 < b → p x.2 = false) ∧ IsRuns p b x.2 l

def f0 (L n : Int) : Int := if n - L > 0 then n - L else 0
def sumR (L : Int) : List (Int × Int) → Int
  | [] => 0
  | x :: l => f0 L (x.2 - x.1) + sumR L l

theorem sumR_append (L : Int) (a b : List (Int × Int)) : sumR L (a ++ b) = sumR L a + sumR L b := by
  induction a with
  | nil => simp [sumR]
  | cons x a ih => simp [sumR, ih]; omega

theorem runs_one {p : Int → Bool} {L a b B E : Int} (hL : 0 ≤ L) (h1 : a ≤ B) (h2 : B < E) (h3 : E ≤ b) (h4 : ∀ t, a ≤ t → t < B → p t = false) (h5 : ∀ t, B ≤ t → t < E → p t = true) (h6 : E < b → p E = false) :
    cnt (wt p L) (a + L) b = f0 L (E - B) + cnt (wt p L) (E + L) b := by
  have z1 : ∀ t, a + L ≤ t → t < B + L → wt p L t = false := fun t u v => wt_false hL (u := t - L) (by omega) (by omega) (h4 _ (by omega) (by omega))
  have z2 : ∀ t, B + L ≤ t → t < E → wt p L t = true := fun t u v => (wt_iff hL).2 fun k k0 k1 => h5 _ (by omega) (by omega)
  have z3 : ∀ t, E ≤ t → t < E + L → t < b → wt p L t = false := fun t u v w => wt_false hL (u := E) (by omega) (by omega) (h6 (by omega))
  unfold f0
  rcases Int.lt_or_le (B + L) E with hBE | hBE
  · rw [if_pos (by omega), cnt_split (x := a + L) (m := B + L) (y := b) (by omega) (by omega), cnt_zero (x := a + L) (y := B + L) z1, cnt_split (x := B + L) (m := E) (y := b) (by omega) (by omega), cnt_full (x := B + L) (y := E) (by omega) z2]
    rcases Int.lt_or_le (E + L) b with hb | hb
    · rw [cnt_split (x := E) (m := E + L) (y := b) (by omega) (by omega), cnt_zero (x := E) (y := E + L) (fun t u v => z3 t u v (by omega))]; omega
    · rw [cnt_zero (x := E) (y := b) (fun t u v => z3 t u (by omega) v), cnt_nil (x := E + L) hb]; omega
  · rw [if_neg (by omega)]
    have z4 : ∀ t, a + L ≤ t → t < E + L → t < b → wt p L t = false := fun t u v w => by
      rcases Int.lt_or_le t (B + L) with h | h
      · exact z1 t u h
      · exact z3 t (by omega) v w
    rcases Int.lt_or_le (E + L) b with hb | hb
    · rw [cnt_split (x := a + L) (m := E + L) (y := b) (by omega) (by omega), cnt_zero (x := a + L) (y := E + L) (fun t u v => z4 t u v (by omega))]
    · rw [cnt_zero (x := a + L) (y := b) (fun t u v => z4 t u (by omega) v), cnt_nil (x := E + L) hb]; omega

/-- What the runs give, counted tick by tick. -/
theorem runs_sum {p : Int → Bool} {L b : Int} (hL : 0 ≤ L) : ∀ {l : List (Int × Int)} {a : Int}, IsRuns p b a l → sumR L l = cnt (wt p L) (a + L) b
  | [], a, h => by
    rw [cnt_zero fun t u v => wt_false hL (u := t) (by omega) (by omega) (h t (by omega) v)]
    rfl
  | x :: l, a, ⟨h1, h2, h3, h4, h5, h6, h7⟩ => by
    rw [runs_one hL h1 h2 h3 h4 h5 h6, ← runs_sum hL h7]
    rfl

theorem runs_unique {p : Int → Bool} {b : Int} : ∀ {l l' : List (Int × Int)} {a : Int}, IsRuns p b a l → IsRuns p b a l' → l = l'
  | [], [], _, _, _ => rfl
  | [], y :: l', a, h, ⟨g1, g2, g3, g4, g5, g6, g7⟩ => by
    have := h y.1 g1 (by omega)
    rw [g5 y.1 (by omega) g2] at this; cases this
  | x :: l, [], a, ⟨h1, h2, h3, h4, h5, h6, h7⟩, g => by
    have := g x.1 h1 (by omega)
    rw [h5 x.1 (by omega) h2] at this; cases this
  | x :: l, y :: l', a, ⟨h1, h2, h3, h4, h5, h6, h7⟩, ⟨g1, g2, g3, g4, g5, g6, g7⟩ => by
    have e1 : x.1 = y.1 := by
      rcases Int.lt_trichotomy x.1 y.1 with h | h | h
      · have := g4 x.1 h1 h; rw [h5 x.1 (by omega) h2] at this; cases this
      · exact h
      · have := h4 y.1 g1 h; rw [g5 y.1 (by omega) g2] at this; cases this
    have e2 : x.2 = y.2 := by
      rcases Int.lt_trichotomy x.2 y.2 with h | h | h
      · have := h6 (by omega); rw [g5 x.2 (by omega) h] at this; cases this
      · exact h
      · have := g6 (by omega); rw [h5 y.2 (by omega) h] at this; cases this
    obtain ⟨x1, x2⟩ := x
    obtain ⟨y1, y2⟩ := y
    simp only at e1 e2
    subst e1 e2
    rw [runs_unique h7 g7]

theorem runs_closed {p : Int → Bool} {b c : Int} (hbc : b ≤ c) (hp : ∀ t, b ≤ t → t < c → p t = false) : ∀ {l : List (Int × Int)} {a : Int}, IsRuns p b a l → IsRuns p c a l
  | [], a, h => fun t u v => by
    rcases Int.lt_or_le t b with w | w
    · exact h t u w
    · exact hp t w v
  | x :: l, a, ⟨h1, h2, h3, h4, h5, h6, h7⟩ => ⟨h1, h2, by omega, h4, h5, fun h => by
      rcases Int.lt_or_le x.2 b with w | w
      · exact h6 w
      · exact hp _ w h, runs_closed hbc hp h7⟩

theorem runs_front {p : Int → Bool} {b a a' : Int} (h : a' ≤ a) (hp : ∀ t, a' ≤ t → t < a → p t = false) {l : List (Int × Int)} (hr : IsRuns p b a l) : IsRuns p b a' l := by
  have key : ∀ {e : Int}, (∀ t, a ≤ t → t < e → p t = false) → ∀ t, a' ≤ t → t < e → p t = false := fun he t u v => by
    rcases Int.lt_or_le t a with w | w
    · exact hp t u w
    · exact he t w v
  cases l with
  | nil => exact key hr
  | cons x l =>
    obtain ⟨h1, h2, h3, h4, h5, h6, h7⟩ := hr
    exact ⟨by omega, h2, h3, key h4, h5, h6, h7⟩

theorem runs_snoc {p : Int → Bool} {b c : Int} (hbc : b < c) (hp : ∀ t, b ≤ t → t < c → p t = true) : ∀ {l : List (Int × Int)} {a : Int}, a ≤ b → (b = a ∨ p (b - 1) = false) → IsRuns p b a l → IsRuns p c a (l ++ [(b, c)])
  | [], a, hab, _, h => ⟨hab, hbc, Int.le_refl _, h, hp, fun h => by simp at h, fun t u v => by simp at u; omega⟩
  | x :: l, a, hab, hb, ⟨h1, h2, h3, h4, h5, h6, h7⟩ => by
    have hlt : x.2 < b := by
      rcases Int.lt_or_le x.2 b with w | w
      · exact w
      · have e : x.2 = b := by omega
        rcases hb with hb | hb
        · omega
        · rw [h5 (b - 1) (by omega) (by omega)] at hb; cases hb
    exact ⟨h1, h2, by omega, h4, h5, fun _ => h6 hlt, runs_snoc hbc hp (by omega) (.inr (hb.resolve_left (by omega))) h7⟩

theorem runs_grow {p : Int → Bool} {b c B : Int} (hbc : b ≤ c) (hp : ∀ t, b ≤ t → t < c → p t = true) : ∀ {l : List (Int × Int)} {a : Int}, IsRuns p b a (l ++ [(B, b)]) → IsRuns p c a (l ++ [(B, c)])
  | [], a, ⟨h1, h2, h3, h4, h5, h6, h7⟩ => ⟨h1, by simp only at h2 ⊢; omega, Int.le_refl _, h4, fun t u v => by
      simp only at u v h5
      rcases Int.lt_or_le t b with w | w
      · exact h5 t u w
      · exact hp t w v, fun h => by simp at h, fun t u v => by simp only at u; omega⟩
  | x :: l, a, ⟨h1, h2, h3, h4, h5, h6, h7⟩ => by
    have hlt : x.2 < b := by
      have : ∀ {l : List (Int × Int)} {a : Int}, IsRuns p b a (l ++ [(B, b)]) → a < b := by
        intro l
        induction l with
        | nil => intro a h; have h1 := h.1; have h2 := h.2.1; simp only at h1 h2; omega
        | cons y l ih => intro a h; have := ih h.2.2.2.2.2.2; have h1 := h.1; have h2 := h.2.1; omega
      exact this h7
    exact ⟨h1, h2, by omega, h4, h5, fun _ => h6 hlt, runs_grow hbc hp h7⟩

theorem runs_last {p : Int → Bool} {b : Int} : ∀ {l : List (Int × Int)} {a : Int}, a < b → p (b - 1) = true → IsRuns p b a l → ∃ l' B, l = l' ++ [(B, b)]
  | [], a, hab, hp, h => by have := h (b - 1) (by omega) (by omega); rw [hp] at this; cases this
  | x :: l, a, hab, hp, ⟨h1, h2, h3, h4, h5, h6, h7⟩ => by
    rcases Int.lt_or_le x.2 b with w | w
    · obtain ⟨l', B, e⟩ := runs_last w hp h7
      exact ⟨x :: l', B, by rw [e]; rfl⟩
    · have e : x.2 = b := by omega
      have hl : l = [] := by
        cases l with
        | nil => rfl
        | cons y l => have h8 := h7.1; have h9 := h7.2.1; have h10 := h7.2.2.1; omega
      exact ⟨[], x.1, by rw [hl, ← e]; rfl⟩
end Go.Sh
