/- Gate lists: the least time at which a class fits. -/
import Derived.Test.YtcbolnjnhiaiiaaGat2
import Derived.Test.YtcbolnjnhiaiiaaRd
namespace Go.Sh
open Go Go.Eng

/-- The class c fits at x for l ticks. -/
def FitsAt (E : List api_Entry) (c l x : Int) : Prop := l = 0 ∨ (∀ e ∈ E, bitB c e.Mask = true) ∨ (∀ k, 0 ≤ k → k < l → bitB c (mAt E (x + k)) = true)

theorem opn_ge {g : api_Gates} (hg : VG g) {c x r l : Int} (hr : IsSt g.Entries (bitB c) x r) (h0 : 0 ≤ l) (h1 : l ≤ 1099511627776) : (l = 0 ∨ opn g.Cycle r ≥ l) ↔ FitsAt g.Entries c l x := by
  have hC := hg.2.2.2
  have hb := (sumL_bound hg.ok).1
  unfold FitsAt opn
  rcases hr with ⟨a1, a2⟩ | ⟨a1, a2, a3, a4⟩
  · rw [if_pos (by omega)]
    constructor
    · intro _; exact .inr (.inl a2)
    · intro _; omega
  · rw [if_neg (by omega)]
    constructor
    · rintro (h | h)
      · exact .inl h
      · exact .inr (.inr fun k k0 k1 => a3 k k0 (by omega))
    · rintro (h | h | h)
      · exact .inl h
      · obtain ⟨e, he, hm⟩ := mAt_mem hg.ok hg.1 (x + r)
        rw [hm, h e he] at a4; cases a4
      · rcases Int.lt_or_le r l with hlt | hle
        · rw [h r a1 hlt] at a4; cases a4
        · right; omega

theorem fits_period {E : List api_Entry} (h : ∀ e ∈ E, okE e = true) (hne : 1 ≤ E.length) {c l x : Int} : FitsAt E c l (x + sumL E) ↔ FitsAt E c l x := by
  have hm : ∀ k, mAt E (x + sumL E + k) = mAt E (x + k) := fun k => by
    have := mAt_period h hne (x + k) 1
    rwa [show x + k + 1 * sumL E = x + sumL E + k by omega] at this
  unfold FitsAt
  simp only [hm]

/-- Within an entry: who fits later fits earlier. -/
theorem fits_back {E : List api_Entry} (h : ∀ e ∈ E, okE e = true) {t : Int} {i : Nat} {e : api_Entry} {s c l y : Int} (ha : AtE E t i e s) (hy0 : 0 ≤ y) (hy1 : s + y < e.Long) (hf : FitsAt E c l (t + y)) (hl : 0 ≤ l) : FitsAt E c l t := by
  rcases hf with hf | hf | hf
  · exact .inl hf
  · exact .inr (.inl hf)
  · by_cases hl0 : l = 0
    · exact .inl hl0
    · right; right
      intro k k0 k1
      have hb : bitB c e.Mask = true := by
        have := hf 0 (by omega) (by omega)
        rw [Int.add_zero, ticks_in h ha (by have := ha.2.1; omega) hy1] at this
        exact this
      by_cases hk : k ≤ y
      · rw [ticks_in h ha (by have := ha.2.1; omega) (by omega)]; exact hb
      · have := hf (k - y) (by omega) (by omega)
        rwa [show t + y + (k - y) = t + k by omega] at this

/-- The least time from t on at which the class fits. -/
def IsLeast (E : List api_Entry) (c l t : Int) : Option Int → Prop
  | some x => t ≤ x ∧ FitsAt E c l x ∧ ∀ y, t ≤ y → y < x → ¬ FitsAt E c l y
  | none => ∀ y, t ≤ y → ¬ FitsAt E c l y

theorem IsLeast_unique {E : List api_Entry} {c l t : Int} {a b : Option Int} (ha : IsLeast E c l t a) (hb : IsLeast E c l t b) : a = b := by
  cases a <;> cases b
  · rfl
  · exact absurd hb.2.1 (ha _ hb.1)
  · exact absurd ha.2.1 (hb _ ha.1)
  · rename_i x y
    rcases Int.lt_trichotomy x y with h | h | h
    · exact absurd ha.2.1 (hb.2.2 x ha.1 h)
    · rw [h]
    · exact absurd hb.2.1 (ha.2.2 y hb.1 h)

/-- None fits, if none fits within a cycle. -/
theorem none_fits {E : List api_Entry} (h : ∀ e ∈ E, okE e = true) (hne : 1 ≤ E.length) {c l t : Int} (hn : ∀ y, t ≤ y → y < t + sumL E → ¬ FitsAt E c l y) : ∀ y, t ≤ y → ¬ FitsAt E c l y := by
  have hb := (sumL_bound h).1
  have key : ∀ (n : Nat) (y : Int), t ≤ y → y < t + sumL E * (n + 1) → ¬ FitsAt E c l y := by
    intro n
    induction n with
    | zero => intro y h1 h2; exact hn y h1 (by rw [show sumL E * ((0 : Nat) + 1 : Int) = sumL E by simp] at h2; exact h2)
    | succ n ih =>
      intro y h1 h2 hf
      by_cases hy : y < t + sumL E
      · exact hn y h1 hy hf
      · refine ih (y - sumL E) (by omega) ?_ ?_
        · have : sumL E * (((n + 1 : Nat) : Int) + 1) = sumL E * ((n : Int) + 1) + sumL E := by rw [Int.natCast_add, Int.mul_add]; simp
          omega
        · have := (fits_period h hne (c := c) (l := l) (x := y - sumL E)).1
          rw [show y - sumL E + sumL E = y by omega] at this
          exact this hf
  intro y hy
  refine key (y - t).toNat y hy ?_
  have h1 : ((y - t).toNat : Int) = y - t := by omega
  have h2 : (y - t) * 1 ≤ (y - t) * sumL E := Int.mul_le_mul_of_nonneg_left (by omega) (by omega)
  rw [h1, Int.mul_add, Int.mul_comm (sumL E) (y - t)]
  omega

theorem notIsSt_all {E : List api_Entry} {p : Int → Bool} {t r : Int} (h : IsSt E p t r) (hne : r ≠ sumL E) : 0 ≤ r ∧ r < sumL E ∧ (∀ k, 0 ≤ k → k < r → p (mAt E (t + k)) = true) ∧ p (mAt E (t + r)) = false := by
  rcases h with ⟨a, _⟩ | h
  · exact absurd a hne
  · exact h

/-- What Fit returns. -/
def fitS : Option Int → Int × Int
  | some x => (x, 0)
  | none => (0, 4)

theorem appI_small {α : Type} {b : Nat} {l m : List α} (h : l.length + m.length ≤ 100000) (hb : b ≤ 100000) : appI b l m = some (l ++ m) := by
  unfold appI
  rw [if_pos]
  have : (l.length + m.length) * b ≤ 100000 * 100000 := Nat.mul_le_mul h hb
  omega

end Go.Sh