/- Runs by number, and the interval that needs the greatest latency. -/
import Derived.Test.YtcbolnjnhiaiiaaSer5
namespace Go.Sh
open Go Go.Eng
set_option linter.unusedVariables false
set_option linter.unusedSimpArgs false

/-- The end of the run before run m (the window's beginning for m = 0). -/
def prevE (a : Int) (l : List (Int × Int)) : Nat → Int
  | 0 => a
  | m + 1 => ((l[m]?).getD (0, 0)).2

theorem prevE_cons (a : Int) (x : Int × Int) (l : List (Int × Int)) (m : Nat) : prevE a (x :: l) (m + 1) = prevE x.2 l m := by
  cases m <;> simp [prevE]

theorem runs_get {p : Int → Bool} {b : Int} : ∀ {l : List (Int × Int)} {a : Int}, IsRuns p b a l → ∀ m, m < l.length → ∃ x, l[m]? = some x ∧ prevE a l m ≤ x.1 ∧ x.1 < x.2 ∧ x.2 ≤ b ∧ (∀ t, x.1 ≤ t → t < x.2 → p t = true) ∧ (∀ t, prevE a l m ≤ t → t < x.1 → p t = false) ∧ (x.2 < b → p x.2 = false)
  | [], a, _, m, h => by simp at h
  | x :: l, a, ⟨h1, h2, h3, h4, h5, h6, h7⟩, 0, _ => ⟨x, rfl, h1, h2, h3, h5, h4, h6⟩
  | x :: l, a, ⟨h1, h2, h3, h4, h5, h6, h7⟩, m + 1, h => by
    rw [prevE_cons]
    exact runs_get h7 m (by simpa using h)

theorem runs_end {p : Int → Bool} {b : Int} : ∀ {l : List (Int × Int)} {a : Int}, IsRuns p b a l → ∀ t, prevE a l l.length ≤ t → t < b → p t = false
  | [], a, h => h
  | x :: l, a, ⟨h1, h2, h3, h4, h5, h6, h7⟩ => by
    rw [List.length_cons, prevE_cons]
    exact runs_end h7

theorem runs_find {p : Int → Bool} {b : Int} : ∀ {l : List (Int × Int)} {a : Int}, IsRuns p b a l → ∀ t, a ≤ t → t < b → p t = true → ∃ (m : Nat) (x : Int × Int), l[m]? = some x ∧ x.1 ≤ t ∧ t < x.2
  | [], a, h, t, t0, t1, ht => by rw [h t t0 t1] at ht; cases ht
  | x :: l, a, ⟨h1, h2, h3, h4, h5, h6, h7⟩, t, t0, t1, ht => by
    rcases Int.lt_or_le t x.1 with w | w
    · rw [h4 t t0 w] at ht; cases ht
    rcases Int.lt_or_le t x.2 with v | v
    · exact ⟨0, x, rfl, w, v⟩
    · obtain ⟨m, y, e1, e2⟩ := runs_find h7 t v t1 ht
      exact ⟨m + 1, y, e1, e2⟩

theorem per_k {p : Int → Bool} {C : Int} (hp : ∀ t, p (t + C) = p t) (k : Int) (t : Int) : p (t + k * C) = p t := by
  have key : ∀ n : Nat, ∀ t, p (t + n * C) = p t := by
    intro n
    induction n with
    | zero => intro t; simp
    | succ n ih => intro t; rw [show t + ((n + 1 : Nat) : Int) * C = t + n * C + C by rw [Int.natCast_add, Int.add_mul]; simp; omega, hp, ih]
  rcases Int.le_total 0 k with h | h
  · have := key k.toNat t
    rwa [Int.toNat_of_nonneg h] at this
  · have := key (-k).toNat (t + k * C)
    rw [Int.toNat_of_nonneg (by omega), Int.neg_mul, show t + k * C + -(k * C) = t by omega] at this
    exact this.symm

theorem cnt_shift_k {q : Int → Bool} {C : Int} (h : ∀ t, q (t + C) = q t) (k x y : Int) : cnt q (x + k * C) (y + k * C) = cnt q x y := cnt_shift (fun t => per_k h k t) x y

/-- The beginnings and ends of the runs, over and over. -/
def rB (l : List (Int × Int)) (C : Int) (m : Nat) : Int := ((l[m % l.length]?).getD (0, 0)).1 + ((m / l.length : Nat) : Int) * C
def rE (l : List (Int × Int)) (C : Int) (m : Nat) : Int := ((l[m % l.length]?).getD (0, 0)).2 + ((m / l.length : Nat) : Int) * C

structure Per (p : Int → Bool) (C a0 : Int) (l : List (Int × Int)) : Prop where
  pos : 0 < C
  per : ∀ t, p (t + C) = p t
  cl : p a0 = false
  runs : IsRuns p (a0 + C) a0 l

namespace Per
variable {p : Int → Bool} {C a0 : Int} {l : List (Int × Int)}

theorem open_ (h : Per p C a0 l) (hn : 0 < l.length) (m : Nat) : rB l C m < rE l C m ∧ ∀ t, rB l C m ≤ t → t < rE l C m → p t = true := by
  obtain ⟨x, e1, e2, e3, e4, e5, e6, e7⟩ := runs_get h.runs (m % l.length) (Nat.mod_lt _ hn)
  unfold rB rE
  rw [e1]
  simp only [Option.getD_some]
  refine ⟨by omega, fun t u v => ?_⟩
  have := e5 (t - ((m / l.length : Nat) : Int) * C) (by omega) (by omega)
  have k := per_k h.per ((m / l.length : Nat) : Int) (t - ((m / l.length : Nat) : Int) * C)
  rw [show t - ((m / l.length : Nat) : Int) * C + ((m / l.length : Nat) : Int) * C = t by omega] at k
  rw [k, this]

theorem closed0 (h : Per p C a0 l) (hn : 0 < l.length) : ∃ x, l[0]? = some x ∧ a0 < x.1 ∧ x.1 < x.2 ∧ ∀ t, a0 ≤ t → t < x.1 → p t = false := by
  obtain ⟨x, e1, e2, e3, e4, e5, e6, e7⟩ := runs_get h.runs 0 hn
  refine ⟨x, e1, ?_, e3, e6⟩
  rcases Int.lt_or_le a0 x.1 with w | w
  · exact w
  · have := e5 a0 w (by simp only [prevE] at e2; omega)
    rw [h.cl] at this; cases this

theorem gap (h : Per p C a0 l) (hn : 0 < l.length) (m : Nat) : rE l C m < rB l C (m + 1) ∧ ∀ t, rE l C m ≤ t → t < rB l C (m + 1) → p t = false := by
  have hm := Nat.mod_lt m hn
  obtain ⟨x, e1, e2, e3, e4, e5, e6, e7⟩ := runs_get h.runs (m % l.length) hm
  have kk := fun t => per_k h.per ((m / l.length : Nat) : Int) (t - ((m / l.length : Nat) : Int) * C)
  have kk : ∀ t, p t = p (t - ((m / l.length : Nat) : Int) * C) := fun t => by
    have := kk t
    rwa [show t - ((m / l.length : Nat) : Int) * C + ((m / l.length : Nat) : Int) * C = t by omega] at this
  by_cases hc : m % l.length + 1 < l.length
  · have hm1 : (m + 1) % l.length = m % l.length + 1 := by rw [Nat.add_mod, Nat.mod_eq_of_lt (show 1 < l.length by omega), Nat.mod_eq_of_lt hc]
    have hd1 : (m + 1) / l.length = m / l.length := by
      have a := Nat.div_add_mod (m + 1) l.length
      have b := Nat.div_add_mod m l.length
      rw [hm1] at a
      exact Nat.eq_of_mul_eq_mul_left hn (by omega)
    obtain ⟨y, f1, f2, f3, f4, f5, f6, f7⟩ := runs_get h.runs (m % l.length + 1) hc
    unfold rE rB
    rw [hm1, hd1, e1, f1]
    simp only [Option.getD_some]
    have hpe : prevE a0 l (m % l.length + 1) = x.2 := by simp [prevE, e1]
    rw [hpe] at f2 f6
    have hlt : x.2 < y.1 := by
      rcases Int.lt_or_le x.2 y.1 with w | w
      · exact w
      · have a := e7 (by omega)
        rw [f5 x.2 w (by omega)] at a; cases a
    exact ⟨by omega, fun t u v => by rw [kk]; exact f6 _ (by omega) (by omega)⟩
  · have hm1 : (m + 1) % l.length = 0 := by
      rw [← Nat.div_add_mod m l.length, show l.length * (m / l.length) + m % l.length + 1 = l.length * (m / l.length + 1) by rw [Nat.mul_add]; omega, Nat.mul_mod_right]
    have hd1 : (m + 1) / l.length = m / l.length + 1 := by
      have a := Nat.div_add_mod (m + 1) l.length
      have b := Nat.div_add_mod m l.length
      rw [hm1] at a
      refine Nat.eq_of_mul_eq_mul_left hn ?_
      rw [Nat.mul_add]; omega
    obtain ⟨y, f1, f2, f3, f4⟩ := h.closed0 hn
    unfold rE rB
    rw [hm1, hd1, e1, f1]
    simp only [Option.getD_some]
    rw [Int.natCast_add, Int.add_mul]
    have hpe : prevE a0 l l.length = x.2 := by
      rw [show l.length = m % l.length + 1 by omega]
      simp [prevE, e1]
    have he := runs_end h.runs
    rw [hpe] at he
    refine ⟨by omega, fun t u v => ?_⟩
    rw [kk]
    rcases Int.lt_or_le (t - ((m / l.length : Nat) : Int) * C) (a0 + C) with w | w
    · exact he _ (by omega) w
    · have a := f4 (t - ((m / l.length : Nat) : Int) * C - C) (by omega) (by omega)
      have b := h.per (t - ((m / l.length : Nat) : Int) * C - C)
      rw [show t - ((m / l.length : Nat) : Int) * C - C + C = t - ((m / l.length : Nat) : Int) * C by omega] at b
      rw [b, a]

theorem mono (h : Per p C a0 l) (hn : 0 < l.length) (m : Nat) : ∀ d : Nat, rE l C m ≤ rE l C (m + d)
  | 0 => Int.le_refl _
  | d + 1 => by
    have := h.mono hn m d
    have a := (h.gap hn (m + d)).1
    have b := (h.open_ hn (m + d + 1)).1
    rw [show m + (d + 1) = m + d + 1 by omega]
    omega
end Per

theorem nextC {q : Int → Bool} {b : Bool} {u : Int} (h : q u = b) (hx : ∃ t, u ≤ t ∧ q t = !b) : ∃ e, u < e ∧ q e = !b ∧ ∀ t, u ≤ t → t < e → q t = b := by
  obtain ⟨t, ht, hq⟩ := hx
  have key : ∀ n : Nat, q (u + n) = !b → ∃ e, u < e ∧ q e = !b ∧ ∀ t, u ≤ t → t < e → q t = b := by
    intro n
    induction n using Nat.strongRecOn with
    | ind n ih =>
      intro hn
      by_cases hall : ∀ t, u ≤ t → t < u + n → q t = b
      · refine ⟨u + n, ?_, hn, hall⟩
        rcases Nat.eq_zero_or_pos n with w | w
        · subst w
          simp [h] at hn
        · omega
      · simp only [Classical.not_forall] at hall
        obtain ⟨t, t0, t1, t2⟩ := hall
        refine ih (t - u).toNat (by omega) ?_
        rw [show u + ((t - u).toNat : Int) = t by omega]
        cases hh : q t <;> cases hb : b <;> simp_all
  refine key (t - u).toNat ?_
  rw [show u + ((t - u).toNat : Int) = t by omega, hq]

theorem prevC {q : Int → Bool} {b : Bool} {u : Int} (h : q u = b) (hx : ∃ t, t ≤ u ∧ q t = !b) : ∃ e, e ≤ u ∧ q (e - 1) = !b ∧ ∀ t, e ≤ t → t ≤ u → q t = b := by
  obtain ⟨t, ht, hq⟩ := hx
  obtain ⟨e, h1, h2, h3⟩ := nextC (q := fun t => q (-t)) (b := b) (u := -u) (by simpa using h) ⟨-t, by omega, by simpa using hq⟩
  refine ⟨-e + 1, by omega, by simpa using h2, fun t t0 t1 => ?_⟩
  have := h3 (-t) (by omega) (by omega)
  simpa using this
end Go.Sh
