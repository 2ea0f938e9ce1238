/- Gate lists: what the masks mean, tick by tick. -/
import Derived.Test.YtcbolnjnhiaiiaaGat4
namespace Go.Sh
open Go Go.Eng

theorem iterF_upto {ρ : Type} {body : Int → Option (Int ⊕ ρ)} {b : Int} {fin : Int → ρ} (hend : ∀ x, b ≤ x → body x = some (.inr (fin x))) : ∀ (n N : Nat) (a : Int), (b - a).toNat = n → n < N → (∀ x, a ≤ x → x < b → body x = some (.inl (x + 1))) → ∃ x, iterF body N a = some (fin x) := by
  intro n
  induction n with
  | zero =>
    intro N a hn hN _
    cases N with
    | zero => omega
    | succ N => exact ⟨a, iterF_inr (hend a (by omega))⟩
  | succ n ih =>
    intro N a hn hN hs
    cases N with
    | zero => omega
    | succ N =>
      rw [iterF_inl (hs a (Int.le_refl _) (by omega))]
      exact ih N (a + 1) (by omega) (by omega) fun x h1 h2 => hs x (by omega) h2

theorem IsSt_period {E : List api_Entry} (h : ∀ e ∈ E, okE e = true) (hne : 1 ≤ E.length) {p : Int → Bool} {t r : Int} (k : Int) (hr : IsSt E p t r) : IsSt E p (t + k * sumL E) r := by
  have hm : ∀ j, mAt E (t + k * sumL E + j) = mAt E (t + j) := fun j => by
    have := mAt_period h hne (t + j) k
    rwa [show t + j + k * sumL E = t + k * sumL E + j by omega] at this
  rcases hr with hr | ⟨a1, a2, a3, a4⟩
  · exact .inl hr
  · exact .inr ⟨a1, a2, fun j j0 j1 => by rw [hm]; exact a3 j j0 j1, by rw [hm]; exact a4⟩

theorem errS_ok {g : api_Gates} (hg : VG g) {c t l : Int} (hc : 0 ≤ c ∧ c ≤ 7) (ht : -1099511627776 ≤ t ∧ t ≤ 1099511627776) (hl : 0 ≤ l ∧ l ≤ 1099511627776) : errS g c t l = 0 := by
  unfold errS
  rw [if_pos hg, if_pos (by omega)]

theorem mAt_range {g : api_Gates} (hg : VG g) (t : Int) : 0 ≤ mAt g.Entries t ∧ mAt g.Entries t ≤ 255 := by
  obtain ⟨e, he, hm⟩ := mAt_mem hg.ok hg.1 t
  have := okE_iff.1 (hg.ok e he)
  omega

theorem small_cycle {g : api_Gates} (hg : VG g) (hl : g.Entries.length ≤ 16) (h20 : ∀ e ∈ g.Entries, e.Long ≤ 20) : 1 ≤ g.Cycle ∧ g.Cycle ≤ 320 := by
  have hC := hg.2.2.2.1
  have hb := (sumL_bound hg.ok).1
  have hlen := hg.1
  have hs : ∀ l : List api_Entry, (∀ e ∈ l, e.Long ≤ 20) → sumL l ≤ 20 * l.length := by
    intro l
    induction l with
    | nil => intro _; simp [sumL]
    | cons e l ih =>
      intro h
      have := h e (by simp)
      have := ih fun x hx => h x (by simp [hx])
      simp only [sumL, List.length_cons]
      omega
  have := hs g.Entries h20
  omega

theorem mod8 {c : Int} (h : 0 ≤ c ∧ c ≤ 255) : 0 ≤ w64 (c.tmod 8) ∧ w64 (c.tmod 8) ≤ 7 := by
  have h1 : c.tmod 8 = c % 8 := Int.tmod_eq_emod_of_nonneg h.1
  have h2 := Int.emod_nonneg c (show (8 : Int) ≠ 0 by decide)
  have h3 := Int.emod_lt_of_pos c (show (0 : Int) < 8 by decide)
  rw [h1, w64_id (by omega) (by omega)]
  omega

theorem mod48 {c : Int} (h : 0 ≤ c ∧ c ≤ 255) : 0 ≤ w64 (c.tmod 48) ∧ w64 (c.tmod 48) ≤ 47 := by
  have h1 : c.tmod 48 = c % 48 := Int.tmod_eq_emod_of_nonneg h.1
  have h2 := Int.emod_nonneg c (show (48 : Int) ≠ 0 by decide)
  have h3 := Int.emod_lt_of_pos c (show (0 : Int) < 48 by decide)
  rw [h1, w64_id (by omega) (by omega)]
  omega

theorem bit_all : ∀ (m : Fin 256) (c : Fin 8), ((shrI .i64 (m.val : Int) (IntKind.u64.wrap (c.val : Int))).bind fun s => some ((andI .i64 s 1) == 1)) = some (bitB (c.val : Int) (m.val : Int)) := by
  decide +kernel

theorem bit_one {m c : Int} (hm : 0 ≤ m ∧ m ≤ 255) (hc : 0 ≤ c ∧ c ≤ 7) : ∃ s, shrI .i64 m (IntKind.u64.wrap c) = some s ∧ ((andI .i64 s 1) == 1) = bitB c m := by
  have := bit_all ⟨m.toNat, by omega⟩ ⟨c.toNat, by omega⟩
  simp only [Int.toNat_of_nonneg hm.1, Int.toNat_of_nonneg hc.1] at this
  cases hs : shrI .i64 m (IntKind.u64.wrap c) with
  | none => rw [hs] at this; simp at this
  | some s => rw [hs] at this; exact ⟨s, rfl, by simpa using this⟩

theorem means_loop {g : api_Gates} (hg : VG g) {c t r : Int} {body : Int × Bool → Option ((Int × Bool) ⊕ (Int × Bool))} (hb0 : ∀ k, 0 ≤ k → k < g.Cycle → body (k, true) = some (.inl (if bitB c (mAt g.Entries (t + k)) = true then (k + 1, true) else (k, false)))) (hb1 : ∀ k, g.Cycle ≤ k → body (k, true) = some (.inr (k, true))) (hb2 : ∀ k, body (k, false) = some (.inr (k, false))) (hr : IsSt g.Entries (bitB c) t r) : ∀ (n N : Nat) (k : Int), (r - k).toNat = n → 0 ≤ k → k ≤ r → n + 2 < N → iterF body N (k, true) = some (r, decide (r = g.Cycle)) := by
  have hC := hg.2.2.2.1
  intro n
  induction n with
  | zero =>
    intro N k hn h0 h1 hN
    have hk : k = r := by omega
    subst hk
    cases N with
    | zero => omega
    | succ N =>
      rcases hr with ⟨a1, a2⟩ | ⟨a1, a2, a3, a4⟩
      · rw [iterF_inr (hb1 k (by omega))]
        simp [a1, hC]
      · rw [iterF_inl (hb0 k (by omega) (by omega)), if_neg (by rw [a4]; decide)]
        cases N with
        | zero => omega
        | succ N =>
          rw [iterF_inr (hb2 k), decide_eq_false (by omega)]
  | succ n ih =>
    intro N k hn h0 h1 hN
    cases N with
    | zero => omega
    | succ N =>
      have hlt : k < r := by omega
      have hrC : r ≤ g.Cycle := by
        rcases hr with ⟨a1, _⟩ | ⟨_, a1, _⟩ <;> omega
      have hp : bitB c (mAt g.Entries (t + k)) = true := by
        rcases hr with ⟨_, a2⟩ | ⟨_, _, a3, _⟩
        · obtain ⟨e, he, hm⟩ := mAt_mem hg.ok hg.1 (t + k)
          rw [hm]; exact a2 e he
        · exact a3 k h0 hlt
      rw [iterF_inl (hb0 k h0 (by omega)), if_pos hp]
      exact ih N (k + 1) (by omega) (by omega) (by omega) (by omega)

end Go.Sh