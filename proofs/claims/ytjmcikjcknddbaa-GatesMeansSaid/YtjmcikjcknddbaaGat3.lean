/- Gate lists: the least time at which a class fits. -/
import Derived.Test.YtjmcikjcknddbaaGat2
import Derived.Test.YtjmcikjcknddbaaRd
namespace Go.Sh
open Go Go.Eng

/-- The class c fits at x for l ticks. -/
def FitsAt (E : List api_Entry) (c l x : Int) : Prop := l = 0 ∨ (∀ e ∈ E, bitB c e.Mask = true) ∨ (∀ k, 0 ≤ k → k < l → bitB c (mAt E (x + k)) = true)

theorem opn_ge {g : api_Gates} (hg : VG g) {c x r l : Int} (hr : IsSt g.Entries (bitB c) x r) (h0 : 0 ≤ l) (h1 : l ≤ 1099511627776) : (l = 0 ∨ opn g.Cycle r ≥ l) ↔ FitsAt g.Entries c l x := by
  have hC := hg.2.2.2
  have hb := (sumL_bound hg.ok).1
  unfold FitsAt opn
  rcases hr with ⟨a1, a2⟩ | ⟨a1, a2, a3, a4⟩
  · rw [if_pos (by omega)]
    constructor
    · intro _; exact .inr (.inl a2)
    · intro _; omega
  · rw [if_neg (by omega)]
    constructor
    · rintro (h | h)
      · exact .inl h
      · exact .inr (.inr fun k k0 k1 => a3 k k0 (by omega))
    · rintro (h | h | h)
      · exact .inl h
      · obtain ⟨e, he, hm⟩ := mAt_mem hg.ok hg.1 (x + r)
        rw [hm, h e he] at a4; cases a4
      · rcases Int.lt_or_le r l with hlt | hle
        · rw [h r a1 hlt] at a4; cases a4
        · right; omega

theorem fits_period {E : List api_Entry} (h : ∀ e ∈ E, okE e = true) (hne : 1 ≤ E.length) {c l x : Int} : FitsAt E c l (x + sumL E) ↔ FitsAt E c l x := by
  have hm : ∀ k, mAt E (x + sumL E + k) = mAt E (x + k) := fun k => by
    have := mAt_period h hne (x + k) 1
    rwa [show x + k + 1 * sumL E = x + sumL E + k by omega] at this
  unfold FitsAt
  simp only [hm]

/-- Within an entry: who fits later fits earlier. -/
theorem fits_back {E : List api_Entry} (h : ∀ e ∈ E, okE e = true) {t : Int} {i : Nat} {e : api_Entry} {s c l y : Int} (ha : AtE E t i e s) (hy0 : 0 ≤ y) (hy1 : s + y < e.Long) (hf : FitsAt E c l (t + y)) (hl : 0 ≤ l) : FitsAt E c l t := by
  rcases hf with hf | hf | hf
  · exact .inl hf
  · exact .inr (.inl hf)
  · by_cases hl0 : l = 0
    · exact .inl hl0
    · right; right
      intro k k0 k1
      have hb : bitB c e.Mask = true := by
        have := hf 0 (by omega) (by omega)
        rw [Int.add_zero, ticks_in h ha (by have := ha.2.1; omega) hy1] at this
        exact this
      by_cases hk : k ≤ y
      · rw [ticks_in h ha (by have := ha.2.1; omega) (by omega)]; exact hb
      · have := hf (k - y) (by omega) (by omega)
        rwa [show t + y + (k - y) = t + k by omega] at this

/-- The least time from t on at which the class fits. -/
def IsLeast (E : List api_Entry) (c l t : Int) : Option Int → Prop
  | some x => t ≤ x ∧ FitsAt E c l x ∧ ∀ y, t ≤ y → y < x → ¬ FitsAt E c l y
  | none => ∀ y, t ≤ y → ¬ FitsAt E c l y

theorem IsLeast_unique {E : List api_Entry} {c l t : Int} {a b : Option Int} (ha : IsLeast E c l t a) (hb : IsLeast E c l t b) : a = b := by
  cases a <;> cases b
  · rfl
  · exact absurd hb.2.1 (ha _ hb.1)
  · exact absurd ha.2.1 (hb _ ha.1)
  · rename_i x y
    rcases Int.lt_trichotomy x y with h | h | h
    · exact absurd ha.2.1 (hb.2.2 x ha.1 h)
    · rw [h]
    · exact absurd hb.2.1 (ha.2.2 y hb.1 h)

/-- None fits, if none fits within a cycle. -/
theorem none_fits {E : List api_Entry} (h : ∀ e ∈ E, okE e = true) (hne : 1 ≤ E.length) {c l t : Int} (hn : ∀ y, t ≤ y → y < t + sumL E → ¬ FitsAt E c l y) : ∀ y, t ≤ y → ¬ FitsAt E c l y := by
  have hb := (sumL_bound h).1
  have key : ∀ (n : Nat) (y : Int), t ≤ y → y < t + sumL E * (n + 1) → ¬ FitsAt E c l y := by
    intro n
    induction n with
    | zero => intro y h1 h2; exact hn y h1 (by rw [show sumL E * ((0 : Nat) + 1 : Int) = sumL E by simp] at h2; exact h2)
    | succ n ih =>
      intro y h1 h2 hf
      by_cases hy : y < t + sumL E
      · exact hn y h1 hy hf
      · refine ih (y - sumL E) (by omega) ?_ ?_
        · have : sumL E * (((n + 1 : Nat) : Int) + 1) = sumL E * ((n : Int) + 1) + sumL E := by rw [Int.natCast_add, Int.mul_add]; simp
          omega
        · have := (fits_period h hne (c := c) (l := l) (x := y - sumL E)).1
          rw [show y - sumL E + sumL E = y by omega] at this
          exact this hf
  intro y hy
  refine key (y - t).toNat y hy ?_
  have h1 : ((y - t).toNat : Int) = y - t := by omega
  have h2 : (y - t) * 1 ≤ (y - t) * sumL E := Int.mul_le_mul_of_nonneg_left (by omega) (by omega)
  rw [h1, Int.mul_add, Int.mul_comm (sumL E) (y - t)]
  omega

theorem notIsSt_all {E : List api_Entry} {p : Int → Bool} {t r : Int} (h : IsSt E p t r) (hne : r ≠ sumL E) : 0 ≤ r ∧ r < sumL E ∧ (∀ k, 0 ≤ k → k < r → p (mAt E (t + k)) = true) ∧ p (mAt E (t + r)) = false := by
  rcases h with ⟨a, _⟩ | h
  · exact absurd a hne
  · exact h

/-- The program's loop. -/
theorem fit_loop {N : Nat} (hN : 200 ≤ N) {g : api_Gates} (hg : VG g) {c l t : Int} (hc : 0 ≤ c ∧ c ≤ 7) (hl : 0 ≤ l ∧ l ≤ 1099511627776) (ht : -1099511627776 ≤ t ∧ t ≤ 1099511627776) : ∀ (n M : Nat) (x : Int),
    (t + 2 * g.Cycle - x).toNat ≤ n → n < M → t ≤ x → x ≤ t + 4 * g.Cycle → (∀ y, t ≤ y → y < x → ¬ FitsAt g.Entries c l y) →
    ∃ o, iterF (fun x : Int => gates_Fit_L1 N g c t l x) M x = some o ∧ ∃ z, IsLeast g.Entries c l t z ∧ (match o with | .inl _ => z = none | .inr p => ∃ w, z = some w ∧ p = (w, 0)) := by
  have hC := hg.2.2.2
  have hb := (sumL_bound hg.ok).1
  have hlen1 := hg.1
  intro n
  induction n with
  | zero =>
    intro M x hn hM hx hx2 hno
    cases M with
    | zero => omega
    | succ M =>
      refine ⟨.inl x, iterF_inr ?_, none, none_fits hg.ok hg.1 (fun y h1 h2 => hno y h1 (by omega)), rfl⟩
      simp only [gates_Fit_L1]
      rw [w64_id (x := 2 * g.Cycle) (by omega) (by omega), w64_id (by omega) (by omega), if_neg (by simp only [decide_eq_true_eq]; omega)]
  | succ n ih =>
    intro M x hn hM hx hx2 hno
    cases M with
    | zero => omega
    | succ M =>
      by_cases hlt : x < t + 2 * g.Cycle
      · obtain ⟨r, hr⟩ := IsSt_exists hg (bitB c) x
        have hfit := opn_ge hg (l := l) hr hl.1 hl.2
        by_cases hge : opn g.Cycle r ≥ l
        · refine ⟨.inr (x, 0), iterF_inr ?_, some x, ⟨hx, hfit.1 (.inr hge), hno⟩, x, rfl, rfl⟩
          simp only [gates_Fit_L1]
          rw [w64_id (x := 2 * g.Cycle) (by omega) (by omega), w64_id (by omega) (by omega), if_pos (by simpa using hlt), gates_open_eq hN hg hc hr, Option.bind_some, if_pos (by simpa using hge)]
        · have hnC : r ≠ g.Cycle := by
            intro e; unfold opn at hge; rw [if_pos e] at hge; omega
          have hop : opn g.Cycle r = r := by unfold opn; rw [if_neg hnC]
          obtain ⟨r0, r1, r2, r3⟩ := notIsSt_all hr (by omega)
          obtain ⟨m, hm⟩ := IsSt_exists hg (fun b => !bitB c b) (x + r)
          have hm1 : 1 ≤ m ∧ m ≤ g.Cycle ∧ ∀ k, 0 ≤ k → k < m → bitB c (mAt g.Entries (x + r + k)) = false := by
            rcases hm with ⟨a1, a2⟩ | ⟨a1, a2, a3, a4⟩
            · refine ⟨by omega, by omega, fun k _ _ => ?_⟩
              obtain ⟨e, he, hme⟩ := mAt_mem hg.ok hg.1 (x + r + k)
              rw [hme]
              simpa using a2 e he
            · refine ⟨?_, by omega, fun k k0 k1 => by simpa using a3 k k0 k1⟩
              rcases Int.lt_or_le 0 m with h' | h'
              · omega
              · have hz : m = 0 := by omega
                subst hz
                simp [r3] at a4
          rw [hop] at hge
          rw [iterF_inl (y := x + r + m)]
          · refine ih M (x + r + m) (by omega) (by omega) (by omega) (by omega) fun y y0 y1 hf => ?_
            by_cases hy : y < x
            · exact hno y y0 hy hf
            · have hbad : ∀ q, y ≤ q → q < y + l → bitB c (mAt g.Entries q) = false → False := fun q q0 q1 q2 => by
                rcases hf with hf | hf | hf
                · omega
                · obtain ⟨e, he, hme⟩ := mAt_mem hg.ok hg.1 q
                  rw [hme, hf e he] at q2; cases q2
                · have := hf (q - y) (by omega) (by omega)
                  rw [show y + (q - y) = q by omega, q2] at this; cases this
              by_cases hyr : y < x + r
              · exact hbad (x + r) (by omega) (by omega) r3
              · have := hm1.2.2 (y - (x + r)) (by omega) (by omega)
                rw [show x + r + (y - (x + r)) = y by omega] at this
                exact hbad y (by omega) (by omega) this
          · simp only [gates_Fit_L1]
            rw [w64_id (x := 2 * g.Cycle) (by omega) (by omega), w64_id (x := t + 2 * g.Cycle) (by omega) (by omega), if_pos (by simpa using hlt), gates_open_eq hN hg hc hr, Option.bind_some, hop, if_neg (by simpa using hge), w64_id (x := x + r) (by omega) (by omega)]
            rw [gates_stretch_eq hN hg (p := fun b => !bitB c b) (fun e he => (bits N (by have := okE_iff.1 (hg.ok e he); omega) hc).2.1) hm, Option.bind_some, w64_id (by omega) (by omega)]
      · refine ⟨.inl x, iterF_inr ?_, none, none_fits hg.ok hg.1 (fun y h1 h2 => hno y h1 (by omega)), rfl⟩
        simp only [gates_Fit_L1]
        rw [w64_id (x := 2 * g.Cycle) (by omega) (by omega), w64_id (by omega) (by omega), if_neg (by simpa using hlt)]

/-- What Fit returns. -/
def fitS : Option Int → Int × Int
  | some x => (x, 0)
  | none => (0, 4)

theorem gates_Fit_ex {N : Nat} (hN : 20000000 ≤ N) {g : api_Gates} {c l t : Int} (h : errS g c t l = 0) : ∃ z, IsLeast g.Entries c l t z ∧ gates_Fit N g c t l = some (fitS z) := by
  obtain ⟨hg, c1, c2, t1, t2, l1, l2⟩ := errS_zero h
  have hC := hg.2.2.2
  have hb := (sumL_bound hg.ok).1
  have hlen1 := hg.1
  obtain ⟨o, h1, z, h2, h3⟩ := fit_loop (N := N) (by omega) hg ⟨c1, c2⟩ ⟨l1, l2⟩ ⟨t1, t2⟩ (t + 2 * g.Cycle - t).toNat N t (Nat.le_refl _) (by omega) (Int.le_refl _) (by omega) (fun y y0 y1 => by omega)
  refine ⟨z, h2, ?_⟩
  unfold gates_Fit
  rw [gates_check_eq (by omega), Option.bind_some, h, if_neg (by simp)]
  rw [h1, Option.bind_some]
  cases o with
  | inl _ => simp only at h3; subst h3; rfl
  | inr p => obtain ⟨w, rfl, rfl⟩ := h3; rfl

/-- The reference's loop. -/
theorem earliest_loop {N : Nat} (hN : 200 ≤ N) {g : api_Gates} (hg : VG g) {c l t : Int} (hc : 0 ≤ c ∧ c ≤ 7) (hl : 0 < l ∧ l ≤ 1099511627776) (ht : -1099511627776 ≤ t ∧ t ≤ 1099511627776) {i0 : Nat} {e0 : api_Entry} {s0 : Int} (ha0 : AtE g.Entries t i0 e0 s0) : ∀ (n M q : Nat) (e : api_Entry) (m : Int),
    g.Entries.length - q = n → q ≤ g.Entries.length → n < M → AtE g.Entries (t + m) ((i0 + q) % g.Entries.length) e 0 → -s0 ≤ m → (0 < q → -s0 < m) → 0 < m + e.Long → m ≤ 9600000 * q → (∀ y, t ≤ y → y < t + m + e.Long → ¬ FitsAt g.Entries c l y) →
    ∃ o, iterF (fun x : Int × Int => ref27_Earliest_L1 N g c l ((i0 : Int), s0) x.1 x.2) M (t + m, (q : Int)) = some o ∧ ∃ z, IsLeast g.Entries c l t z ∧ (match o with | .inl _ => z = none | .inr p => ∃ w, z = some w ∧ p = (w, true)) := by
  have hlen1 := hg.1
  have hlen2 := hg.2.1
  have hC := hg.2.2.2
  have hi0 := (AtE_lt hg.ok ha0).2.2
  have hs0 := ha0.2
  have hE0 := okE_iff.1 (hg.ok e0 (List.mem_of_getElem? ha0.1))
  intro n
  induction n with
  | zero =>
    intro M q e m hn hq hM ha hm0 hmq hm1 h1 h2
    cases M with
    | zero => omega
    | succ M =>
      have hq' : q = g.Entries.length := by omega
      subst hq'
      have hwide : sumL g.Entries ≤ m + e.Long := by
        rw [Nat.add_mod_right, Nat.mod_eq_of_lt hi0] at ha
        have he : e0 = e := by
          have := ha0.1
          rw [ha.1] at this
          exact (Option.some.inj this).symm
        subst he
        have hb := (sumL_bound hg.ok).1
        have hst := AtE_in hg.ok ha0 (k := -s0) (by omega) (by omega)
        have e1 : (t + m) % sumL g.Entries = (t + -s0) % sumL g.Entries := by
          rw [ha.2.2.2, hst.2.2.2]; omega
        have e2 := Int.emod_eq_emod_iff_emod_sub_eq_zero.1 e1
        rw [show t + m - (t + -s0) = m + s0 by omega] at e2
        have e3 := Int.le_of_dvd (by have := hmq (by omega); omega) (Int.dvd_of_emod_eq_zero e2)
        omega
      refine ⟨.inl (t + m, (g.Entries.length : Int)), iterF_inr ?_, none, none_fits hg.ok hg.1 (fun y y0 y1 => h2 y y0 (by omega)), rfl⟩
      simp only [ref27_Earliest_L1]
      rw [if_neg (by simp)]
  | succ n ih =>
    intro M q e m hn hq hM ha hm0 hmq hm1 h1 h2
    cases M with
    | zero => omega
    | succ M =>
      have hE := okE_iff.1 (hg.ok e (List.mem_of_getElem? ha.1))
      have hmod : (i0 + q) % g.Entries.length < g.Entries.length := Nat.mod_lt _ (by omega)
      obtain ⟨f, hf⟩ := AtE_next hg.ok ha
      rw [mod_step, Int.sub_zero] at hf
      have hfE := okE_iff.1 (hg.ok f (List.mem_of_getElem? hf.1))
      obtain ⟨r, hr⟩ := IsSt_exists hg (bitB c) (t + m + e.Long)
      have hfit := opn_ge hg (l := l) hr (by omega) hl.2
      have hbody : ref27_Earliest_L1 N g c l ((i0 : Int), s0) (t + m) (q : Int) = if opn g.Cycle r ≥ l then some (.inr (.inr (t + m + e.Long, true))) else some (.inl (t + (m + e.Long), ((q + 1 : Nat) : Int))) := by
        simp only [ref27_Earliest_L1]
        rw [if_pos (by simp only [decide_eq_true_eq]; omega), w64_id (x := (i0 : Int) + q) (by omega) (by omega), remI_pos (by omega), Option.bind_some, Int.tmod_eq_emod_of_nonneg (by omega)]
        have e1 : ((i0 : Int) + (q : Int)) % ((List.length g.Entries : Nat) : Int) = (((i0 + q) % g.Entries.length : Nat) : Int) := by
          rw [Int.natCast_emod]; rfl
        rw [e1, idx_some ha.1, Option.bind_some, w64_id (x := t + m + e.Long) (by omega) (by omega), ref27_Span_eq hN hg hc hr, Option.bind_some, w64_id (by omega) (by omega)]
        by_cases hge : opn g.Cycle r ≥ l
        · rw [if_pos (by simpa using hge), if_pos hge]
        · rw [if_neg (by simpa using hge), if_neg hge]
          rw [show t + m + e.Long = t + (m + e.Long) by omega]; rfl
      by_cases hge : opn g.Cycle r ≥ l
      · exact ⟨.inr (t + m + e.Long, true), iterF_inr (by rw [hbody, if_pos hge]), some (t + m + e.Long), ⟨by omega, hfit.1 (.inr hge), fun y y0 y1 => h2 y y0 y1⟩, _, rfl, rfl⟩
      · rw [iterF_inl (by rw [hbody, if_neg hge])]
        have hnf : ¬ FitsAt g.Entries c l (t + m + e.Long) := fun h => by
          rcases hfit.2 h with h' | h'
          · omega
          · exact hge h'
        refine ih M (q + 1) f (m + e.Long) (by omega) (by omega) (by omega) (by rw [show t + (m + e.Long) = t + m + e.Long by omega]; exact hf) (by omega) (fun _ => by omega) (by omega) (by omega) (fun y y0 y1 hy => ?_)
        by_cases hlt : y < t + m + e.Long
        · exact h2 y y0 hlt hy
        · refine hnf (fits_back hg.ok hf (y := y - (t + m + e.Long)) (by omega) (by omega) ?_ (by omega))
          rw [show t + m + e.Long + (y - (t + m + e.Long)) = y by omega]
          exact hy

theorem ref27_Fit_eq {N : Nat} (hN : 200 ≤ N) {g : api_Gates} {c l t : Int} (h : errS g c t l = 0) {z : Option Int} (hz : IsLeast g.Entries c l t z) : ref27_Fit N g c t l = some (fitS z) := by
  obtain ⟨hg, c1, c2, t1, t2, l1, l2⟩ := errS_zero h
  have hlen2 := hg.2.1
  obtain ⟨r, hr⟩ := IsSt_exists hg (bitB c) t
  have hfit := opn_ge hg (l := l) hr l1 l2
  unfold ref27_Fit
  rw [ref27_times_eq hN, Option.bind_some, h, if_neg (by simp)]
  unfold ref27_Earliest
  have hj : (if (l == 0) = true then some true else (ref27_Span N g c t).bind fun r3 => some (decide (r3 ≥ l))) = some (decide (l = 0 ∨ opn g.Cycle r ≥ l)) := by
    rw [ref27_Span_eq hN hg ⟨c1, c2⟩ hr]
    by_cases hl : l = 0 <;> simp [hl]
  rw [hj, Option.bind_some]
  by_cases hf : l = 0 ∨ opn g.Cycle r ≥ l
  · have : z = some t := IsLeast_unique hz (show IsLeast g.Entries c l t (some t) from ⟨Int.le_refl _, hfit.1 hf, fun y y0 y1 => by omega⟩)
    subst this
    rw [if_pos (by simpa using hf)]
    rfl
  · rw [if_neg (by simpa using hf)]
    obtain ⟨i, e, s, ha⟩ := AtE_exists hg.ok hg.1 t
    have hi := (AtE_lt hg.ok ha).2.2
    have hE := okE_iff.1 (hg.ok e (List.mem_of_getElem? ha.1))
    have hs := ha.2
    have hmi : (i + 0) % g.Entries.length = i := by rw [Nat.add_zero, Nat.mod_eq_of_lt hi]
    have hstart : AtE g.Entries (t + -s) ((i + 0) % g.Entries.length) e 0 := by
      rw [hmi]
      have := AtE_in hg.ok ha (k := -s) (by omega) (by omega)
      rwa [show s + -s = 0 by omega] at this
    have hnf : ¬ FitsAt g.Entries c l t := fun h' => hf (hfit.2 h')
    have hl0 : 0 < l := by
      rcases Int.lt_or_le 0 l with h' | h'
      · exact h'
      · exact absurd (.inl (by omega)) hf
    obtain ⟨o, h1, z', h2, h3⟩ := earliest_loop hN hg ⟨c1, c2⟩ ⟨hl0, l2⟩ ⟨t1, t2⟩ ha g.Entries.length N 0 e (-s) (by omega) (by omega) (by omega) hstart (by omega) (fun h => by omega) (by omega) (by omega) (fun y y0 y1 hy => by
      refine hnf (fits_back hg.ok ha (y := y - t) (by omega) (by omega) ?_ l1)
      rw [show t + (y - t) = y by omega]; exact hy)
    have hzz := IsLeast_unique hz h2
    subst hzz
    rw [show ((0 : Nat) : Int) = 0 from rfl] at h1
    rw [ref27_At_eq hN hg ha, Option.bind_some]
    simp only
    rw [w64_id (by omega) (by omega), show t - s = t + -s by omega, h1, Option.bind_some]
    cases o with
    | inl _ => simp only at h3; subst h3; rfl
    | inr p => obtain ⟨w, rfl, rfl⟩ := h3; rfl

theorem fit_same {N : Nat} (hN : 20000000 ≤ N) (g : api_Gates) (c t l : Int) : ∃ r, gates_Fit N g c t l = some r ∧ ref27_Fit N g c t l = some r := by
  by_cases h : errS g c t l = 0
  · obtain ⟨z, hz, h1⟩ := gates_Fit_ex hN h
    exact ⟨fitS z, h1, ref27_Fit_eq (by omega) h hz⟩
  · refine ⟨(0, errS g c t l), ?_, ?_⟩
    · unfold gates_Fit
      rw [gates_check_eq (by omega), Option.bind_some, if_pos (by simpa using h)]
    · unfold ref27_Fit
      rw [ref27_times_eq (by omega), Option.bind_some, if_pos (by simpa using h)]

theorem appI_small {α : Type} {b : Nat} {l m : List α} (h : l.length + m.length ≤ 100000) (hb : b ≤ 100000) : appI b l m = some (l ++ m) := by
  unfold appI
  rw [if_pos]
  have : (l.length + m.length) * b ≤ 100000 * 100000 := Nat.mul_le_mul h hb
  omega

/-- A draft's gate list is valid, and small. -/
theorem draft_gates {N : Nat} (hN : 200 ≤ N) {d : ref27_Draft} (hd : Rg_ref27_Draft d) : ∃ g, ref27_Draft_Gates N d = some g ∧ VG g ∧ g.Entries.length ≤ 16 ∧ (∀ e ∈ g.Entries, e.Long ≤ 20) := by
  obtain ⟨⟨_, hm⟩, ⟨_, hL⟩⟩ := hd
  let K : Nat := max 1 (min d.Masks.length 16)
  have hK : (if (if 16 < ((List.length d.Masks : Nat) : Int) then 16 else ((List.length d.Masks : Nat) : Int)) > 1 then (if 16 < ((List.length d.Masks : Nat) : Int) then 16 else ((List.length d.Masks : Nat) : Int)) else 1) = (K : Int) := by
    show _ = ((max 1 (min d.Masks.length 16) : Nat) : Int)
    split <;> split <;> omega
  have hK1 : 1 ≤ K ∧ K ≤ 16 := by show 1 ≤ max 1 (min d.Masks.length 16) ∧ max 1 (min d.Masks.length 16) ≤ 16; omega
  unfold ref27_Draft_Gates
  obtain ⟨r, h1, h2⟩ := iterF_of (body := fun x : Int × Int × List api_Entry => ref27_Draft_Gates_L1 N d x.1 x.2.1 x.2.2) (fun x => ∃ k : Nat, x.1 = k ∧ k ≤ K ∧ x.2.2.length = k ∧ x.2.1 = sumL x.2.2 ∧ ∀ e ∈ x.2.2, okE e = true ∧ e.Long ≤ 20) (fun x => (16 - x.1).toNat)
    (fun r => r.2.2.length = K ∧ r.2.1 = sumL r.2.2 ∧ ∀ e ∈ r.2.2, okE e = true ∧ e.Long ≤ 20) (fun x hx => by
      obtain ⟨i, s, acc⟩ := x
      obtain ⟨k, e1, e2, e3, e4, e5⟩ := hx
      simp only at e1 e2 e3 e4 e5 ⊢
      subst e1 e4
      have hsb := sumL_bound (l := acc) fun e he => (e5 e he).1
      by_cases hc : k < K
      · left
        have hmask : ∃ mk, (if (decide ((k : Int) < ((List.length d.Masks : Nat) : Int))) = true then ((idx d.Masks (k : Int)).bind fun e => (some (w64 (e)))) else (some 127)) = some mk ∧ 0 ≤ mk ∧ mk ≤ 255 := by
          by_cases h : k < d.Masks.length
          · have := (hm d.Masks[k] (List.getElem_mem h)).u8
            rw [if_pos (by simpa using h), idx_nat, List.getElem?_eq_getElem h, Option.bind_some, w64_id (by omega) (by omega)]
            exact ⟨_, rfl, this⟩
          · rw [if_neg (by simp; omega)]
            exact ⟨127, rfl, by decide, by decide⟩
        have hlong : ∃ lg, (if (decide ((k : Int) < ((List.length d.Longs : Nat) : Int))) = true then ((idx d.Longs (k : Int)).bind fun e => (some (w64 (1 + (w64 ((Int.tmod e 20))))))) else (some 1)) = some lg ∧ 1 ≤ lg ∧ lg ≤ 20 := by
          by_cases h : k < d.Longs.length
          · have := (hL d.Longs[k] (List.getElem_mem h)).u8
            have t1 : d.Longs[k].tmod 20 = d.Longs[k] % 20 := Int.tmod_eq_emod_of_nonneg this.1
            have t2 := Int.emod_nonneg d.Longs[k] (show (20 : Int) ≠ 0 by decide)
            have t3 := Int.emod_lt_of_pos d.Longs[k] (show (0 : Int) < 20 by decide)
            rw [if_pos (by simpa using h), idx_nat, List.getElem?_eq_getElem h, Option.bind_some, t1, w64_id (x := d.Longs[k] % 20) (by omega) (by omega), w64_id (by omega) (by omega)]
            exact ⟨_, rfl, by omega, by omega⟩
          · rw [if_neg (by simp; omega)]
            exact ⟨1, rfl, by decide, by decide⟩
        obtain ⟨mk, hmk, hmk1⟩ := hmask
        obtain ⟨lg, hlg, hlg1⟩ := hlong
        refine ⟨(((k + 1 : Nat) : Int), sumL (acc ++ [⟨mk, lg⟩]), acc ++ [⟨mk, lg⟩]), ?_, ⟨k + 1, rfl, by omega, by simp [e3], rfl, ?_⟩, by omega⟩
        · simp only [ref27_Draft_Gates_L1]
          rw [hK, if_pos (by simp only [decide_eq_true_eq]; omega), hmk, Option.bind_some, hlg, Option.bind_some, appI_small (by simp; omega) (by decide), Option.bind_some, w64_id (by omega) (by omega), w64_id (by omega) (by omega), sumL_append]
          simp [sumL]
        · intro e he
          rcases List.mem_append.1 he with he | he
          · exact e5 e he
          · simp at he; subst he; exact ⟨okE_iff.2 (by simp only; omega), hlg1.2⟩
      · right
        refine ⟨((k : Int), sumL acc, acc), ?_, by show acc.length = K; omega, rfl, e5⟩
        simp only [ref27_Draft_Gates_L1]
        rw [hK, if_neg (by simp only [decide_eq_true_eq]; omega)]) N (0, 0, []) ⟨0, rfl, by omega, rfl, rfl, by simp⟩ (by simp only; omega)
  obtain ⟨h3, h4, h5⟩ := h2
  rw [h1, Option.bind_some]
  refine ⟨⟨r.2.2, r.2.1⟩, rfl, ⟨by simp only; omega, by simp only; omega, ?_, h4.symm, ?_⟩, by simp only; omega, fun e he => (h5 e he).2⟩
  · rw [List.all_eq_true]; exact fun e he => (h5 e he).1
  · have := (sumL_bound (l := r.2.2) fun e he => (h5 e he).1).2
    simp only
    have hs : ∀ l : List api_Entry, (∀ e ∈ l, e.Long ≤ 20) → sumL l ≤ 20 * l.length := by
      intro l
      induction l with
      | nil => intro _; simp [sumL]
      | cons e l ih =>
        intro h
        have := h e (by simp)
        have := ih fun x hx => h x (by simp [hx])
        simp only [sumL, List.length_cons]
        omega
    have := hs r.2.2 fun e he => (h5 e he).2
    omega

/-- The three lists of a law. -/
theorem law27_lists_ex {N : Nat} (hN : 200 ≤ N) {d : ref27_Draft} (hd : Rg_ref27_Draft d) (g : api_Gates) {at_ : Int} (ha : 0 ≤ at_ ∧ at_ ≤ 255) : ∃ r, law27_lists N d g at_ = some r := by
  obtain ⟨g0, h0, hv, hl, _⟩ := draft_gates hN hd
  have hlen1 := hv.1
  unfold law27_lists
  rw [h0, Option.bind_some]
  have hsub : ∃ l2, subI g.Entries 0 (if 140 < ((List.length g.Entries : Nat) : Int) then 140 else ((List.length g.Entries : Nat) : Int)) = some l2 := by
    unfold subI
    rw [if_pos (by split <;> omega)]
    exact ⟨_, rfl⟩
  obtain ⟨l2, hl2⟩ := hsub
  rw [hl2, Option.bind_some, appI_small (by simp; omega) (by decide), Option.bind_some, List.nil_append]
  by_cases hc : ((decide (((List.length l2 : Nat) : Int) > 0)) && (decide ((Int.tmod at_ 4) > 0))) = true
  · rw [if_pos hc]
    simp only [Bool.and_eq_true, decide_eq_true_eq] at hc
    have m0 := Int.emod_nonneg at_ (show ((g0.Entries.length : Nat) : Int) ≠ 0 by omega)
    have m1 := Int.emod_lt_of_pos at_ (show (0 : Int) < (g0.Entries.length : Nat) by omega)
    rw [w64_id (by omega) (by omega), remI_pos (by omega), Option.bind_some, Int.tmod_eq_emod_of_nonneg ha.1, idx_lt (by omega) (by simp; omega), Option.bind_some, idx_lt m0 (by omega), Option.bind_some, Option.bind_some]
    exact ⟨_, rfl⟩
  · rw [if_neg hc, Option.bind_some]
    exact ⟨_, rfl⟩
end Go.Sh
