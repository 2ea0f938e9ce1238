/- Gate lists: how long a property of the masks lasts. -/
import Derived.Test.YtcbolnjnhiaiiaaGat1
namespace Go.Sh
open Go Go.Eng

/-- From t on the masks have the property p for r ticks: the whole cycle, if all have it. -/
def IsSt (E : List api_Entry) (p : Int → Bool) (t r : Int) : Prop :=
  (r = sumL E ∧ ∀ e ∈ E, p e.Mask = true) ∨ (0 ≤ r ∧ r < sumL E ∧ (∀ k, 0 ≤ k → k < r → p (mAt E (t + k)) = true) ∧ p (mAt E (t + r)) = false)

theorem IsSt_unique {E : List api_Entry} (h : ∀ e ∈ E, okE e = true) (hne : 1 ≤ E.length) {p : Int → Bool} {t r r' : Int} (h1 : IsSt E p t r) (h2 : IsSt E p t r') : r = r' := by
  rcases h1 with ⟨a1, a2⟩ | ⟨a1, a2, a3, a4⟩ <;> rcases h2 with ⟨b1, b2⟩ | ⟨b1, b2, b3, b4⟩
  · omega
  · obtain ⟨e, he, hm⟩ := mAt_mem h hne (t + r')
    rw [hm, a2 e he] at b4; cases b4
  · obtain ⟨e, he, hm⟩ := mAt_mem h hne (t + r)
    rw [hm, b2 e he] at a4; cases a4
  · rcases Int.lt_trichotomy r r' with hlt | heq | hgt
    · rw [b3 r a1 hlt] at a4; cases a4
    · exact heq
    · rw [a3 r' b1 hgt] at b4; cases b4

/-- A first failure lies within the cycle. -/
theorem lt_cycle {E : List api_Entry} (h : ∀ e ∈ E, okE e = true) (hne : 1 ≤ E.length) {p : Int → Bool} {t r : Int} (h0 : 0 ≤ r) (h1 : ∀ k, 0 ≤ k → k < r → p (mAt E (t + k)) = true) (h2 : p (mAt E (t + r)) = false) : r < sumL E := by
  rcases Int.lt_or_le r (sumL E) with hlt | hle
  · exact hlt
  · exfalso
    have hb := (sumL_bound h).1
    have h3 := h1 (r - sumL E) (by omega) (by omega)
    have h4 := mAt_period h hne (t + (r - sumL E)) 1
    rw [show t + (r - sumL E) + 1 * sumL E = t + r by omega] at h4
    rw [h4, h3] at h2
    cases h2

theorem ticks_in {E : List api_Entry} (h : ∀ e ∈ E, okE e = true) {t : Int} {i : Nat} {e : api_Entry} {s : Int} (ha : AtE E t i e s) {k : Int} (h0 : 0 ≤ s + k) (h1 : s + k < e.Long) : mAt E (t + k) = e.Mask := mAt_eq h (AtE_in h ha h0 h1)

theorem mod_step {len q i0 : Nat} : ((i0 + q) % len + 1) % len = (i0 + (q + 1)) % len := by
  rw [Nat.mod_add_mod]; rfl

/-- Every index is met within a round. -/
theorem all_met {E : List api_Entry} {P : api_Entry → Prop} {i0 : Nat} (h : ∀ j, j < E.length → ∃ f, E[(i0 + j) % E.length]? = some f ∧ P f) : ∀ e ∈ E, P e := by
  intro e he
  obtain ⟨k, hk, rfl⟩ := List.getElem_of_mem he
  have hlen : 0 < E.length := by omega
  have hm := Nat.mod_lt i0 hlen
  obtain ⟨f, hf, hP⟩ := h ((k + E.length - i0 % E.length) % E.length) (Nat.mod_lt _ hlen)
  have e1 : (i0 + (k + E.length - i0 % E.length) % E.length) % E.length = k := by
    rw [Nat.add_mod_mod]
    have h1 := Nat.div_add_mod i0 E.length
    have h2 : i0 + (k + E.length - i0 % E.length) = k + E.length * (i0 / E.length + 1) := by rw [Nat.mul_add]; omega
    rw [h2, Nat.add_mul_mod_self_left, Nat.mod_eq_of_lt hk]
  rw [e1, List.getElem?_eq_getElem hk] at hf
  cases hf
  exact hP

theorem stretch_loop (N : Nat) {g : api_Gates} (hg : VG g) {has : Int → Option Bool} {p : Int → Bool} (hp : ∀ e ∈ g.Entries, has e.Mask = some (p e.Mask)) (t : Int) (i0 : Nat) : ∀ (n M q : Nat) (e : api_Entry) (s c : Int),
    g.Entries.length + 1 - q = n → q ≤ g.Entries.length + 1 → n < M → AtE g.Entries (t + c) ((i0 + q) % g.Entries.length) e s → 0 ≤ c → c ≤ 9600000 * q → (∀ k, 0 ≤ k → k < c → p (mAt g.Entries (t + k)) = true) →
    (∀ j, j < q → ∃ f, g.Entries[(i0 + j) % g.Entries.length]? = some f ∧ p f.Mask = true) →
    ∃ o, iterF (fun x : Int × Int × Int × Int => gates_stretch_L1 N g has x.1 x.2.1 x.2.2.1 x.2.2.2) M ((((i0 + q) % g.Entries.length : Nat) : Int), e.Long - s, c, (q : Int)) = some o ∧
      ((∃ x, o = .inl x ∧ ∀ e ∈ g.Entries, p e.Mask = true) ∨ (∃ r, o = .inr r ∧ 0 ≤ r ∧ (∀ k, 0 ≤ k → k < r → p (mAt g.Entries (t + k)) = true) ∧ p (mAt g.Entries (t + r)) = false)) := by
  have hlen1 := hg.1
  have hlen2 := hg.2.1
  intro n
  induction n with
  | zero =>
    intro M q e s c hn hq hM ha h0 h1 h2 h3
    cases M with
    | zero => omega
    | succ M =>
      refine ⟨.inl ((((i0 + q) % g.Entries.length : Nat) : Int), e.Long - s, c, (q : Int)), iterF_inr ?_, .inl ⟨_, rfl, all_met fun j hj => h3 j (by omega)⟩⟩
      simp only [gates_stretch_L1]
      rw [w64_id (by omega) (by omega), if_neg (by simp only [decide_eq_true_eq]; omega)]
  | succ n ih =>
    intro M q e s c hn hq hM ha h0 h1 h2 h3
    cases M with
    | zero => omega
    | succ M =>
      have hE := okE_iff.1 (hg.ok e (List.mem_of_getElem? ha.1))
      have hs := ha.2
      have hmod : (i0 + q) % g.Entries.length < g.Entries.length := Nat.mod_lt _ (by omega)
      have hpe := hp e (List.mem_of_getElem? ha.1)
      obtain ⟨f, hf⟩ := AtE_next hg.ok ha
      have hfE := okE_iff.1 (hg.ok f (List.mem_of_getElem? hf.1))
      have hmod2 : ((i0 + q) % g.Entries.length + 1) % g.Entries.length < g.Entries.length := Nat.mod_lt _ (by omega)
      have hbody : gates_stretch_L1 N g has (((i0 + q) % g.Entries.length : Nat) : Int) (e.Long - s) c (q : Int) =
          if p e.Mask = true then some (.inl ((((((i0 + q) % g.Entries.length + 1) % g.Entries.length : Nat) : Int)), f.Long, c + (e.Long - s), ((q + 1 : Nat) : Int))) else some (.inr (.inr c)) := by
        simp only [gates_stretch_L1]
        rw [w64_id (x := ((List.length g.Entries : Nat) : Int) + 1) (by omega) (by omega), if_pos (by simp only [decide_eq_true_eq]; omega), idx_some ha.1, Option.bind_some, hpe, Option.bind_some]
        cases p e.Mask with
        | false => simp
        | true =>
          simp only [Bool.not_true, Bool.false_eq_true, if_false, if_true]
          generalize hmm : (i0 + q) % g.Entries.length = m at *
          rw [w64_id (x := (m : Int) + 1) (by omega) (by omega), remI_pos (by omega), Option.bind_some, Int.tmod_eq_emod_of_nonneg (by omega)]
          have e1 : ((m : Int) + 1) % ((List.length g.Entries : Nat) : Int) = (((m + 1) % g.Entries.length : Nat) : Int) := by
            rw [Int.natCast_emod]; rfl
          rw [e1, idx_some hf.1, Option.bind_some, w64_id (by omega) (by omega), w64_id (by omega) (by omega)]
          rfl
      by_cases hpt : p e.Mask = true
      · rw [iterF_inl (by rw [hbody, if_pos hpt])]
        rw [mod_step] at hf ⊢
        have hnext : AtE g.Entries (t + (c + (e.Long - s))) ((i0 + (q + 1)) % g.Entries.length) f 0 := by
          rw [show t + (c + (e.Long - s)) = t + c + (e.Long - s) by omega]; exact hf
        have := ih M (q + 1) f 0 (c + (e.Long - s)) (by omega) (by omega) (by omega) hnext (by omega) (by omega) (fun k k0 k1 => by
          by_cases hk : k < c
          · exact h2 k k0 hk
          · have := ticks_in hg.ok ha (k := k - c) (by omega) (by omega)
            rw [show t + c + (k - c) = t + k by omega] at this
            rw [this, hpt]) (fun j hj => by
          by_cases hjq : j < q
          · exact h3 j hjq
          · have : j = q := by omega
            subst this
            exact ⟨e, ha.1, hpt⟩)
        rw [Int.sub_zero] at this
        exact this
      · refine ⟨.inr c, iterF_inr (by rw [hbody, if_neg hpt]), .inr ⟨c, rfl, h0, h2, ?_⟩⟩
        rw [mAt_eq hg.ok ha]
        simpa using hpt

theorem gates_stretch_ex {N : Nat} (hN : 200 ≤ N) {g : api_Gates} (hg : VG g) {has : Int → Option Bool} {p : Int → Bool} (hp : ∀ e ∈ g.Entries, has e.Mask = some (p e.Mask)) (t : Int) : ∃ r, gates_stretch N g t has = some r ∧ IsSt g.Entries p t r := by
  obtain ⟨i, e, s, ha⟩ := AtE_exists hg.ok hg.1 t
  have hi := (AtE_lt hg.ok ha).2.2
  have hlen2 := hg.2.1
  have hmi : (i + 0) % g.Entries.length = i := by rw [Nat.add_zero, Nat.mod_eq_of_lt hi]
  obtain ⟨o, h1, h2⟩ := stretch_loop N hg hp t i (g.Entries.length + 1) N 0 e s 0 (by omega) (by omega) (by omega) (by rw [hmi, Int.add_zero]; exact ha) (by omega) (by omega) (fun k k0 k1 => by omega) (fun j hj => by omega)
  rw [hmi, show ((0 : Nat) : Int) = 0 from rfl] at h1
  unfold gates_stretch
  rw [gates_find_eq hN hg ha, Option.bind_some]
  simp only
  rw [h1, Option.bind_some]
  rcases h2 with ⟨x, rfl, hall⟩ | ⟨r, rfl, r0, r1, r2⟩
  · exact ⟨g.Cycle, rfl, .inl ⟨hg.2.2.2.1.symm, hall⟩⟩
  · exact ⟨r, rfl, .inr ⟨r0, lt_cycle hg.ok hg.1 r0 r1 r2, r1, r2⟩⟩

theorem IsSt_exists {g : api_Gates} (hg : VG g) (p : Int → Bool) (t : Int) : ∃ r, IsSt g.Entries p t r :=
  let ⟨r, _, h⟩ := gates_stretch_ex (N := 200) (Nat.le_refl _) hg (has := fun m => some (p m)) (fun _ _ => rfl) t
  ⟨r, h⟩

theorem gates_stretch_eq {N : Nat} (hN : 200 ≤ N) {g : api_Gates} (hg : VG g) {has : Int → Option Bool} {p : Int → Bool} (hp : ∀ e ∈ g.Entries, has e.Mask = some (p e.Mask)) {t r : Int} (hr : IsSt g.Entries p t r) : gates_stretch N g t has = some r := by
  obtain ⟨r', h1, h2⟩ := gates_stretch_ex hN hg hp t
  rw [h1, IsSt_unique hg.ok hg.1 h2 hr]

/-- The bit of a class. -/
def bitB (c : Int) (m : Int) : Bool := (m / 2 ^ c.toNat) % 2 == 1

theorem bits_open_all : ∀ (m : Fin 256) (c : Fin 8), gates_open_1 0 (m.val : Int) (c.val : Int) = some (bitB (c.val : Int) (m.val : Int)) := by
  decide +kernel

theorem bits_ref_all : ∀ (m : Fin 256) (c : Fin 8), ref27_Bit 0 (m.val : Int) (c.val : Int) = some (bitB (c.val : Int) (m.val : Int)) := by
  decide +kernel

theorem bits_open (N : Nat) {m c : Int} (hm : 0 ≤ m ∧ m ≤ 255) (hc : 0 ≤ c ∧ c ≤ 7) : gates_open_1 N m c = some (bitB c m) := by
  have := bits_open_all ⟨m.toNat, by omega⟩ ⟨c.toNat, by omega⟩
  simp only [Int.toNat_of_nonneg hm.1, Int.toNat_of_nonneg hc.1] at this
  exact this

theorem bits_ref (N : Nat) {m c : Int} (hm : 0 ≤ m ∧ m ≤ 255) (hc : 0 ≤ c ∧ c ≤ 7) : ref27_Bit N m c = some (bitB c m) := by
  have := bits_ref_all ⟨m.toNat, by omega⟩ ⟨c.toNat, by omega⟩
  simp only [Int.toNat_of_nonneg hm.1, Int.toNat_of_nonneg hc.1] at this
  exact this

/-- What Open returns, of what lasts. -/
def opn (C r : Int) : Int := if r = C then 1099511627776 else r

theorem gates_open_eq {N : Nat} (hN : 200 ≤ N) {g : api_Gates} (hg : VG g) {c t r : Int} (hc : 0 ≤ c ∧ c ≤ 7) (hr : IsSt g.Entries (bitB c) t r) : gates_open N g c t = some (opn g.Cycle r) := by
  unfold gates_open
  rw [gates_stretch_eq hN hg (p := bitB c) (fun e he => bits_open N (by have := okE_iff.1 (hg.ok e he); omega) hc) hr, Option.bind_some]
  unfold opn
  by_cases h : r = g.Cycle <;> simp [h]

theorem errS_zero {g : api_Gates} {c t l : Int} (h : errS g c t l = 0) : VG g ∧ 0 ≤ c ∧ c ≤ 7 ∧ -1099511627776 ≤ t ∧ t ≤ 1099511627776 ∧ 0 ≤ l ∧ l ≤ 1099511627776 := by
  unfold errS at h
  by_cases hv : VG g
  · rw [if_pos hv] at h
    by_cases hc : 0 ≤ c ∧ c ≤ 7 ∧ -1099511627776 ≤ t ∧ t ≤ 1099511627776 ∧ 0 ≤ l ∧ l ≤ 1099511627776
    · exact ⟨hv, hc⟩
    · rw [if_neg hc] at h; cases h
  · rw [if_neg hv] at h; cases h

/-- What Turn returns for a valid list. -/
def trn (C t r : Int) : Int × Int := if r = C then (0, 4) else (t + r, 0)

end Go.Sh