/- Gate lists: what the masks mean, tick by tick. -/
import Derived.Test.YtjmcikjcknddbaaGat4
namespace Go.Sh
open Go Go.Eng

theorem iterF_upto {ρ : Type} {body : Int → Option (Int ⊕ ρ)} {b : Int} {fin : Int → ρ} (hend : ∀ x, b ≤ x → body x = some (.inr (fin x))) : ∀ (n N : Nat) (a : Int), (b - a).toNat = n → n < N → (∀ x, a ≤ x → x < b → body x = some (.inl (x + 1))) → ∃ x, iterF body N a = some (fin x) := by
  intro n
  induction n with
  | zero =>
    intro N a hn hN _
    cases N with
    | zero => omega
    | succ N => exact ⟨a, iterF_inr (hend a (by omega))⟩
  | succ n ih =>
    intro N a hn hN hs
    cases N with
    | zero => omega
    | succ N =>
      rw [iterF_inl (hs a (Int.le_refl _) (by omega))]
      exact ih N (a + 1) (by omega) (by omega) fun x h1 h2 => hs x (by omega) h2

theorem IsSt_period {E : List api_Entry} (h : ∀ e ∈ E, okE e = true) (hne : 1 ≤ E.length) {p : Int → Bool} {t r : Int} (k : Int) (hr : IsSt E p t r) : IsSt E p (t + k * sumL E) r := by
  have hm : ∀ j, mAt E (t + k * sumL E + j) = mAt E (t + j) := fun j => by
    have := mAt_period h hne (t + j) k
    rwa [show t + j + k * sumL E = t + k * sumL E + j by omega] at this
  rcases hr with hr | ⟨a1, a2, a3, a4⟩
  · exact .inl hr
  · exact .inr ⟨a1, a2, fun j j0 j1 => by rw [hm]; exact a3 j j0 j1, by rw [hm]; exact a4⟩

theorem errS_ok {g : api_Gates} (hg : VG g) {c t l : Int} (hc : 0 ≤ c ∧ c ≤ 7) (ht : -1099511627776 ≤ t ∧ t ≤ 1099511627776) (hl : 0 ≤ l ∧ l ≤ 1099511627776) : errS g c t l = 0 := by
  unfold errS
  rw [if_pos hg, if_pos (by omega)]

theorem mAt_range {g : api_Gates} (hg : VG g) (t : Int) : 0 ≤ mAt g.Entries t ∧ mAt g.Entries t ≤ 255 := by
  obtain ⟨e, he, hm⟩ := mAt_mem hg.ok hg.1 t
  have := okE_iff.1 (hg.ok e he)
  omega

theorem law27_mask_eq {N : Nat} (hN : 200 ≤ N) {g : api_Gates} (hg : VG g) {t : Int} (ht : -1099511627776 ≤ t ∧ t ≤ 1099511627776) : law27_mask N g t = some (mAt g.Entries t) := by
  unfold law27_mask
  rw [gates_Mask_eq hN, Option.bind_some, if_pos (errS_ok hg (by decide) ht (by decide))]
  simp

theorem law27_open_eq {N : Nat} (hN : 200 ≤ N) {g : api_Gates} (hg : VG g) {c t r : Int} (hc : 0 ≤ c ∧ c ≤ 7) (ht : -1099511627776 ≤ t ∧ t ≤ 1099511627776) (hr : IsSt g.Entries (bitB c) t r) : law27_open N g c t = some (opn g.Cycle r) := by
  unfold law27_open gates_Open
  rw [gates_check_eq hN, Option.bind_some, errS_ok hg hc ht (by decide), if_neg (by decide), gates_open_eq hN hg hc hr]
  simp

theorem law27_fits_eq {N : Nat} (hN : 200 ≤ N) {g : api_Gates} (hg : VG g) {c t r l : Int} (hc : 0 ≤ c ∧ c ≤ 7) (ht : -1099511627776 ≤ t ∧ t ≤ 1099511627776) (hl : 0 ≤ l ∧ l ≤ 1099511627776) (hr : IsSt g.Entries (bitB c) t r) : law27_fits N g c t l = some (decide (opn g.Cycle r ≥ l)) := by
  unfold law27_fits gates_Fits
  rw [gates_check_eq hN, Option.bind_some, errS_ok hg hc ht hl, if_neg (by decide), gates_open_eq hN hg hc hr]
  simp

theorem law27_fits_iff {N : Nat} (hN : 200 ≤ N) {g : api_Gates} (hg : VG g) {c t l : Int} (hc : 0 ≤ c ∧ c ≤ 7) (ht : -1099511627776 ≤ t ∧ t ≤ 1099511627776) (hl : 0 ≤ l ∧ l ≤ 1099511627776) : ∃ b, law27_fits N g c t l = some b ∧ (b = true ↔ FitsAt g.Entries c l t) := by
  obtain ⟨r, hr⟩ := IsSt_exists hg (bitB c) t
  refine ⟨_, law27_fits_eq hN hg hc ht hl hr, ?_⟩
  rw [← opn_ge hg hr hl.1 hl.2, decide_eq_true_iff]
  have hr0 : 0 ≤ opn g.Cycle r := by
    have hC := hg.2.2.2.1
    unfold opn
    split
    · omega
    · rcases hr with ⟨a, _⟩ | ⟨a, _⟩
      · omega
      · exact a
  omega

theorem small_cycle {g : api_Gates} (hg : VG g) (hl : g.Entries.length ≤ 16) (h20 : ∀ e ∈ g.Entries, e.Long ≤ 20) : 1 ≤ g.Cycle ∧ g.Cycle ≤ 320 := by
  have hC := hg.2.2.2.1
  have hb := (sumL_bound hg.ok).1
  have hlen := hg.1
  have hs : ∀ l : List api_Entry, (∀ e ∈ l, e.Long ≤ 20) → sumL l ≤ 20 * l.length := by
    intro l
    induction l with
    | nil => intro _; simp [sumL]
    | cons e l ih =>
      intro h
      have := h e (by simp)
      have := ih fun x hx => h x (by simp [hx])
      simp only [sumL, List.length_cons]
      omega
  have := hs g.Entries h20
  omega

theorem gatesTurns_true (d : ref27_Draft) (t : Int) (hd : Rg_ref27_Draft d) (ht : InK .i16 t) : ∃ N, law27_GatesTurns N d t = some true := by
  refine ⟨30000000, ?_⟩
  obtain ⟨g, hgd, hg, hl, h20⟩ := draft_gates (N := 30000000) (by decide) hd
  have hcy := small_cycle hg hl h20
  have ht := ht.i16
  have hC := hg.2.2.2.1
  have ew : w64 t = t := w64_id (by omega) (by omega)
  have ew2 : w64 (t + g.Cycle) = t + g.Cycle := w64_id (by omega) (by omega)
  obtain ⟨r, h1, _, h3⟩ := turn_same (N := 30000000) (by decide) g t
  obtain ⟨q, hq, rfl⟩ := h3 (errS_ok hg (by decide) (by omega) (by decide))
  unfold law27_GatesTurns
  rw [works27, hgd]
  simp only [Option.bind_some, Bool.not_true, Bool.false_eq_true, if_false]
  rw [ew, ew2, h1, Option.bind_some]
  by_cases hqC : q = g.Cycle
  · have htrn : trn g.Cycle t q = (0, 4) := by unfold trn; rw [if_pos hqC]
    have hall : ∀ e ∈ g.Entries, (e.Mask == mAt g.Entries t) = true := by
      rcases hq with ⟨_, h⟩ | ⟨_, h, _⟩
      · exact h
      · omega
    rw [htrn]
    simp only [beq_self_eq_true, if_true]
    obtain ⟨x, hx⟩ := iterF_upto (body := fun x : Int => law27_GatesTurns_L1 30000000 t g x) (b := t + g.Cycle) (fin := fun x => .inl x) (fun x hx => by
      simp only [law27_GatesTurns_L1]
      rw [ew, ew2, if_neg (by simp only [decide_eq_true_eq]; omega)]) (t + g.Cycle - t).toNat 30000000 t rfl (by omega) (fun x x0 x1 => by
      simp only [law27_GatesTurns_L1]
      rw [ew, ew2, if_pos (by simpa using x1), law27_mask_eq (by decide) hg (by omega), Option.bind_some, law27_mask_eq (by decide) hg (by omega), Option.bind_some]
      obtain ⟨e, he, hm⟩ := mAt_mem hg.ok hg.1 x
      have := hall e he
      rw [← hm] at this
      rw [if_neg (by simp only [bne_iff_ne, ne_eq, Decidable.not_not]; simpa using this), w64_id (by omega) (by omega)])
    rw [hx, Option.bind_some]
  · have htrn : trn g.Cycle t q = (t + q, 0) := by unfold trn; rw [if_neg hqC]
    obtain ⟨q0, q1, q2, q3⟩ := notIsSt_all hq (by omega)
    have hq1 : 1 ≤ q := by
      rcases Int.lt_or_le 0 q with h | h
      · omega
      · have hz : q = 0 := by omega
        subst hz
        simp at q3
    rw [htrn]
    simp only [show ((0 : Int) == 4) = false from rfl, Bool.false_eq_true, if_false, bne_self_eq_false]
    rw [if_neg (by simp only [decide_eq_true_eq]; omega), if_neg (by simp only [decide_eq_true_eq]; omega), law27_mask_eq (by decide) hg (by omega), Option.bind_some, law27_mask_eq (by decide) hg (by omega), Option.bind_some, Option.bind_some, q3]
    simp only [Bool.false_eq_true, if_false]
    obtain ⟨x, hx⟩ := iterF_upto (body := fun x : Int => law27_GatesTurns_L2 30000000 t g (t + q, 0) x) (b := t + q) (fin := fun x => .inl x) (fun x hx => by
      simp only [law27_GatesTurns_L2]
      rw [if_neg (by simp only [decide_eq_true_eq]; omega)]) (t + q - t).toNat 30000000 t rfl (by omega) (fun x x0 x1 => by
      simp only [law27_GatesTurns_L2]
      rw [ew, if_pos (by simpa using x1), law27_mask_eq (by decide) hg (by omega), Option.bind_some, law27_mask_eq (by decide) hg (by omega), Option.bind_some]
      have := q2 (x - t) (by omega) (by omega)
      rw [show t + (x - t) = x by omega] at this
      rw [if_neg (by simp only [bne_iff_ne, ne_eq, Decidable.not_not]; simpa using this), w64_id (by omega) (by omega)])
    rw [hx, Option.bind_some]

theorem mod8 {c : Int} (h : 0 ≤ c ∧ c ≤ 255) : 0 ≤ w64 (c.tmod 8) ∧ w64 (c.tmod 8) ≤ 7 := by
  have h1 : c.tmod 8 = c % 8 := Int.tmod_eq_emod_of_nonneg h.1
  have h2 := Int.emod_nonneg c (show (8 : Int) ≠ 0 by decide)
  have h3 := Int.emod_lt_of_pos c (show (0 : Int) < 8 by decide)
  rw [h1, w64_id (by omega) (by omega)]
  omega

theorem mod48 {c : Int} (h : 0 ≤ c ∧ c ≤ 255) : 0 ≤ w64 (c.tmod 48) ∧ w64 (c.tmod 48) ≤ 47 := by
  have h1 : c.tmod 48 = c % 48 := Int.tmod_eq_emod_of_nonneg h.1
  have h2 := Int.emod_nonneg c (show (48 : Int) ≠ 0 by decide)
  have h3 := Int.emod_lt_of_pos c (show (0 : Int) < 48 by decide)
  rw [h1, w64_id (by omega) (by omega)]
  omega

theorem gatesLeast_true (d : ref27_Draft) (cl t lg : Int) (hd : Rg_ref27_Draft d) (hcl : InK .u8 cl) (ht : InK .i16 t) (hlg : InK .u8 lg) : ∃ N, law27_GatesLeast N d cl t lg = some true := by
  refine ⟨30000000, ?_⟩
  obtain ⟨g, hgd, hg, hl, h20⟩ := draft_gates (N := 30000000) (by decide) hd
  have hcy := small_cycle hg hl h20
  have ht := ht.i16
  have hC := hg.2.2.2.1
  have ew : w64 t = t := w64_id (by omega) (by omega)
  have ew2 : w64 (t + g.Cycle) = t + g.Cycle := w64_id (by omega) (by omega)
  have ew3 : w64 (2 * g.Cycle) = 2 * g.Cycle := w64_id (by omega) (by omega)
  have ew4 : w64 (t + 2 * g.Cycle) = t + 2 * g.Cycle := w64_id (by omega) (by omega)
  have hc := mod8 hcl.u8
  have hn := mod48 hlg.u8
  unfold law27_GatesLeast
  rw [works27, hgd]
  simp only [Option.bind_some, Bool.not_true, Bool.false_eq_true, if_false]
  have hL1 : ∀ x, law27_GatesLeast_L1 30000000 cl t lg g x = (if (decide (x < (w64 (t + w64 (2 * g.Cycle))))) = true then ((law27_fits 30000000 g (w64 (cl.tmod 8)) x (w64 (lg.tmod 48))).bind fun r508 => (if r508 then (some (.inr (.inr false))) else (some (.inl (w64 (x + 1)))))) else (some (.inr (.inl x)))) := fun x => by
    simp only [law27_GatesLeast_L1, ew]
  have hL2 : ∀ (r4 : Int × Int) y, law27_GatesLeast_L2 30000000 cl lg g r4 y = (if (decide (y < r4.1)) = true then ((law27_fits 30000000 g (w64 (cl.tmod 8)) y (w64 (lg.tmod 48))).bind fun r1029 => (if r1029 = true then (some (.inr (.inr false))) else (some (.inl (w64 (y + 1)))))) else (some (.inr (.inl y)))) := fun r4 y => rfl
  generalize w64 (cl.tmod 8) = c at hc hL1 hL2 ⊢
  generalize w64 (lg.tmod 48) = n at hn hL1 hL2 ⊢
  rw [ew, ew2, ew3, ew4]
  rw [ew3, ew4] at hL1
  obtain ⟨z, hz, hfit⟩ := gates_Fit_ex (N := 30000000) (by decide) (errS_ok hg hc (t := t) (by omega) (l := n) (by omega))
  obtain ⟨z', hz', hfit'⟩ := gates_Fit_ex (N := 30000000) (by decide) (errS_ok hg hc (t := t + g.Cycle) (by omega) (l := n) (by omega))
  rw [hfit, hfit']
  simp only [Option.bind_some]
  have hper : ∀ y, FitsAt g.Entries c n (y + g.Cycle) ↔ FitsAt g.Entries c n y := fun y => by
    have := fits_period hg.ok hg.1 (c := c) (l := n) (x := y)
    rwa [hC] at this
  cases z with
  | none =>
    have : z' = none := IsLeast_unique hz' (show IsLeast g.Entries c n (t + g.Cycle) none from fun y hy => hz y (by omega))
    subst this
    simp only [fitS, beq_self_eq_true, if_true]
    obtain ⟨x, hx⟩ := iterF_upto (body := fun x : Int => law27_GatesLeast_L1 30000000 cl t lg g x) (b := t + 2 * g.Cycle) (fin := fun x => .inl x) (fun x hx => by
      simp only [hL1]
      rw [if_neg (by simp only [decide_eq_true_eq]; omega)]) (t + 2 * g.Cycle - t).toNat 30000000 t rfl (by omega) (fun x x0 x1 => by
      simp only [hL1]
      obtain ⟨b, hb, hbi⟩ := law27_fits_iff (N := 30000000) (by decide) hg hc (t := x) (by omega) (l := n) (by omega)
      have hbf : b = false := by
        rw [← Bool.not_eq_true, hbi]; exact hz x x0
      rw [if_pos (by simpa using x1), hb, Option.bind_some, hbf, if_neg (by decide), w64_id (by omega) (by omega)])
    rw [hx, Option.bind_some]
    rfl
  | some x =>
    obtain ⟨hx1, hx2, hx3⟩ := hz
    have hx4 : x < t + g.Cycle := by
      rcases Int.lt_or_le x (t + g.Cycle) with h | h
      · exact h
      · refine absurd ?_ (hx3 (x - g.Cycle) (by omega) (by omega))
        rw [← hper, show x - g.Cycle + g.Cycle = x by omega]; exact hx2
    have : z' = some (x + g.Cycle) := IsLeast_unique hz' (show IsLeast g.Entries c n (t + g.Cycle) (some (x + g.Cycle)) from ⟨by omega, (hper x).2 hx2, fun y y0 y1 hy => by
      refine hx3 (y - g.Cycle) (by omega) (by omega) ?_
      rw [← hper, show y - g.Cycle + g.Cycle = y by omega]; exact hy⟩)
    subst this
    obtain ⟨b, hb, hbi⟩ := law27_fits_iff (N := 30000000) (by decide) hg hc (t := x) (by omega) (l := n) (by omega)
    have hbt : b = true := hbi.2 hx2
    simp only [fitS, show ((0 : Int) == 4) = false from rfl, Bool.false_eq_true, if_false, bne_self_eq_false]
    have e1 : decide (x < t) = false := decide_eq_false (by omega)
    have e2 : decide (x ≥ t + 2 * g.Cycle) = false := decide_eq_false (by omega)
    simp only [e1, e2, hb, hbt, Option.bind_some, Bool.not_true, Bool.false_eq_true, if_false]
    obtain ⟨y, hy⟩ := iterF_upto (body := fun y : Int => law27_GatesLeast_L2 30000000 cl lg g (x, 0) y) (b := x) (fin := fun y => .inl y) (fun y hy => by
      simp only [hL2]
      rw [if_neg (by simp only [decide_eq_true_eq]; omega)]) (x - t).toNat 30000000 t rfl (by omega) (fun y y0 y1 => by
      simp only [hL2]
      obtain ⟨b, hb, hbi⟩ := law27_fits_iff (N := 30000000) (by decide) hg hc (t := y) (by omega) (l := n) (by omega)
      have hbf : b = false := by
        rw [← Bool.not_eq_true, hbi]; exact hx3 y y0 y1
      rw [if_pos (by simpa using y1), hb, Option.bind_some, hbf, if_neg (by decide), w64_id (by omega) (by omega)])
    rw [hy, Option.bind_some, w64_id (x := x + g.Cycle) (by omega) (by omega)]
    simp only [beq_self_eq_true, Bool.or_true, Bool.and_true]
    split
    · rename_i h
      have := of_decide_eq_true h
      omega
    · split
      · rename_i h
        have := of_decide_eq_true h
        omega
      · rfl

theorem bit_all : ∀ (m : Fin 256) (c : Fin 8), ((shrI .i64 (m.val : Int) (IntKind.u64.wrap (c.val : Int))).bind fun s => some ((andI .i64 s 1) == 1)) = some (bitB (c.val : Int) (m.val : Int)) := by
  decide +kernel

theorem bit_one {m c : Int} (hm : 0 ≤ m ∧ m ≤ 255) (hc : 0 ≤ c ∧ c ≤ 7) : ∃ s, shrI .i64 m (IntKind.u64.wrap c) = some s ∧ ((andI .i64 s 1) == 1) = bitB c m := by
  have := bit_all ⟨m.toNat, by omega⟩ ⟨c.toNat, by omega⟩
  simp only [Int.toNat_of_nonneg hm.1, Int.toNat_of_nonneg hc.1] at this
  cases hs : shrI .i64 m (IntKind.u64.wrap c) with
  | none => rw [hs] at this; simp at this
  | some s => rw [hs] at this; exact ⟨s, rfl, by simpa using this⟩

theorem means_loop {g : api_Gates} (hg : VG g) {c t r : Int} {body : Int × Bool → Option ((Int × Bool) ⊕ (Int × Bool))} (hb0 : ∀ k, 0 ≤ k → k < g.Cycle → body (k, true) = some (.inl (if bitB c (mAt g.Entries (t + k)) = true then (k + 1, true) else (k, false)))) (hb1 : ∀ k, g.Cycle ≤ k → body (k, true) = some (.inr (k, true))) (hb2 : ∀ k, body (k, false) = some (.inr (k, false))) (hr : IsSt g.Entries (bitB c) t r) : ∀ (n N : Nat) (k : Int), (r - k).toNat = n → 0 ≤ k → k ≤ r → n + 2 < N → iterF body N (k, true) = some (r, decide (r = g.Cycle)) := by
  have hC := hg.2.2.2.1
  intro n
  induction n with
  | zero =>
    intro N k hn h0 h1 hN
    have hk : k = r := by omega
    subst hk
    cases N with
    | zero => omega
    | succ N =>
      rcases hr with ⟨a1, a2⟩ | ⟨a1, a2, a3, a4⟩
      · rw [iterF_inr (hb1 k (by omega))]
        simp [a1, hC]
      · rw [iterF_inl (hb0 k (by omega) (by omega)), if_neg (by rw [a4]; decide)]
        cases N with
        | zero => omega
        | succ N =>
          rw [iterF_inr (hb2 k), decide_eq_false (by omega)]
  | succ n ih =>
    intro N k hn h0 h1 hN
    cases N with
    | zero => omega
    | succ N =>
      have hlt : k < r := by omega
      have hrC : r ≤ g.Cycle := by
        rcases hr with ⟨a1, _⟩ | ⟨_, a1, _⟩ <;> omega
      have hp : bitB c (mAt g.Entries (t + k)) = true := by
        rcases hr with ⟨_, a2⟩ | ⟨_, _, a3, _⟩
        · obtain ⟨e, he, hm⟩ := mAt_mem hg.ok hg.1 (t + k)
          rw [hm]; exact a2 e he
        · exact a3 k h0 hlt
      rw [iterF_inl (hb0 k h0 (by omega)), if_pos hp]
      exact ih N (k + 1) (by omega) (by omega) (by omega) (by omega)

theorem gatesMeans_true (d : ref27_Draft) (cl t lg : Int) (hd : Rg_ref27_Draft d) (hcl : InK .u8 cl) (ht : InK .i16 t) (hlg : InK .u8 lg) : ∃ N, law27_GatesMeans N d cl t lg = some true := by
  refine ⟨30000000, ?_⟩
  obtain ⟨g, hgd, hg, hl, h20⟩ := draft_gates (N := 30000000) (by decide) hd
  have hcy := small_cycle hg hl h20
  have ht := ht.i16
  have hlg := hlg.u8
  have hC := hg.2.2.2.1
  have ew : w64 t = t := w64_id (by omega) (by omega)
  have ew1 : w64 lg = lg := w64_id (by omega) (by omega)
  have ew3 : w64 (3 * g.Cycle) = 3 * g.Cycle := w64_id (by omega) (by omega)
  have ew4 : w64 (t + 3 * g.Cycle) = t + 3 * g.Cycle := w64_id (by omega) (by omega)
  have hc := mod8 hcl.u8
  unfold law27_GatesMeans
  rw [works27, hgd]
  simp only [Option.bind_some, Bool.not_true, Bool.false_eq_true, if_false]
  have hL1 : ∀ (k : Int) (b : Bool), law27_GatesMeans_L1 30000000 cl t g k b = (if ((decide (k < g.Cycle)) && b) = true then ((law27_mask 30000000 g (w64 (t + k))).bind fun r509 =>
 ((shrI .i64 r509 (IntKind.u64.wrap ((w64 ((Int.tmod cl 8)))))).bind fun sh510 =>
 (if ((andI .i64 sh510 1) == 1) = true then (some (.inl ((w64 (k + 1)), ((andI .i64 sh510 1) == 1)))) else (some (.inl (k, ((andI .i64 sh510 1) == 1))))))) else (some (.inr (k, b)))) := fun k b => by
    simp only [law27_GatesMeans_L1, ew]
  generalize w64 (cl.tmod 8) = c at hc hL1 ⊢
  obtain ⟨r, hr⟩ := IsSt_exists hg (bitB c) t
  have hrC : 0 ≤ r ∧ r ≤ g.Cycle := by
    rcases hr with ⟨a1, _⟩ | ⟨a0, a1, _⟩ <;> omega
  rw [means_loop (body := fun x : Int × Bool => law27_GatesMeans_L1 30000000 cl t g x.1 x.2) hg (c := c) (t := t) (r := r) (fun k k0 k1 => by
      obtain ⟨s, hs, hs1⟩ := bit_one (mAt_range hg (t + k)) hc
      simp only [hL1]
      rw [if_pos (by simpa using k1), w64_id (by omega) (by omega), law27_mask_eq (by decide) hg (by omega), Option.bind_some, hs, Option.bind_some, hs1, w64_id (x := k + 1) (by omega) (by omega)]
      cases bitB c (mAt g.Entries (t + k)) <;> rfl) (fun k k0 => by
      simp only [hL1]
      rw [if_neg (by simp only [Bool.and_true, decide_eq_true_eq]; omega)]) (fun k => by
      simp only [hL1, Bool.and_false, Bool.false_eq_true, if_false]) hr r.toNat 30000000 0 (by omega) (by omega) (by omega) (by omega), Option.bind_some]
  have hj : (if decide (r = g.Cycle) = true then some (1099511627776 : Int) else some r) = some (opn g.Cycle r) := by
    unfold opn
    by_cases h : r = g.Cycle
    · rw [if_pos (by simpa using h), if_pos h]
    · rw [if_neg (by simpa using h), if_neg h]
  simp only []
  rw [hj, Option.bind_some]
  obtain ⟨y, hy⟩ := iterF_upto (body := fun y : Int => law27_GatesMeans_L2 30000000 t g y) (b := g.Cycle) (fin := fun y => .inl y) (fun y hy => by
    simp only [law27_GatesMeans_L2]
    rw [if_neg (by simp only [decide_eq_true_eq]; omega)]) (g.Cycle - 0).toNat 30000000 0 rfl (by omega) (fun y y0 y1 => by
    simp only [law27_GatesMeans_L2]
    have hmr := mAt_range hg (t + y)
    have hper : mAt g.Entries (t + y + g.Cycle) = mAt g.Entries (t + y) := by
      have := mAt_period hg.ok hg.1 (t + y) 1
      rwa [hC, Int.one_mul] at this
    rw [ew, if_pos (by simpa using y1), w64_id (x := t + y) (by omega) (by omega), w64_id (x := t + y + g.Cycle) (by omega) (by omega), law27_mask_eq (by decide) hg (by omega), Option.bind_some, law27_mask_eq (by decide) hg (by omega), Option.bind_some, hper, if_neg (by simp), Option.bind_some, Option.bind_some, if_neg (by simp only [decide_eq_true_eq]; omega), w64_id (x := y + 1) (by omega) (by omega)])
  rw [hy, Option.bind_some]
  simp only []
  have hr3 : IsSt g.Entries (bitB c) (t + 3 * g.Cycle) r := by
    have := IsSt_period hg.ok hg.1 3 hr
    rwa [hC] at this
  rw [ew, ew1, ew3, ew4, law27_open_eq (by decide) hg hc (by omega) hr, law27_fits_eq (by decide) hg hc (by omega) (by omega) hr, law27_open_eq (by decide) hg hc (by omega) hr3]
  simp only [Option.bind_some, beq_self_eq_true, if_true]
  by_cases h : r = g.Cycle
  · have : opn g.Cycle r = 1099511627776 := by unfold opn; rw [if_pos h]
    rw [this, if_pos (by simpa using h), if_pos (by simp; omega)]
    rfl
  · have : opn g.Cycle r = r := by unfold opn; rw [if_neg h]
    rw [this, if_neg (by simpa using h), if_pos (by simp)]
    rfl

end Go.Sh
