/- Changes of gate lists: validity, masks, advancing. -/
import Derived.Test.YtpadgoejolfllaaGat5
namespace Go.Sh
open Go Go.Eng
set_option linter.unusedVariables false
set_option linter.unusedSimpArgs false

def tm (t : Int) : Prop := -1099511627776 ≤ t ∧ t ≤ 1099511627776
instance (t : Int) : Decidable (tm t) := by unfold tm; infer_instance

theorem swap_times_eq {N : Nat} (hN : 2 ≤ N) (t : Int) : swap_times N [t] = some (decide (tm t)) := by
  unfold swap_times
  have h := iterF_all (l := [t]) (p := fun x => decide (tm x)) (body := fun x => swap_times_L1 N [t] x) (bad := .inr false) (fin := .inl 1) (fun k hk => by
      obtain rfl : k = 0 := by simpa using hk
      unfold swap_times_L1
      have e : idx [t] ((0 : Nat) : Int) = some t := rfl
      rw [if_pos (by simp), e, Option.bind_some]
      by_cases ht : tm t
      · have hd : (decide (t < -1099511627776) || decide (t > 1099511627776)) = false := by unfold tm at ht; simp; omega
        rw [hd]
        simp only [Bool.false_eq_true, if_false, List.getElem_cons_zero, decide_eq_true ht, if_true]
        rfl
      · have hd : (decide (t < -1099511627776) || decide (t > 1099511627776)) = true := by
          unfold tm at ht
          rcases Int.lt_or_le t (-1099511627776) with h1 | h1
          · simp [h1]
          · have : t > 1099511627776 := by omega
            simp [this]
        rw [hd]
        simp [ht]) (by unfold swap_times_L1; simp) 1 N 0 rfl (by simp) (by omega)
  have h' : iterF (fun x => swap_times_L1 N [t] x) N 0 = some (if decide (tm t) = true then .inl 1 else .inr false) := by simpa using h
  rw [h', Option.bind_some]
  by_cases ht : tm t <;> simp [ht]

theorem ref29_time_eq (N : Nat) (t : Int) : ref29_time N t = some (decide (tm t)) := by
  unfold ref29_time
  congr 1
  rw [Bool.eq_iff_iff, decide_eq_true_iff]
  unfold tm
  simp

/-- A valid change. -/
def VC (c : api_Change) : Prop := VG c.Oper ∧ tm c.Base ∧ (if c.Pending = true then VG c.Admin ∧ -1099511627776 ≤ c.When ∧ c.When ≤ 2199023255552 ∧ (c.When - c.Base) % c.Oper.Cycle = 0 else c.Admin.Entries.length = 0 ∧ c.Admin.Cycle = 0 ∧ c.When = 0)
instance (c : api_Change) : Decidable (VC c) := by unfold VC; infer_instance

theorem VG.cyc {g : api_Gates} (h : VG g) : 1 ≤ g.Cycle ∧ g.Cycle ≤ 9600000 := by
  have := (sumL_bound h.ok).1
  have h2 := h.2.2.2
  have := h.1
  omega

theorem swap_mod_eq {N : Nat} {a b : Int} (hb : 1 ≤ b) (hb2 : b ≤ 9600000) : swap_mod N a b = some (a % b) := by
  unfold swap_mod
  have h1 := Int.lt_tmod_of_pos a (show 0 < b by omega)
  have h2 := Int.tmod_lt_of_pos a (show 0 < b by omega)
  rw [remI_pos (by omega), Option.bind_some, w64_id (by omega) (by omega), remI_pos (by omega), Option.bind_some, tmod_mod (by omega)]

theorem ref23_Mod_eq' {N : Nat} {a b : Int} (hb : 1 ≤ b) (hb2 : b ≤ 9600000) : ref23_Mod N a b = some (a % b) := by
  unfold ref23_Mod
  have h1 := Int.lt_tmod_of_pos a (show 0 < b by omega)
  have h2 := Int.tmod_lt_of_pos a (show 0 < b by omega)
  rw [remI_pos (by omega), Option.bind_some]
  have h3 := tmod_mod (a := a) (b := b) (by omega)
  by_cases h : a.tmod b < 0
  · rw [if_pos (by simp [h]), Option.bind_some, w64_id (by omega) (by omega), ← h3]
    congr 1
    exact (Int.tmod_eq_of_lt (by omega) (by omega)).symm
  · rw [if_neg (by simp [h]), Option.bind_some, ← h3]
    congr 1
    have : (a.tmod b + b).tmod b = (a.tmod b + b) % b := Int.tmod_eq_emod_of_nonneg (by omega)
    rw [this, Int.add_emod_right, Int.emod_eq_of_lt (by omega) (by omega)]

theorem tmod_zero {a b : Int} (hb : 1 ≤ b) : a.tmod b = 0 ↔ a % b = 0 := by
  rw [← Int.dvd_iff_tmod_eq_zero, ← Int.dvd_iff_emod_eq_zero]

theorem ne_dec {p : Prop} [Decidable p] {a : Int} (ha : a ≠ 0) : ((if p then (0 : Int) else a) != 0) = !decide p := by
  by_cases h : p <;> simp [h, ha]

theorem swap_Check_eq {N : Nat} (hN : 200 ≤ N) (c : api_Change) : swap_Check N c = some (if VC c then 0 else 390) := by
  unfold swap_Check
  rw [gates_Check_eq hN, Option.bind_some, swap_times_eq (by omega), ne_dec (by decide)]
  by_cases h1 : VG c.Oper
  · simp only [h1, decide_true, Bool.not_true, Bool.false_eq_true, if_false, Option.bind_some]
    by_cases h2 : tm c.Base
    · simp only [h2, decide_true, Bool.not_true, Bool.false_eq_true, if_false]
      have hc := h1.cyc
      cases hp : c.Pending with
      | false =>
        simp only [Bool.not_false, if_true]
        have hvc : VC c ↔ (c.Admin.Entries.length = 0 ∧ c.Admin.Cycle = 0 ∧ c.When = 0) := by unfold VC; rw [hp]; simp [h1, h2]
        by_cases h3 : c.Admin.Entries.length = 0 ∧ c.Admin.Cycle = 0 ∧ c.When = 0
        · rw [if_pos (hvc.2 h3), h3.1, h3.2.1, h3.2.2]
          simp
        · rw [if_neg (fun h => h3 (hvc.1 h)), if_pos]
          simp only [Bool.or_eq_true, bne_iff_ne]
          by_cases a : c.Admin.Entries.length = 0
          · by_cases b : c.Admin.Cycle = 0
            · exact .inr (.inr fun h => h3 ⟨a, b, h⟩)
            · exact .inr (.inl b)
          · exact .inl (by omega)
      | true =>
        simp only [Bool.not_true, Bool.false_eq_true, if_false]
        rw [gates_Check_eq hN, Option.bind_some, ne_dec (by decide)]
        have hvc : VC c ↔ (VG c.Admin ∧ -1099511627776 ≤ c.When ∧ c.When ≤ 2199023255552 ∧ (c.When - c.Base) % c.Oper.Cycle = 0) := by unfold VC; rw [hp]; simp [h1, h2]
        by_cases h3 : VG c.Admin
        · simp only [h3, decide_true, Bool.not_true, Bool.false_eq_true, if_false]
          by_cases h4 : c.When < -1099511627776
          · rw [if_pos (by simp [h4]), Option.bind_some, if_pos rfl, if_neg (fun h => by have := hvc.1 h; omega)]
          · rw [if_neg (by simp [h4]), Option.bind_some]
            by_cases h5 : c.When > 2199023255552
            · rw [if_pos (by simp [h5]), if_neg (fun h => by have := hvc.1 h; omega)]
            · have hb := h2
              unfold tm at hb
              rw [if_neg (by simp [h5]), remI_pos (by omega), Option.bind_some, w64_id (by omega) (by omega)]
              by_cases h6 : (c.When - c.Base) % c.Oper.Cycle = 0
              · rw [(tmod_zero (by omega)).2 h6, if_neg (by simp), if_pos (hvc.2 ⟨h3, by omega, by omega, h6⟩)]
              · rw [if_pos (by simp only [bne_iff_ne]; exact fun h => h6 ((tmod_zero (by omega)).1 h)), if_neg (fun h => h6 (hvc.1 h).2.2.2)]
        · simp only [h3, decide_false, Bool.not_false, if_true, Option.bind_some]
          rw [if_neg (fun h => h3 (hvc.1 h).1)]
    · have : ¬ VC c := fun h => h2 h.2.1
      simp [h2, this]
  · have : ¬ VC c := fun h => h1 h.1
    simp [h1, this]

theorem ref29_Right_eq {N : Nat} (hN : 200 ≤ N) (c : api_Change) : ref29_Right N c = some (decide (VC c)) := by
  unfold ref29_Right
  rw [ref27_Right_eq hN, Option.bind_some, ref29_time_eq]
  by_cases h1 : VG c.Oper
  · simp only [h1, decide_true, Bool.not_true, Bool.false_eq_true, if_false, Option.bind_some]
    by_cases h2 : tm c.Base
    · simp only [h2, decide_true, Bool.not_true, Bool.false_eq_true, if_false]
      have hc := h1.cyc
      cases hp : c.Pending with
      | false =>
        simp only [Bool.not_false, if_true, Option.some.injEq]
        have hvc : VC c ↔ (c.Admin.Entries.length = 0 ∧ c.Admin.Cycle = 0 ∧ c.When = 0) := by unfold VC; rw [hp]; simp [h1, h2]
        rw [Bool.eq_iff_iff, decide_eq_true_iff, hvc]
        simp only [Bool.and_eq_true, beq_iff_eq]
        constructor
        · rintro ⟨a, b, c⟩; exact ⟨by omega, b, c⟩
        · rintro ⟨a, b, c⟩; exact ⟨by omega, b, c⟩
      | true =>
        simp only [Bool.not_true, Bool.false_eq_true, if_false]
        rw [ref27_Right_eq hN, Option.bind_some]
        have hvc : VC c ↔ (VG c.Admin ∧ -1099511627776 ≤ c.When ∧ c.When ≤ 2199023255552 ∧ (c.When - c.Base) % c.Oper.Cycle = 0) := by unfold VC; rw [hp]; simp [h1, h2]
        by_cases h3 : VG c.Admin
        · simp only [h3, decide_true, if_true]
          by_cases h4 : c.When ≥ -1099511627776
          · rw [if_pos (by simp [h4])]
            by_cases h5 : c.When ≤ 2199023255552
            · have hb := h2
              unfold tm at hb
              rw [if_pos (by simp [h5]), w64_id (by omega) (by omega), ref23_Mod_eq' (by omega) (by omega), Option.bind_some, Option.bind_some]
              congr 1
              rw [Bool.eq_iff_iff, decide_eq_true_iff, hvc, beq_iff_eq]
              exact ⟨fun h => ⟨h3, h4, h5, h⟩, fun h => h.2.2.2⟩
            · rw [if_neg (by simp [h5]), Option.bind_some, decide_eq_false (fun h => h5 (hvc.1 h).2.2.1)]
          · rw [if_neg (by simp [h4]), Option.bind_some, decide_eq_false (fun h => h4 (hvc.1 h).2.1)]
        · simp only [h3, decide_false, Bool.false_eq_true, if_false, Option.bind_some]
          rw [decide_eq_false (fun h => h3 (hvc.1 h).1)]
    · have : ¬ VC c := fun h => h2 h.2.1
      simp [h2, this]
  · have : ¬ VC c := fun h => h1 h.1
    simp [h1, this]

theorem ref29_Check_eq {N : Nat} (hN : 200 ≤ N) (c : api_Change) : ref29_Check N c = some (if VC c then 0 else 390) := by
  unfold ref29_Check
  rw [ref29_Right_eq hN, Option.bind_some]
  by_cases h : VC c <;> simp [h]

def noCh : api_Change := api_Change.mk (api_Gates.mk ([]) 0) 0 false (api_Gates.mk ([]) 0) 0

theorem new_same {N : Nat} (hN : 200 ≤ N) (g : api_Gates) (t : Int) : swap_New N g t = some (if VG g then (if tm t then (api_Change.mk g t false (api_Gates.mk [] 0) 0, 0) else (noCh, 2)) else (noCh, 370)) ∧
    ref29_New N g t = some (if VG g then (if tm t then (api_Change.mk g t false (api_Gates.mk [] 0) 0, 0) else (noCh, 2)) else (noCh, 370)) := by
  unfold swap_New ref29_New
  rw [gates_Check_eq hN, ref27_Right_eq hN, swap_times_eq (by omega), ref29_time_eq]
  simp only [Option.bind_some, ne_dec (show (370 : Int) ≠ 0 by decide)]
  by_cases h : VG g <;> by_cases ht : tm t <;> simp [h, ht, noCh]

/-- The change, advanced. -/
def later (c : api_Change) (now : Int) : api_Change := if c.Pending = true ∧ c.When ≤ now ∧ c.When ≤ 1099511627776 then api_Change.mk c.Admin c.When false (api_Gates.mk [] 0) 0 else c

theorem advance_eq (N : Nat) (c : api_Change) (now : Int) : swap_state_advance N (swap_state.mk c) now = some (swap_state.mk (later c now)) := by
  unfold swap_state_advance later
  cases hp : c.Pending with
  | false => simp [hp]
  | true =>
    simp only [Bool.not_true, Bool.false_eq_true, if_false, true_and]
    by_cases h1 : now < c.When
    · rw [if_pos (by simp [h1]), Option.bind_some, if_pos rfl, if_neg (by omega)]
    · rw [if_neg (by simp [h1]), Option.bind_some]
      by_cases h2 : c.When > 1099511627776
      · rw [if_pos (by simp [h2]), if_neg (by omega)]
      · rw [if_neg (by simp [h2]), if_pos (by omega)]

theorem later_eq (N : Nat) (c : api_Change) (now : Int) : ref29_Later N c now = some (later c now) := by
  unfold ref29_Later later
  cases hp : c.Pending with
  | false => simp
  | true =>
    by_cases h1 : now < c.When
    · rw [if_pos (by simp [h1]), if_neg (by omega)]
    · by_cases h2 : c.When > 1099511627776
      · rw [if_pos (by simp [h2]), if_neg (by omega)]
      · rw [if_neg (by simp [h1, h2]), if_pos (by simp; omega)]

theorem adv_same {N : Nat} (hN : 200 ≤ N) (c : api_Change) (t : Int) : swap_Advance N c t = some (if VC c then (if tm t then (later c t, 0) else (noCh, 2)) else (noCh, 390)) ∧
    ref29_Advance N c t = some (if VC c then (if tm t then (later c t, 0) else (noCh, 2)) else (noCh, 390)) := by
  unfold swap_Advance ref29_Advance
  rw [swap_Check_eq hN, ref29_Right_eq hN, swap_times_eq (by omega), ref29_time_eq, advance_eq, later_eq]
  simp only [Option.bind_some, ne_dec (show (390 : Int) ≠ 0 by decide)]
  by_cases h : VC c <;> by_cases ht : tm t <;> simp [h, ht, noCh]

theorem later_VC {c : api_Change} (h : VC c) (now : Int) : VC (later c now) := by
  unfold later
  split
  · rename_i hc
    obtain ⟨h1, h2, h3⟩ := h
    rw [if_pos hc.1] at h3
    refine ⟨h3.1, ?_, ?_⟩
    · show tm c.When
      unfold tm; omega
    · simp
  · exact h

/-- When a new list comes into operation. -/
def whenOf (c : api_Change) (least : Int) : Int := least + (c.Base - least) % c.Oper.Cycle

theorem set_same {N : Nat} (hN : 200 ≤ N) (c : api_Change) (now : Int) (g : api_Gates) (base : Int) :
    swap_Set N c now g base = some (if VC c then (if tm now then (if VG g then (if tm base then (api_Change.mk (later c now).Oper (later c now).Base true g (whenOf (later c now) (if base > now then base else now)), 0) else (noCh, 2)) else (noCh, 370)) else (noCh, 2)) else (noCh, 390)) ∧
    ref29_Set N c now g base = some (if VC c then (if tm now then (if VG g then (if tm base then (api_Change.mk (later c now).Oper (later c now).Base true g (whenOf (later c now) (if base > now then base else now)), 0) else (noCh, 2)) else (noCh, 370)) else (noCh, 2)) else (noCh, 390)) := by
  unfold swap_Set ref29_Set
  rw [swap_Check_eq hN, ref29_Right_eq hN, swap_times_eq (by omega), swap_times_eq (by omega), ref29_time_eq, ref29_time_eq, advance_eq, later_eq, gates_Check_eq hN, ref27_Right_eq hN]
  simp only [Option.bind_some, ne_dec (show (390 : Int) ≠ 0 by decide), ne_dec (show (370 : Int) ≠ 0 by decide)]
  by_cases h : VC c
  · by_cases h1 : tm now
    · by_cases h2 : VG g
      · by_cases h3 : tm base
        · have hl := later_VC h now
          have hcy := hl.1.cyc
          have hb := hl.2.1
          simp only [h, h1, h2, h3, decide_true, Bool.not_true, Bool.false_eq_true, if_false, if_true]
          unfold tm at h1 h3 hb
          have hm : -1099511627776 ≤ (if base > now then base else now) ∧ (if base > now then base else now) ≤ 1099511627776 := by split <;> omega
          generalize (if base > now then base else now) = m at *
          have hd := Int.emod_nonneg ((later c now).Base - m) (show (later c now).Oper.Cycle ≠ 0 by omega)
          have hd2 := Int.emod_lt_of_pos ((later c now).Base - m) (show 0 < (later c now).Oper.Cycle by omega)
          rw [w64_id (x := (later c now).Base - m) (by omega) (by omega), swap_mod_eq (by omega) (by omega), ref23_Mod_eq' (by omega) (by omega)]
          simp only [Option.bind_some]
          rw [w64_id (by omega) (by omega)]
          exact ⟨rfl, rfl⟩
        · simp [h, h1, h2, h3, noCh]
      · simp [h, h1, h2, noCh]
    · simp [h, h1, noCh]
  · simp [h, noCh]
end Go.Sh
