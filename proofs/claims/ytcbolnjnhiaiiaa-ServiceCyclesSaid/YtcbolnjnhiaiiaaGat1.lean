/- Gate lists: validity, the entry at a time. -/
import Derived.Test.YtcbolnjnhiaiiaaBase
import Derived.KernelRfl
namespace Go.Sh
open Go Go.Eng

def okE (e : api_Entry) : Bool := !((decide (e.Mask < 0)) || ((decide (e.Mask > 255)) || ((decide (e.Long < 1)) || (decide (e.Long > 9600000)))))
theorem okE_iff {e : api_Entry} : okE e = true ↔ 0 ≤ e.Mask ∧ e.Mask ≤ 255 ∧ 1 ≤ e.Long ∧ e.Long ≤ 9600000 := by
  unfold okE
  simp only [Bool.not_eq_true', Bool.or_eq_false_iff, decide_eq_false_iff_not]
  omega

def sumL : List api_Entry → Int
  | [] => 0
  | e :: l => e.Long + sumL l

theorem sumL_append (a b : List api_Entry) : sumL (a ++ b) = sumL a + sumL b := by
  induction a with
  | nil => simp [sumL]
  | cons e a ih => simp only [List.cons_append, sumL, ih]; omega

theorem sumL_bound {l : List api_Entry} (h : ∀ e ∈ l, okE e = true) : (l.length : Int) ≤ sumL l ∧ sumL l ≤ 9600000 * l.length := by
  induction l with
  | nil => simp [sumL]
  | cons e l ih =>
    have h1 := okE_iff.1 (h e (by simp))
    have h2 := ih fun x hx => h x (by simp [hx])
    simp only [sumL, List.length_cons]
    omega

/-- A valid gate list. -/
def VG (g : api_Gates) : Prop := 1 ≤ g.Entries.length ∧ g.Entries.length ≤ 128 ∧ (g.Entries.all okE = true) ∧ sumL g.Entries = g.Cycle ∧ g.Cycle ≤ 9600000
instance (g : api_Gates) : Decidable (VG g) := by unfold VG; infer_instance

theorem VG.ok {g : api_Gates} (h : VG g) : ∀ e ∈ g.Entries, okE e = true := List.all_eq_true.1 h.2.2.1

theorem check_loop (N : Nat) (g : api_Gates) (hl : g.Entries.length ≤ 128) : ∀ (n M k : Nat) (s : Int), g.Entries.length - k = n → k ≤ g.Entries.length → n < M → 0 ≤ s → s ≤ 9600000 * k →
    iterF (fun x : Int × Int => gates_Check_L1 N g x.1 x.2) M (s, (k : Int)) = some (if (g.Entries.drop k).all okE then .inl (s + sumL (g.Entries.drop k), (g.Entries.length : Int)) else .inr 370) := by
  intro n
  induction n with
  | zero =>
    intro M k s hn hk hM h0 h1
    have : k = g.Entries.length := by omega
    subst this
    cases M with
    | zero => omega
    | succ M => rw [iterF_inr (r := .inl (s, (g.Entries.length : Int))) (by simp [gates_Check_L1])]; simp [sumL]
  | succ n ih =>
    intro M k s hn hk hM h0 h1
    cases M with
    | zero => omega
    | succ M =>
      have hlt : k < g.Entries.length := by omega
      rw [drop_cons hlt, List.all_cons]
      have hbody : gates_Check_L1 N g s (k : Int) = if okE g.Entries[k] = true then some (.inl (w64 (s + g.Entries[k].Long), ((k + 1 : Nat) : Int))) else some (.inr (.inr 370)) := by
        simp only [gates_Check_L1]
        rw [if_pos (by simpa using hlt), idx_nat, List.getElem?_eq_getElem hlt, Option.bind_some, w64_id (x := (k : Int) + 1) (by omega) (by omega)]
        unfold okE
        cases ((decide (g.Entries[k].Mask < 0)) || ((decide (g.Entries[k].Mask > 255)) || ((decide (g.Entries[k].Long < 1)) || (decide (g.Entries[k].Long > 9600000))))) <;> simp
      by_cases ho : okE g.Entries[k] = true
      · have hb := okE_iff.1 ho
        rw [iterF_inl (by rw [hbody, if_pos ho]), w64_id (by omega) (by omega), ih M (k + 1) _ (by omega) (by omega) (by omega) (by omega) (by omega)]
        simp only [ho, Bool.true_and, sumL, Int.add_assoc]
      · rw [iterF_inr (by rw [hbody, if_neg ho])]; simp [ho]

theorem gates_Check_eq {N : Nat} (hN : 200 ≤ N) (g : api_Gates) : gates_Check N g = some (if VG g then 0 else 370) := by
  unfold gates_Check
  by_cases h : 1 ≤ g.Entries.length ∧ g.Entries.length ≤ 128
  · rw [if_neg (by simp only [Bool.or_eq_true, decide_eq_true_eq]; omega)]
    have := check_loop N g h.2 g.Entries.length N 0 0 (by omega) (by omega) (by omega) (by omega) (by omega)
    rw [show ((0 : Nat) : Int) = 0 from rfl, List.drop_zero, Int.zero_add] at this
    rw [this, Option.bind_some]
    by_cases ha : g.Entries.all okE = true
    · simp only [ha, if_true]
      by_cases hs : sumL g.Entries = g.Cycle ∧ g.Cycle ≤ 9600000
      · rw [if_pos (show VG g from ⟨h.1, h.2, ha, hs.1, hs.2⟩), if_neg (by simp only [Bool.or_eq_true, bne_iff_ne, decide_eq_true_eq]; omega)]
      · rw [if_neg (show ¬ VG g from fun hv => hs ⟨hv.2.2.2.1, hv.2.2.2.2⟩), if_pos (by simp only [Bool.or_eq_true, bne_iff_ne, decide_eq_true_eq]; omega)]
    · rw [if_neg (show ¬ VG g from fun hv => ha hv.2.2.1)]
      simp only [ha, Bool.false_eq_true, if_false]
  · rw [if_pos (by simp only [Bool.or_eq_true, decide_eq_true_eq]; omega), if_neg (show ¬ VG g from fun hv => h ⟨hv.1, hv.2.1⟩)]

theorem right_loop (N : Nat) (g : api_Gates) (hl : g.Entries.length ≤ 128) : ∀ (n M k : Nat) (s : Int), g.Entries.length - k = n → k ≤ g.Entries.length → n < M → 0 ≤ s → s ≤ 9600000 * k →
    iterF (fun x : Int × Int => ref27_Right_L1 N g x.1 x.2) M (s, (k : Int)) = some (if (g.Entries.drop k).all okE then .inl (s + sumL (g.Entries.drop k), (g.Entries.length : Int)) else .inr false) := by
  intro n
  induction n with
  | zero =>
    intro M k s hn hk hM h0 h1
    have : k = g.Entries.length := by omega
    subst this
    cases M with
    | zero => omega
    | succ M => rw [iterF_inr (r := .inl (s, (g.Entries.length : Int))) (by simp [ref27_Right_L1])]; simp [sumL]
  | succ n ih =>
    intro M k s hn hk hM h0 h1
    cases M with
    | zero => omega
    | succ M =>
      have hlt : k < g.Entries.length := by omega
      rw [drop_cons hlt, List.all_cons]
      have hbody : ref27_Right_L1 N g s (k : Int) = if okE g.Entries[k] = true then some (.inl (w64 (s + g.Entries[k].Long), ((k + 1 : Nat) : Int))) else some (.inr (.inr false)) := by
        simp only [ref27_Right_L1]
        rw [if_pos (by simpa using hlt), idx_nat, List.getElem?_eq_getElem hlt, Option.bind_some, w64_id (x := (k : Int) + 1) (by omega) (by omega)]
        unfold okE
        cases ((decide (g.Entries[k].Mask < 0)) || ((decide (g.Entries[k].Mask > 255)) || ((decide (g.Entries[k].Long < 1)) || (decide (g.Entries[k].Long > 9600000))))) <;> simp
      by_cases ho : okE g.Entries[k] = true
      · have hb := okE_iff.1 ho
        rw [iterF_inl (by rw [hbody, if_pos ho]), w64_id (by omega) (by omega), ih M (k + 1) _ (by omega) (by omega) (by omega) (by omega) (by omega)]
        simp only [ho, Bool.true_and, sumL, Int.add_assoc]
      · rw [iterF_inr (by rw [hbody, if_neg ho])]; simp [ho]

theorem ref27_Right_eq {N : Nat} (hN : 200 ≤ N) (g : api_Gates) : ref27_Right N g = some (decide (VG g)) := by
  unfold ref27_Right
  by_cases h : 1 ≤ g.Entries.length ∧ g.Entries.length ≤ 128
  · rw [if_neg (by simp only [Bool.or_eq_true, decide_eq_true_eq]; omega)]
    have := right_loop N g h.2 g.Entries.length N 0 0 (by omega) (by omega) (by omega) (by omega) (by omega)
    rw [show ((0 : Nat) : Int) = 0 from rfl, List.drop_zero, Int.zero_add] at this
    rw [this, Option.bind_some]
    by_cases ha : g.Entries.all okE = true
    · simp only [ha, if_true]
      congr 1
      rw [Bool.eq_iff_iff, decide_eq_true_iff]
      simp only [Bool.and_eq_true, beq_iff_eq, decide_eq_true_eq, VG, h.1, h.2, ha, true_and]
      omega
    · simp only [ha, Bool.false_eq_true, if_false]
      congr 1
      symm
      rw [decide_eq_false_iff_not]
      exact fun hv => ha hv.2.2.1
  · rw [if_pos (by simp only [Bool.or_eq_true, decide_eq_true_eq]; omega)]
    congr 1
    symm
    rw [decide_eq_false_iff_not]
    exact fun hv => h ⟨hv.1, hv.2.1⟩

/-- The error of a list, a class, a time and a length. -/
def errS (g : api_Gates) (c t l : Int) : Int := if VG g then (if 0 ≤ c ∧ c ≤ 7 ∧ -1099511627776 ≤ t ∧ t ≤ 1099511627776 ∧ 0 ≤ l ∧ l ≤ 1099511627776 then 0 else 2) else 370

theorem gates_check_eq {N : Nat} (hN : 200 ≤ N) (g : api_Gates) (c t l : Int) : gates_check N g c t l = some (errS g c t l) := by
  unfold gates_check errS
  rw [gates_Check_eq hN, Option.bind_some]
  by_cases h : VG g
  · simp only [h, if_true, bne_self_eq_false, Bool.false_eq_true, if_false]
    by_cases hc : 0 ≤ c ∧ c ≤ 7 ∧ -1099511627776 ≤ t ∧ t ≤ 1099511627776 ∧ 0 ≤ l ∧ l ≤ 1099511627776
    · rw [if_pos hc, if_neg (by simp only [Bool.or_eq_true, decide_eq_true_eq]; omega)]
    · rw [if_neg hc, if_pos (by simp only [Bool.or_eq_true, decide_eq_true_eq]; omega)]
  · simp [h]

/-- At the time t the entry i, which is e, has lasted s ticks. -/
def AtE (E : List api_Entry) (t : Int) (i : Nat) (e : api_Entry) (s : Int) : Prop := E[i]? = some e ∧ 0 ≤ s ∧ s < e.Long ∧ t % sumL E = sumL (E.take i) + s

theorem take_sum {E : List api_Entry} {i : Nat} {e : api_Entry} (h : E[i]? = some e) : sumL (E.take (i + 1)) = sumL (E.take i) + e.Long := by
  have hi := (List.getElem?_eq_some_iff.1 h).1
  rw [List.take_succ_eq_append_getElem hi, sumL_append]
  have : E[i] = e := by
    have := List.getElem?_eq_getElem hi
    rw [h] at this
    exact (Option.some.inj this).symm
  simp [sumL, this]

theorem take_mono {E : List api_Entry} (h : ∀ e ∈ E, okE e = true) {i j : Nat} (hij : i ≤ j) : sumL (E.take i) ≤ sumL (E.take j) := by
  have e : E.take j = E.take i ++ (E.take j).drop i := by
    conv => lhs; rw [← List.take_append_drop i (E.take j), List.take_take, Nat.min_eq_left hij]
  rw [e, sumL_append]
  have := (sumL_bound (l := (E.take j).drop i) fun x hx => h x (List.mem_of_mem_take (List.mem_of_mem_drop hx))).1
  omega

theorem AtE_unique {E : List api_Entry} (h : ∀ e ∈ E, okE e = true) {t : Int} {i j : Nat} {e f : api_Entry} {s r : Int} (h1 : AtE E t i e s) (h2 : AtE E t j f r) : i = j ∧ e = f ∧ s = r := by
  obtain ⟨a1, a2, a3, a4⟩ := h1
  obtain ⟨b1, b2, b3, b4⟩ := h2
  have key : ∀ {i j : Nat} {e f : api_Entry} {s r : Int}, E[i]? = some e → E[j]? = some f → 0 ≤ s → s < e.Long → 0 ≤ r → r < f.Long → sumL (E.take i) + s = sumL (E.take j) + r → ¬ i < j := by
    intro i j e f s r a1 b1 a2 a3 b2 b3 heq hlt
    have := take_mono h (show i + 1 ≤ j by omega)
    rw [take_sum a1] at this
    omega
  have hij : i = j := by
    have n1 := key a1 b1 a2 a3 b2 b3 (by omega)
    have n2 := key b1 a1 b2 b3 a2 a3 (by omega)
    omega
  subst hij
  rw [a1] at b1
  cases b1
  exact ⟨rfl, rfl, by omega⟩

theorem AtE_of_rem {E : List api_Entry} (h : ∀ e ∈ E, okE e = true) : ∀ (l : List api_Entry) (k : Nat) (r : Int), E.drop k = l → 0 ≤ r → r < sumL l → ∃ i e s, E[i]? = some e ∧ 0 ≤ s ∧ s < e.Long ∧ sumL (E.take k) + r = sumL (E.take i) + s := by
  intro l
  induction l with
  | nil => intro k r _ h0 h1; simp only [sumL] at h1; omega
  | cons e l ih =>
    intro k r hk h0 h1
    have hlt : k < E.length := by
      rcases Nat.lt_or_ge k E.length with h' | h'
      · exact h'
      · rw [List.drop_eq_nil_of_le h'] at hk; cases hk
    rw [drop_cons hlt] at hk
    simp only [List.cons.injEq] at hk
    have hE : E[k]? = some e := by rw [List.getElem?_eq_getElem hlt, hk.1]
    by_cases hr : r < e.Long
    · exact ⟨k, e, r, hE, h0, hr, rfl⟩
    · simp only [sumL] at h1
      obtain ⟨i, f, s, a1, a2, a3, a4⟩ := ih (k + 1) (r - e.Long) hk.2 (by omega) (by omega)
      rw [take_sum hE] at a4
      exact ⟨i, f, s, a1, a2, a3, by omega⟩

theorem AtE_exists {E : List api_Entry} (h : ∀ e ∈ E, okE e = true) (hne : 1 ≤ E.length) (t : Int) : ∃ i e s, AtE E t i e s := by
  have hb := (sumL_bound h).1
  have hpos : 0 < sumL E := by omega
  obtain ⟨i, e, s, a1, a2, a3, a4⟩ := AtE_of_rem h E 0 (t % sumL E) (by simp) (Int.emod_nonneg _ (by omega)) (Int.emod_lt_of_pos _ hpos)
  exact ⟨i, e, s, a1, a2, a3, by simpa [sumL] using a4⟩

theorem AtE_period {E : List api_Entry} {t : Int} {i : Nat} {e : api_Entry} {s : Int} (h : AtE E t i e s) (k : Int) : AtE E (t + k * sumL E) i e s := by
  obtain ⟨a1, a2, a3, a4⟩ := h
  exact ⟨a1, a2, a3, by rw [Int.add_mul_emod_self_right]; exact a4⟩

theorem AtE_lt {E : List api_Entry} (h : ∀ e ∈ E, okE e = true) {t : Int} {i : Nat} {e : api_Entry} {s : Int} (ha : AtE E t i e s) : sumL (E.take i) + e.Long ≤ sumL E ∧ 0 ≤ sumL (E.take i) ∧ i < E.length := by
  obtain ⟨a1, a2, a3, a4⟩ := ha
  have hi := (List.getElem?_eq_some_iff.1 a1).1
  have h1 := take_mono h (show i + 1 ≤ E.length from hi)
  rw [take_sum a1, List.take_length] at h1
  have h2 := take_mono h (show 0 ≤ i by omega)
  simp only [List.take_zero, sumL] at h2
  exact ⟨h1, h2, hi⟩

theorem emod_shift {t k C : Int} (h0 : 0 ≤ t % C + k) (h1 : t % C + k < C) : (t + k) % C = t % C + k := by
  have : t + k = (t % C + k) + C * (t / C) := by have := Int.mul_ediv_add_emod t C; omega
  rw [this, Int.add_mul_emod_self_left]
  exact Int.emod_eq_of_lt h0 h1

theorem emod_wrap {t k C : Int} (h : t % C + k = C) : (t + k) % C = 0 := by
  have : t + k = C * (t / C + 1) := by have := Int.mul_ediv_add_emod t C; rw [Int.mul_add]; omega
  rw [this]
  exact Int.mul_emod_right _ _

theorem AtE_in {E : List api_Entry} (h : ∀ e ∈ E, okE e = true) {t : Int} {i : Nat} {e : api_Entry} {s k : Int} (ha : AtE E t i e s) (h0 : 0 ≤ s + k) (h1 : s + k < e.Long) : AtE E (t + k) i e (s + k) := by
  have hl := AtE_lt h ha
  obtain ⟨a1, a2, a3, a4⟩ := ha
  refine ⟨a1, h0, h1, ?_⟩
  rw [emod_shift (by omega) (by omega), a4]
  omega

/-- The beginning of the next entry. -/
theorem AtE_next {E : List api_Entry} (h : ∀ e ∈ E, okE e = true) {t : Int} {i : Nat} {e : api_Entry} {s : Int} (ha : AtE E t i e s) : ∃ f, AtE E (t + (e.Long - s)) ((i + 1) % E.length) f 0 := by
  have hl := AtE_lt h ha
  obtain ⟨a1, a2, a3, a4⟩ := ha
  have hlen : 0 < E.length := by omega
  have hmod := Nat.mod_lt (i + 1) hlen
  refine ⟨E[(i + 1) % E.length], List.getElem?_eq_getElem hmod, Int.le_refl _, ?_, ?_⟩
  · have := okE_iff.1 (h _ (List.getElem_mem hmod)); omega
  · by_cases hi : i + 1 < E.length
    · rw [Nat.mod_eq_of_lt hi, take_sum a1]
      have h1 := take_mono h (show i + 1 + 1 ≤ E.length from hi)
      rw [take_sum (List.getElem?_eq_getElem hi), take_sum a1, List.take_length] at h1
      have h2 := okE_iff.1 (h _ (List.getElem_mem hi))
      rw [emod_shift (by omega) (by omega), a4]
      omega
    · have : i + 1 = E.length := by omega
      rw [this, Nat.mod_self]
      have h1 := take_sum a1
      rw [this, List.take_length] at h1
      rw [emod_wrap (by omega)]
      simp [sumL]

/-- The mask at a time. -/
noncomputable def mAt (E : List api_Entry) (t : Int) : Int := by
  classical exact if h : ∃ i e s, AtE E t i e s then (Classical.choose (Classical.choose_spec h)).Mask else 0

theorem mAt_eq {E : List api_Entry} (h : ∀ e ∈ E, okE e = true) {t : Int} {i : Nat} {e : api_Entry} {s : Int} (ha : AtE E t i e s) : mAt E t = e.Mask := by
  unfold mAt
  have hex : ∃ i e s, AtE E t i e s := ⟨i, e, s, ha⟩
  rw [dif_pos hex]
  obtain ⟨s', hs'⟩ := Classical.choose_spec (Classical.choose_spec hex)
  have := (AtE_unique h ha hs').2.1
  rw [← this]

theorem mAt_period {E : List api_Entry} (h : ∀ e ∈ E, okE e = true) (hne : 1 ≤ E.length) (t k : Int) : mAt E (t + k * sumL E) = mAt E t := by
  obtain ⟨i, e, s, ha⟩ := AtE_exists h hne t
  rw [mAt_eq h ha, mAt_eq h (AtE_period ha k)]

theorem mAt_mem {E : List api_Entry} (h : ∀ e ∈ E, okE e = true) (hne : 1 ≤ E.length) (t : Int) : ∃ e ∈ E, mAt E t = e.Mask := by
  obtain ⟨i, e, s, ha⟩ := AtE_exists h hne t
  exact ⟨e, List.mem_of_getElem? ha.1, mAt_eq h ha⟩

theorem idx_some {α : Type} {l : List α} {k : Nat} {e : α} (h : l[k]? = some e) : idx l (k : Int) = some e := by rw [idx_nat, h]

/-- Going from entry to entry. -/
theorem find_loop (N : Nat) {g : api_Gates} (hg : VG g) {i : Nat} {e : api_Entry} {s : Int} (h1 : g.Entries[i]? = some e) (h2 : 0 ≤ s) (h3 : s < e.Long) : ∀ (n M k : Nat), i - k = n → k ≤ i → n < M →
    iterF (fun x : Int × Int => gates_find_L1 N g x.1 x.2) M (sumL (g.Entries.take i) + s - sumL (g.Entries.take k), (k : Int)) = some ((i : Int), e.Long - s) := by
  have hi := (List.getElem?_eq_some_iff.1 h1).1
  have hE := okE_iff.1 (hg.ok e (List.mem_of_getElem? h1))
  have hlen := hg.2.1
  have hC := (sumL_bound hg.ok).2
  intro n
  induction n with
  | zero =>
    intro M k hn hk hM
    have : k = i := by omega
    subst this
    cases M with
    | zero => omega
    | succ M =>
      rw [iterF_inr (r := ((k : Int), e.Long - s))]
      simp only [gates_find_L1]
      rw [idx_some h1, Option.bind_some, if_neg (by simp only [decide_eq_true_eq]; omega), Option.bind_some, w64_id (by omega) (by omega)]
      congr 3
      omega
  | succ n ih =>
    intro M k hn hk hM
    cases M with
    | zero => omega
    | succ M =>
      have hlt : k < g.Entries.length := by omega
      have hk1 : g.Entries[k]? = some g.Entries[k] := List.getElem?_eq_getElem hlt
      have hb := okE_iff.1 (hg.ok _ (List.getElem_mem hlt))
      have hm := take_mono hg.ok (show k + 1 ≤ i by omega)
      rw [take_sum hk1] at hm
      have hm2 := take_mono hg.ok (show i ≤ g.Entries.length by omega)
      rw [List.take_length] at hm2
      have hm3 := take_mono hg.ok (show 0 ≤ k by omega)
      simp only [List.take_zero, sumL] at hm3
      have hC1 := hg.2.2.2
      rw [iterF_inl (y := (sumL (g.Entries.take i) + s - sumL (g.Entries.take (k + 1)), ((k + 1 : Nat) : Int))), ih M (k + 1) (by omega) (by omega) (by omega)]
      simp only [gates_find_L1]
      rw [idx_some hk1, Option.bind_some, if_pos (by simp only [decide_eq_true_eq]; omega), Option.bind_some, w64_id (by omega) (by omega), w64_id (by omega) (by omega), take_sum hk1]
      congr 3
      omega

theorem gates_find_eq {N : Nat} (hN : 200 ≤ N) {g : api_Gates} (hg : VG g) {t : Int} {i : Nat} {e : api_Entry} {s : Int} (ha : AtE g.Entries t i e s) : gates_find N g t = some ((i : Int), e.Long - s) := by
  have hlt := AtE_lt hg.ok ha
  have hb := sumL_bound hg.ok
  have hC := hg.2.2.2
  have hlen := hg.1
  have hlen2 := hg.2.1
  have hpos : 0 < g.Cycle := by omega
  have h1 := Int.lt_tmod_of_pos t hpos
  have h2 := Int.tmod_lt_of_pos t hpos
  unfold gates_find
  rw [remI_pos (by omega), Option.bind_some, w64_id (by omega) (by omega), remI_pos (by omega), Option.bind_some, tmod_mod hpos, ← hC.1, ha.2.2.2]
  have := find_loop N hg ha.1 ha.2.1 ha.2.2.1 i N 0 (by omega) (by omega) (by omega)
  simp only [List.take_zero, sumL, Int.sub_zero] at this
  rw [show ((0 : Nat) : Int) = 0 from rfl] at this
  rw [this, Option.bind_some]

theorem at_loop (N : Nat) {g : api_Gates} (hg : VG g) {i : Nat} {e : api_Entry} {s : Int} (h1 : g.Entries[i]? = some e) (h2 : 0 ≤ s) (h3 : s < e.Long) : ∀ (n M k : Nat), i - k = n → k ≤ i → n < M →
    iterF (fun x : Int × Int => ref27_At_L1 N g x.1 x.2) M (sumL (g.Entries.take i) + s - sumL (g.Entries.take k), (k : Int)) = some (s, (i : Int)) := by
  have hi := (List.getElem?_eq_some_iff.1 h1).1
  have hE := okE_iff.1 (hg.ok e (List.mem_of_getElem? h1))
  have hlen := hg.2.1
  have hC := (sumL_bound hg.ok).2
  intro n
  induction n with
  | zero =>
    intro M k hn hk hM
    have : k = i := by omega
    subst this
    cases M with
    | zero => omega
    | succ M =>
      rw [iterF_inr (r := (s, (k : Int)))]
      simp only [ref27_At_L1]
      rw [idx_some h1, Option.bind_some, if_neg (by simp only [decide_eq_true_eq]; omega)]
      congr 3
      omega
  | succ n ih =>
    intro M k hn hk hM
    cases M with
    | zero => omega
    | succ M =>
      have hlt : k < g.Entries.length := by omega
      have hk1 : g.Entries[k]? = some g.Entries[k] := List.getElem?_eq_getElem hlt
      have hb := okE_iff.1 (hg.ok _ (List.getElem_mem hlt))
      have hm := take_mono hg.ok (show k + 1 ≤ i by omega)
      rw [take_sum hk1] at hm
      have hm2 := take_mono hg.ok (show i ≤ g.Entries.length by omega)
      rw [List.take_length] at hm2
      have hm3 := take_mono hg.ok (show 0 ≤ k by omega)
      simp only [List.take_zero, sumL] at hm3
      have hC1 := hg.2.2.2
      rw [iterF_inl (y := (sumL (g.Entries.take i) + s - sumL (g.Entries.take (k + 1)), ((k + 1 : Nat) : Int))), ih M (k + 1) (by omega) (by omega) (by omega)]
      simp only [ref27_At_L1]
      rw [idx_some hk1, Option.bind_some, if_pos (by simp only [decide_eq_true_eq]; omega), Option.bind_some, w64_id (by omega) (by omega), w64_id (by omega) (by omega), take_sum hk1]
      congr 3
      omega

theorem ref27_At_eq {N : Nat} (hN : 200 ≤ N) {g : api_Gates} (hg : VG g) {t : Int} {i : Nat} {e : api_Entry} {s : Int} (ha : AtE g.Entries t i e s) : ref27_At N g t = some ((i : Int), s) := by
  have hlt := AtE_lt hg.ok ha
  have hb := sumL_bound hg.ok
  have hC := hg.2.2.2
  have hlen := hg.1
  have hlen2 := hg.2.1
  have hpos : 0 < g.Cycle := by omega
  have h1 := Int.lt_tmod_of_pos t hpos
  have h2 := Int.tmod_lt_of_pos t hpos
  have hm := tmod_mod (a := t) hpos
  have hj : (if (decide (t.tmod g.Cycle < 0)) = true then some (w64 (t.tmod g.Cycle + g.Cycle)) else some (t.tmod g.Cycle)) = some (t % g.Cycle) := by
    by_cases h : t.tmod g.Cycle < 0
    · rw [if_pos (by simpa using h), w64_id (by omega) (by omega)]
      rw [Int.tmod_eq_of_lt (by omega) (by omega)] at hm
      rw [hm]
    · rw [if_neg (by simpa using h)]
      have e : (t.tmod g.Cycle + g.Cycle).tmod g.Cycle = (t.tmod g.Cycle + g.Cycle) % g.Cycle := Int.tmod_eq_emod_of_nonneg (by omega)
      rw [e, Int.add_emod_right, Int.emod_eq_of_lt (by omega) (by omega)] at hm
      rw [hm]
  unfold ref27_At
  rw [remI_pos (by omega), Option.bind_some, hj, Option.bind_some, ← hC.1, ha.2.2.2]
  have := at_loop N hg ha.1 ha.2.1 ha.2.2.1 i N 0 (by omega) (by omega) (by omega)
  simp only [List.take_zero, sumL, Int.sub_zero] at this
  rw [show ((0 : Nat) : Int) = 0 from rfl] at this
  rw [this, Option.bind_some]

end Go.Sh