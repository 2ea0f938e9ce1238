/- Part of the proof; written by a program out of the texts in wip/. -/
import Derived.Test.YtoboapnbbcedbaaRouteTurnsTop10
set_option linter.unusedVariables false
set_option linter.unusedSimpArgs false
namespace Go.Sh
open Go Go.Eng
section
variable {N : Nat} {t : api_Topo}
structure Rt (t : api_Topo) (r : List Int) : Prop where
  l1 : 1 ≤ r.length
  l8 : r.length ≤ 8
  port : ∀ k, k < r.length → portB t (at0 r k) = true
  frm : ∀ k, k < r.length → frm t (at0 r k) = nd t r k
  st : ∀ k, 0 < k → k < r.length → stB t (nd t r k) = false
  inj : ∀ i j, i < j → j ≤ r.length → nd t r i ≠ nd t r j
theorem mem_take_nodes {r : List Int} {k : Nat} (hk : k ≤ r.length + 1) {x : Int} : ((nodesL t r).take k).contains x = true ↔ ∃ i, i < k ∧ nd t r i = x := by
  have hlen := nodesL_len (t := t) r
  rw [List.contains_iff_mem, List.mem_iff_getElem]
  constructor
  · rintro ⟨i, hi, e⟩
    simp only [List.length_take] at hi
    rw [List.getElem_take, nd_get] at e
    exact ⟨i, by omega, e⟩
  · rintro ⟨i, hi, e⟩
    exact ⟨i, by simp; omega, by rw [List.getElem_take, nd_get]; exact e⟩
theorem rt_iff {r : List Int} : validR t r = true ↔ Rt t r := by
  simp only [validR, Bool.and_eq_true, decide_eq_true_eq, allB_iff]
  constructor
  · rintro ⟨h1, h8, hok⟩
    have hok' : ∀ k, k < r.length → portB t (at0 r k) = true ∧ (k = 0 ∨ (Go.Sh.frm t (at0 r k) = nd t r k ∧ stB t (nd t r k) = false)) ∧ ((nodesL t r).take (k + 1)).contains (nd t r (k + 1)) = false := fun k hk => by
      have := hok k hk
      simpa [okAt] using this
    refine ⟨h1, h8, fun k hk => (hok' k hk).1, fun k hk => ?_, fun k h0 hk => ?_, fun i j hij hj => ?_⟩
    · rcases (hok' k hk).2.1 with h | h
      · subst h; rfl
      · exact h.1
    · rcases (hok' k hk).2.1 with h | h
      · omega
      · exact h.2
    · obtain ⟨j, rfl⟩ : ∃ m, j = m + 1 := ⟨j - 1, by omega⟩
      have := (hok' j (by omega)).2.2
      intro e
      rw [← Bool.not_eq_true, mem_take_nodes (by omega)] at this
      exact this ⟨i, by omega, e⟩
  · intro h
    refine ⟨h.l1, h.l8, fun k hk => ?_⟩
    simp only [okAt, Bool.and_eq_true, Bool.or_eq_true, beq_iff_eq, Bool.not_eq_true']
    refine ⟨h.port k hk, ?_, ?_⟩
    · by_cases h0 : k = 0
      · exact .inl h0
      · exact .inr ⟨h.frm k hk, h.st k (by omega) hk⟩
    · rw [← Bool.not_eq_true, mem_take_nodes (by omega)]
      rintro ⟨i, hi, e⟩
      exact h.inj i (k + 1) (by omega) (by omega) e
theorem Rt.too {r : List Int} (h : Rt t r) {k : Nat} (hk : k < r.length) : too t (at0 r k) = nd t r (k + 1) := (nd_succ hk).symm
theorem at0_drop {r : List Int} {i k : Nat} : at0 (r.drop i) k = at0 r (i + k) := by
  unfold at0; simp [List.getD_eq_getElem?_getD]
theorem at0_take {r : List Int} {j k : Nat} (h : k < j) : at0 (r.take j) k = at0 r k := by
  unfold at0; simp [List.getD_eq_getElem?_getD, List.getElem?_take, h]
theorem Rt.front {r : List Int} (h : Rt t r) {j : Nat} (hj0 : 0 < j) (hj : j ≤ r.length) : Rt t (r.take j) ∧ ∀ k, k ≤ j → nd t (r.take j) k = nd t r k := by
  have hlen : (r.take j).length = j := by simp; omega
  have hnd : ∀ k, k ≤ j → nd t (r.take j) k = nd t r k := fun k hk => by
    cases k with
    | zero => rw [nd_zero, nd_zero, at0_take hj0]
    | succ k => rw [nd_succ (by omega), nd_succ (by omega), at0_take (by omega)]
  refine ⟨⟨by omega, by have := h.l8; omega, fun k hk => ?_, fun k hk => ?_, fun k h0 hk => ?_, fun i k hik hk => ?_⟩, hnd⟩
  · rw [at0_take (by omega)]; exact h.port k (by omega)
  · rw [at0_take (by omega), hnd k (by omega)]; exact h.frm k (by omega)
  · rw [hnd k (by omega)]; exact h.st k h0 (by omega)
  · rw [hnd i (by omega), hnd k (by omega)]; exact h.inj i k hik (by omega)
theorem Rt.rest {r : List Int} (h : Rt t r) {i : Nat} (hi : i < r.length) : Rt t (r.drop i) ∧ ∀ k, k ≤ r.length - i → nd t (r.drop i) k = nd t r (i + k) := by
  have hlen : (r.drop i).length = r.length - i := by simp
  have hnd : ∀ k, k ≤ r.length - i → nd t (r.drop i) k = nd t r (i + k) := fun k hk => by
    cases k with
    | zero => rw [nd_zero, at0_drop, Nat.add_zero]; exact h.frm i hi
    | succ k => rw [nd_succ (by omega), at0_drop, show i + (k + 1) = (i + k) + 1 by omega, nd_succ (by omega)]
  refine ⟨⟨by omega, by have := h.l8; omega, fun k hk => ?_, fun k hk => ?_, fun k h0 hk => ?_, fun a k hak hk => ?_⟩, hnd⟩
  · rw [at0_drop]; exact h.port _ (by omega)
  · rw [at0_drop, hnd k (by omega)]; exact h.frm _ (by omega)
  · rw [hnd k (by omega)]; exact h.st _ (by omega) (by omega)
  · rw [hnd a (by omega), hnd k (by omega)]; exact h.inj _ _ (by omega) (by omega)
theorem same_link {p q : Int} (h : Int.tdiv p 2 = Int.tdiv q 2) : (frm t p = frm t q ∧ too t p = too t q) ∨ (frm t p = too t q ∧ too t p = frm t q) := by
  have e : plk t p = plk t q := by unfold plk; rw [h]
  unfold frm too
  rw [e]
  by_cases h1 : (Int.tmod p 2 == 1) = true <;> by_cases h2 : (Int.tmod q 2 == 1) = true <;> simp [h1, h2]
theorem w64_link {p : Int} (hL : t.Links.length ≤ 1000) (hp : portB t p = true) : w64 (Int.tdiv p 2) = Int.tdiv p 2 := by
  have := plk_lt hp
  exact w64_id (by omega) (by omega)
theorem apartL_iff (hL : t.Links.length ≤ 1000) {a b : List Int} (ha : ∀ k, k < a.length → portB t (at0 a k) = true) (hb : ∀ k, k < b.length → portB t (at0 b k) = true) : apartL a b = true ↔ ∀ i, i < a.length → ∀ k, k < b.length → Int.tdiv (at0 a i) 2 ≠ Int.tdiv (at0 b k) 2 := by
  unfold apartL
  rw [allB_iff]
  constructor
  · intro h i hi k hk e
    have := allB_iff.1 (h i hi) k hk
    rw [w64_link hL (ha i hi), w64_link hL (hb k hk), e] at this
    simp at this
  · intro h i hi
    rw [allB_iff]
    intro k hk
    rw [w64_link hL (ha i hi), w64_link hL (hb k hk)]
    simpa using h i hi k hk
theorem mem_nodes {r : List Int} {x : Int} : (nodesL t r).contains x = true ↔ ∃ i, i ≤ r.length ∧ nd t r i = x := by
  have hlen := nodesL_len (t := t) r
  have := mem_take_nodes (t := t) (r := r) (k := r.length + 1) (Nat.le_refl _) (x := x)
  rw [List.take_of_length_le (by omega)] at this
  rw [this]
  exact ⟨fun ⟨i, h1, h2⟩ => ⟨i, by omega, h2⟩, fun ⟨i, h1, h2⟩ => ⟨i, by omega, h2⟩⟩
theorem clearL_iff {a b : List Int} : clearL (nodesL t a) (nodesL t b) = true ↔ ∀ i, 0 < i → i < a.length → ∀ k, k ≤ b.length → nd t b k ≠ nd t a i := by
  have hlen := nodesL_len (t := t) a
  unfold clearL
  rw [List.all_eq_true]
  constructor
  · intro h i h0 hi k hk e
    have := h i (by simp only [List.mem_range'_1]; omega)
    have hc : (nodesL t b).contains (at0 (nodesL t a) i) = true := mem_nodes.2 ⟨k, hk, e⟩
    rw [hc] at this; cases this
  · intro h i hi
    simp only [List.mem_range'_1] at hi
    rw [Bool.not_eq_true', ← Bool.not_eq_true, mem_nodes]
    rintro ⟨k, hk, e⟩
    exact h i (by omega) (by omega) k hk e
theorem Rt.apart (hL : t.Links.length ≤ 1000) {r : List Int} (h : Rt t r) {m : Nat} (h0 : 0 < m) (hm : m < r.length) : apartB t (r.take m) (r.drop m) = true := by
  obtain ⟨hf, nf⟩ := h.front h0 (by omega)
  obtain ⟨hr, nr⟩ := h.rest hm
  have lf : (r.take m).length = m := by simp; omega
  have lr : (r.drop m).length = r.length - m := by simp
  unfold apartB
  simp only [Bool.and_eq_true]
  refine ⟨(apartL_iff hL hf.port hr.port).2 fun i hi k hk e => ?_, clearL_iff.2 fun i hi1 hi2 k hk => ?_, clearL_iff.2 fun i hi1 hi2 k hk => ?_⟩
  · have f1 := hf.frm i hi
    have f2 := hf.too hi
    have g1 := hr.frm k hk
    have g2 := hr.too hk
    rw [nf i (by omega)] at f1
    rw [nf (i + 1) (by omega)] at f2
    rw [nr k (by omega)] at g1
    rw [nr (k + 1) (by omega)] at g2
    rcases same_link (t := t) e with ⟨e1, _⟩ | ⟨e1, _⟩
    · rw [f1, g1] at e1; exact h.inj i (m + k) (by omega) (by omega) e1
    · rw [f1, g2] at e1; exact h.inj i (m + (k + 1)) (by omega) (by omega) e1
  · rw [nr k (by omega), nf i (by omega)]
    exact Ne.symm (h.inj i (m + k) (by omega) (by omega))
  · rw [nf k (by omega), nr i (by omega)]
    exact h.inj k (m + i) (by omega) (by omega)
def sumL (g : Int → Int) (s : Int) (r : List Int) : Int := r.foldl (fun b p => w64 (b + g p)) s
theorem sumW_list (g : Int → Int) (r : List Int) : sumW g r = sumL g 0 r := foldl_range 0 r (fun b p => w64 (b + g p)) 0
theorem sumL_mod (g : Int → Int) : ∀ (r : List Int) (s : Int), sumL g s r % 18446744073709551616 = (s + (r.map g).sum) % 18446744073709551616
  | [], s => by simp [sumL]
  | p :: r, s => by
    have := sumL_mod g r (w64 (s + g p))
    have h2 := w64_mod (s + g p)
    simp only [sumL, List.foldl_cons, List.map_cons, List.sum_cons] at this ⊢
    rw [this]
    omega
theorem sumL_w (g : Int → Int) : ∀ (r : List Int) (s : Int), r ≠ [] → ∃ y, sumL g s r = w64 y
  | [], s, h => absurd rfl h
  | [p], s, _ => ⟨s + g p, rfl⟩
  | p :: q :: r, s, _ => sumL_w g (q :: r) (w64 (s + g p)) (by simp)
theorem sumL_eq (g : Int → Int) {r : List Int} (s : Int) (h : r ≠ []) : sumL g s r = w64 (s + (r.map g).sum) := by
  obtain ⟨y, e⟩ := sumL_w g r s h
  have := sumL_mod g r s
  rw [e, w64_mod] at this
  rw [e]
  exact w64_congr this
end
end Go.Sh

