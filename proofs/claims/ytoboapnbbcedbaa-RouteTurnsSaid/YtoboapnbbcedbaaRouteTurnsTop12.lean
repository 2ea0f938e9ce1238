/- Part of the proof; written by a program out of the texts in wip/. -/
import Derived.Test.YtoboapnbbcedbaaRouteTurnsTop11
set_option linter.unusedVariables false
set_option linter.unusedSimpArgs false
namespace Go.Sh
open Go Go.Eng
section
variable {N : Nat} {t : api_Topo}
theorem down_eq (f : Nat → Int) : ∀ (n : Nat) (b : List Int), down (fun b k => b ++ [f k]) n b = b ++ (List.range n).reverse.map f
  | 0, b => by simp [down]
  | n + 1, b => by rw [down, down_eq f n, List.range_succ]; simp
theorem backL_eq (r : List Int) : backL r = (List.range r.length).reverse.map (fun k => backP (at0 r k)) := by
  unfold backL
  rw [down_eq]
  simp
theorem backL_len (r : List Int) : (backL r).length = r.length := by rw [backL_eq]; simp
theorem backL_at {r : List Int} {k : Nat} (hk : k < r.length) : at0 (backL r) k = backP (at0 r (r.length - 1 - k)) := by
  have hl := backL_len r
  rw [at0_k (by omega)]
  simp only [backL_eq, List.getElem_map, List.getElem_reverse, List.length_range, List.getElem_range]
theorem back_port {p : Int} (hp : portB t p = true) : portB t (backP p) = true ∧ frm t (backP p) = too t p ∧ too t (backP p) = frm t p ∧ Int.tdiv (backP p) 2 = Int.tdiv p 2 := by
  simp only [portB, Bool.and_eq_true, decide_eq_true_eq] at hp
  have e : Int.tmod p 2 = p % 2 := Int.tmod_eq_emod_of_nonneg hp.1
  have d : Int.tdiv p 2 = p / 2 := Int.tdiv_eq_ediv_of_nonneg hp.1
  by_cases h : p % 2 = 1
  · have hb : backP p = p - 1 := by unfold backP; rw [e, h]; rfl
    have e' : Int.tmod (p - 1) 2 = 0 := by rw [Int.tmod_eq_emod_of_nonneg (by omega)]; omega
    have d' : Int.tdiv (p - 1) 2 = Int.tdiv p 2 := by rw [Int.tdiv_eq_ediv_of_nonneg (by omega), d]; omega
    have hpl : plk t (p - 1) = plk t p := by unfold plk; rw [d']
    rw [hb]
    refine ⟨by simp only [portB, Bool.and_eq_true, decide_eq_true_eq]; omega, ?_, ?_, d'⟩
    · unfold frm too; rw [e', e, h, hpl]; rfl
    · unfold frm too; rw [e', e, h, hpl]; rfl
  · have h0 : p % 2 = 0 := by omega
    have hb : backP p = p + 1 := by unfold backP; rw [e, h0]; rfl
    have e' : Int.tmod (p + 1) 2 = 1 := by rw [Int.tmod_eq_emod_of_nonneg (by omega)]; omega
    have d' : Int.tdiv (p + 1) 2 = Int.tdiv p 2 := by rw [Int.tdiv_eq_ediv_of_nonneg (by omega), d]; omega
    have hpl : plk t (p + 1) = plk t p := by unfold plk; rw [d']
    rw [hb]
    refine ⟨by simp only [portB, Bool.and_eq_true, decide_eq_true_eq]; omega, ?_, ?_, d'⟩
    · unfold frm too; rw [e', e, h0, hpl]; rfl
    · unfold frm too; rw [e', e, h0, hpl]; rfl
theorem Rt.back {r : List Int} (h : Rt t r) : Rt t (backL r) ∧ ∀ k, k ≤ r.length → nd t (backL r) k = nd t r (r.length - k) := by
  have hl := backL_len r
  have h1 := h.l1
  have hp : ∀ k, k < r.length → portB t (at0 (backL r) k) = true ∧ Go.Sh.frm t (at0 (backL r) k) = nd t r (r.length - k) ∧ Go.Sh.too t (at0 (backL r) k) = nd t r (r.length - 1 - k) := fun k hk => by
    rw [backL_at hk]
    obtain ⟨a, b, c, _⟩ := back_port (h.port (r.length - 1 - k) (by omega))
    refine ⟨a, ?_, ?_⟩
    · rw [b, h.too (by omega)]; congr 1; omega
    · rw [c, h.frm _ (by omega)]
  have hnd : ∀ k, k ≤ r.length → nd t (backL r) k = nd t r (r.length - k) := fun k hk => by
    cases k with
    | zero => rw [nd_zero, (hp 0 (by omega)).2.1]
    | succ k => rw [nd_succ (by omega), (hp k (by omega)).2.2]; congr 1; omega
  refine ⟨⟨by omega, by have := h.l8; omega, fun k hk => (hp k (by omega)).1, fun k hk => ?_, fun k h0 hk => ?_, fun i j hij hj => ?_⟩, hnd⟩
  · rw [hnd k (by omega)]; exact (hp k (by omega)).2.1
  · rw [hnd k (by omega)]; exact h.st _ (by omega) (by omega)
  · rw [hnd i (by omega), hnd j (by omega)]
    exact Ne.symm (h.inj _ _ (by omega) (by omega))
end
end Go.Sh

