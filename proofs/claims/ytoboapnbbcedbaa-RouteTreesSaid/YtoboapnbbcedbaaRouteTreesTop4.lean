/- Part of the proof; written by a program out of the texts in wip/. -/
import Derived.Test.YtoboapnbbcedbaaRouteTreesTop3
import Derived.Test.YtoboapnbbcedbaaRouteTreesRd
import Derived.KernelRfl
set_option linter.unusedVariables false
set_option linter.unusedSimpArgs false
namespace Go.Sh
open Go Go.Eng
section
variable {N : Nat} {t : api_Topo}
theorem ports_of {r : List Int} (h : validR t r = true) : 1 ≤ r.length ∧ r.length ≤ 8 ∧ ∀ k, k < r.length → portB t (at0 r k) = true := by
  simp only [validR, Bool.and_eq_true, decide_eq_true_eq, allB_iff] at h
  exact ⟨h.1, h.2.1, fun k hk => by have := h.2.2 k hk; simp only [okAt, Bool.and_eq_true] at this; exact this.1⟩
theorem equal_self {l : List Int} (h : l.length < N) (h' : l.length < 1000) : slices_Equal__int_int N l l = some true := by
  unfold slices_Equal__int_int
  rw [if_neg (by simp)]
  have := iterF_allN (n := l.length) (p := fun _ => true) (body := fun x : Int => slices_Equal__int_int_L1 N l l x) (bad := .inr false) (fin := .inl ()) (fun k hk => by
    unfold slices_Equal__int_int_L1
    rw [if_pos (by simp; omega), idx_k hk]
    simp only [Option.bind_some, bne_self_eq_false, Bool.false_eq_true, if_false, if_true, w64_succ (show k < 1000000 by omega)]) (by unfold slices_Equal__int_int_L1; rw [if_neg (by simp)]) (N := N) h
  rw [this, allB_iff.2 (fun _ _ => rfl)]
  rfl
section
variable {r : List Int}
end
theorem law21_want_eq {l : List (List Int)} (hl : l.length ≤ 100) (h12 : ∀ r ∈ l, r.length ≤ 100) (hN : 200 ≤ N) : law21_want N t l = some (if topoB t then (if l.all (validR t) then 0 else 310) else 260) := by
  unfold law21_want
  rw [ref16_Right_eq (by omega), Option.bind_some]
  cases hT : topoB t with
  | false => rfl
  | true =>
    simp only [Bool.not_true, Bool.false_eq_true, if_false, if_true]
    have := iterF_allN (n := l.length) (p := fun k => validR t (l.getD k [])) (body := fun x : Int => law21_want_L1 N t l x) (bad := .inr 310) (fin := .inl ()) (fun k hk => by
      unfold law21_want_L1
      rw [if_pos (by simp; omega), idx_k hk, Option.bind_some, getD_k hk, ref21_Right_eq (topoB_good.1 hT) (h12 _ (List.getElem_mem hk)) hN, Option.bind_some, w64_succ (by omega)]
      cases validR t l[k] <;> rfl) (by unfold law21_want_L1; rw [if_neg (by simp)]) (N := N) (by omega)
    rw [this]
    have e : allB l.length (fun k => validR t (l.getD k [])) = l.all (validR t) := by
      rw [Bool.eq_iff_iff, allB_iff, List.all_eq_true]
      constructor
      · intro h x hx
        obtain ⟨k, hk, rfl⟩ := List.getElem_of_mem hx
        have := h k hk
        rwa [getD_k hk] at this
      · intro h k hk
        rw [getD_k hk]
        exact h _ (List.getElem_mem hk)
    rw [e]
    cases l.all (validR t) <;> rfl
def fewT (t : api_Topo) : api_Topo := ⟨t.Nodes, t.Station.take 20, t.Links.take 30⟩
theorem sub_take {α : Type} (l : List α) (m : Nat) : subI l 0 (if (m : Int) < (l.length : Int) then (m : Int) else (l.length : Int)) = some (l.take m) := by
  unfold subI
  by_cases h : (m : Int) < l.length
  · rw [if_pos h, if_pos ⟨by omega, by omega, by omega⟩]; simp
  · rw [if_neg h, if_pos ⟨by omega, by omega, by omega⟩, List.take_of_length_le (by omega), List.take_of_length_le (by omega)]; rfl
theorem law21_few_eq : law21_few N t = some (fewT t) := by
  unfold law21_few fewT
  rw [show (20 : Int) = ((20 : Nat) : Int) from rfl, show (30 : Int) = ((30 : Nat) : Int) from rfl, sub_take, Option.bind_some, sub_take]
  rfl
theorem law21_cut_eq (r : List Int) : law21_cut N r = some (r.take 12) := by
  unfold law21_cut
  rw [show (12 : Int) = ((12 : Nat) : Int) from rfl, sub_take, Option.bind_some, app_eq (by simp; omega) (by omega)]
  rfl
set_option maxRecDepth 1000000 in
theorem wakes_true : law21_wakes 256 = some true := by kernel_rfl
end
end Go.Sh

