/- Part of the proof; written by a program out of the texts in wip/. -/
import Derived.Test.YtoboapnbbcedbaaRouteTurnsTop3
import Derived.Test.YtoboapnbbcedbaaRouteTurnsRd
import Derived.KernelRfl
set_option linter.unusedVariables false
set_option linter.unusedSimpArgs false
namespace Go.Sh
open Go Go.Eng
section
variable {N : Nat} {t : api_Topo}
def sumW (g : Int → Int) (r : List Int) : Int := (List.range r.length).foldl (fun b k => w64 (b + g (at0 r k))) 0
theorem make0 {b : Nat} {c : Int} (h0 : 0 ≤ c) (h1 : c ≤ 1000) (hb : b ≤ 1000) : makeI b 0 c (0 : Int) = some [] := by
  unfold makeI
  have : c * (b : Int) ≤ 1000 * 1000 := Int.mul_le_mul h1 (by omega) (by omega) (by omega)
  rw [if_pos ⟨Int.le_refl _, h0, by omega, by omega⟩]
  rfl
theorem ports_of {r : List Int} (h : validR t r = true) : 1 ≤ r.length ∧ r.length ≤ 8 ∧ ∀ k, k < r.length → portB t (at0 r k) = true := by
  simp only [validR, Bool.and_eq_true, decide_eq_true_eq, allB_iff] at h
  exact ⟨h.1, h.2.1, fun k hk => by have := h.2.2 k hk; simp only [okAt, Bool.and_eq_true] at this; exact this.1⟩
theorem route_nodes_eq (g : Good t) {r : List Int} (hv : validR t r = true) (hN : 200 ≤ N) : route_walk_nodes N ⟨t⟩ r = some (nodesL t r) := by
  have hL : t.Links.length ≤ 1000 := by have := g.l24; omega
  obtain ⟨h1, h8, hp⟩ := ports_of hv
  have hlen := nodesL_len (t := t) r
  unfold route_walk_nodes
  rw [w64_id (by omega) (by omega), make0 (by omega) (by omega) (by omega), Option.bind_some]
  unfold route_walk_hops route_walk_hops_1
  simp only [Option.bind_some]
  have := iterF_fold (n := r.length) (f := fun b k => (nodesL t r).take (k + 2))
    (body := fun x : Int × (List Int) => route_walk_hops_1_L1 N (fun (s : (List Int)) (x13 : Int) (x14 : route_hop) => yieldT (fun v : (List Int) => route_walk_nodes_R1 N v x13 x14) s) r ⟨t⟩ x.1 x.2) (fin := fun b => b) (fun k b => b = if k = 0 then [] else (nodesL t r).take (k + 1))
    (fun k b hk hb => by
      show route_walk_hops_1_L1 N _ r ⟨t⟩ k b = _
      rw [hops_step hL _ _ hk (by omega), if_pos (hp k hk)]
      have : route_walk_nodes_R1 N b (k : Int) ⟨at0 r k, frm t (at0 r k), too t (at0 r k)⟩ = some ((nodesL t r).take (k + 2)) := by
        unfold route_walk_nodes_R1
        subst hb
        by_cases hk0 : k = 0
        · subst hk0
          rw [if_pos (by simp), if_pos rfl, app_eq (by simp) (by omega), Option.bind_some, Option.bind_some, app_eq (by simp) (by omega), Option.bind_some, ← nd_succ hk]
          unfold nd nodesL
          obtain ⟨a, l, rfl⟩ : ∃ a l, r = a :: l := by cases r with
            | nil => simp at hk
            | cons a l => exact ⟨a, l, rfl⟩
          simp
        · rw [if_neg (by simp; omega), if_neg hk0, Option.bind_some, app_eq (by simp; omega) (by omega), Option.bind_some, ← nd_succ hk, take_succ_nodes (k := k + 1) (by omega)]
      simp only [yieldT, this, Option.map_some, Option.bind_some]
      rfl)
    (fun k b hk hb => by rw [if_neg (by omega)])
    (fun b hb => hops_end _ _) (N := N) (by omega) (b0 := []) (by rw [if_pos rfl])
  rw [this.1, Option.bind_some, Option.bind_some, this.2, if_neg (by omega), List.take_of_length_le (by omega)]
theorem route_total_eq {r : List Int} (h12 : r.length ≤ 100) (hN : 200 ≤ N) {f : Int → Option Int} {g : Int → Int} (hf : ∀ k, k < r.length → f (at0 r k) = some (g (at0 r k))) : route_total N r f = some (sumW g r) := by
  unfold route_total
  rw [(iterF_foldS (n := r.length) (f := fun b k => w64 (b + g (at0 r k))) (body := fun x : Int × Int => route_total_L1 N r f x.1 x.2) (fin := fun b => b) (fun _ _ => True) (fun k b hk _ => by
    show route_total_L1 N r f b k = _
    unfold route_total_L1
    rw [if_pos (by simp; omega), idx_k hk, Option.bind_some, ← at0_k hk, hf k hk, Option.bind_some, w64_succ (by omega)]) (fun _ _ _ _ => trivial) (fun b _ => by show route_total_L1 N r f b r.length = _; unfold route_total_L1; rw [if_neg (by simp)]) (N := N) (by omega) (b0 := 0) trivial).1]
  rfl
theorem xor_back : ∀ p : Fin 60, xorI .i64 ((p.val : Nat) : Int) 1 = backP ((p.val : Nat) : Int) := by decide
theorem route_back_eq (g : Good t) {p : Int} (hp : portB t p = true) (hN : 200 ≤ N) : route_walk_back N ⟨t⟩ p = some (backP p) := by
  have hL : t.Links.length ≤ 1000 := by have := g.l24; omega
  unfold route_walk_back topo_Back topo_ask_int
  have h24 := g.l24
  have hp' := hp
  simp only [portB, Bool.and_eq_true, decide_eq_true_eq] at hp'
  rw [topo_Check_eq (by omega), topoB_good.2 g]
  simp only [if_true, Option.bind_some, bne_self_eq_false, Bool.false_eq_true, if_false]
  rw [w64_id (show -9223372036854775808 ≤ 2 * (t.Links.length : Int) by omega) (by omega), if_neg (by simp; omega), plk_eq hL hp]
  simp only [Option.bind_some, topo_end_back]
  have := xor_back ⟨p.toNat, by omega⟩
  simp only [Int.toNat_of_nonneg hp'.1] at this
  rw [this]
def backL (r : List Int) : List Int := down (fun b k => b ++ [backP (at0 r k)]) r.length []
theorem route_Back_1_eq (g : Good t) {r : List Int} (h12 : r.length ≤ 100) (hp : ∀ k, k < r.length → portB t (at0 r k) = true) (hN : 200 ≤ N) : route_Back_1 N ⟨t⟩ r = some (backL r, 0) := by
  unfold route_Back_1
  rw [make0 (by omega) (by omega) (by omega), Option.bind_some]
  unfold slices_Backward_api_Route_int slices_Backward_api_Route_int_1
  simp only [Option.bind_some]
  have := iterF_down (f := fun b k => b ++ [backP (at0 r k)]) (body := fun x : Int × (List Int) => slices_Backward_api_Route_int_1_L1 N (fun (s : (List Int)) (x16 : Int) (x17 : Int) => yieldT (fun v : (List Int) => route_Back_1_R1 N ⟨t⟩ v x16 x17) s) r x.1 x.2) (fin := fun b => .inl b) (fun k b => k ≤ r.length ∧ b.length + k ≤ 100)
    (fun k b ⟨hk, hb⟩ => by
      refine ⟨?_, by omega, by simp; omega⟩
      show slices_Backward_api_Route_int_1_L1 N _ r k b = _
      unfold slices_Backward_api_Route_int_1_L1
      rw [if_pos (by simp), idx_k (by omega), Option.bind_some, ← at0_k (by omega)]
      have : route_Back_1_R1 N ⟨t⟩ b (k : Int) (at0 r k) = some (b ++ [backP (at0 r k)]) := by
        unfold route_Back_1_R1
        rw [route_back_eq g (hp k (by omega)) hN, Option.bind_some, app_eq (by simp; omega) (by omega), Option.bind_some]
      simp only [yieldT, this, Option.map_some, Option.bind_some]
      rw [w64_id (by omega) (by omega)]
      rfl)
    (fun b => by show slices_Backward_api_Route_int_1_L1 N _ r (-1) b = _; unfold slices_Backward_api_Route_int_1_L1; rw [if_neg (by simp)]) r.length N [] (by omega) ⟨Nat.le_refl _, by simp; omega⟩
  rw [w64_id (by omega) (by omega), this]
  rfl
theorem equal_self {l : List Int} (h : l.length < N) (h' : l.length < 1000) : slices_Equal__int_int N l l = some true := by
  unfold slices_Equal__int_int
  rw [if_neg (by simp)]
  have := iterF_allN (n := l.length) (p := fun _ => true) (body := fun x : Int => slices_Equal__int_int_L1 N l l x) (bad := .inr false) (fin := .inl ()) (fun k hk => by
    unfold slices_Equal__int_int_L1
    rw [if_pos (by simp; omega), idx_k hk]
    simp only [Option.bind_some, bne_self_eq_false, Bool.false_eq_true, if_false, if_true, w64_succ (show k < 1000000 by omega)]) (by unfold slices_Equal__int_int_L1; rw [if_neg (by simp)]) (N := N) h
  rw [this, allB_iff.2 (fun _ _ => rfl)]
  rfl
theorem equalR_self {l : List Int} (h : l.length < N) (h' : l.length < 1000) : slices_Equal_api_Route_int N l l = some true := by
  unfold slices_Equal_api_Route_int
  rw [if_neg (by simp)]
  have := iterF_allN (n := l.length) (p := fun _ => true) (body := fun x : Int => slices_Equal_api_Route_int_L1 N l l x) (bad := .inr false) (fin := .inl ()) (fun k hk => by
    unfold slices_Equal_api_Route_int_L1
    rw [if_pos (by simp; omega), idx_k hk]
    simp only [Option.bind_some, bne_self_eq_false, Bool.false_eq_true, if_false, if_true, w64_succ (show k < 1000000 by omega)]) (by unfold slices_Equal_api_Route_int_L1; rw [if_neg (by simp)]) (N := N) h
  rw [this, allB_iff.2 (fun _ _ => rfl)]
  rfl
def errR (t : api_Topo) (r : List Int) : Int := if topoB t then (if validR t r then 0 else 310) else 260
theorem route_Check_eq {r : List Int} (h12 : r.length ≤ 100) (hN : 200 ≤ N) : route_Check N t r = some (errR t r) := by
  unfold route_Check errR
  rw [topo_Check_eq (by omega), Option.bind_some]
  cases hT : topoB t with
  | false => rfl
  | true =>
    simp only [if_true, bne_self_eq_false, Bool.false_eq_true, if_false]
    rw [route_valid_eq (topoB_good.1 hT) h12 hN, Option.bind_some]
    cases validR t r <;> rfl
theorem errR_ok {r : List Int} : errR t r = 0 ↔ topoB t = true ∧ validR t r = true := by
  unfold errR
  cases topoB t <;> cases validR t r <;> simp
section
variable {r : List Int}
theorem route_Nodes_val (h12 : r.length ≤ 100) (hN : 200 ≤ N) (he : errR t r = 0) : route_Nodes N t r = some (nodesL t r, 0) := by
  obtain ⟨hT, hv⟩ := errR_ok.1 he
  unfold route_Nodes route_ask__int route_Nodes_1
  rw [route_Check_eq h12 hN, he]
  simp only [Option.bind_some, bne_self_eq_false, Bool.false_eq_true, if_false]
  rw [route_nodes_eq (topoB_good.1 hT) hv hN]
  rfl
theorem route_Time_val (h12 : r.length ≤ 100) (hN : 200 ≤ N) {size : Int} (h1 : 84 ≤ size) (h2 : size ≤ 1542) (he : errR t r = 0) : route_Time N t r size = some (sumW (fun p => w64 (w64 (size * (plk t p).Per) + (plk t p).Delay)) r, 0) := by
  obtain ⟨hT, hv⟩ := errR_ok.1 he
  obtain ⟨_, _, hp⟩ := ports_of hv
  have hL : t.Links.length ≤ 1000 := by have := (topoB_good.1 hT).l24; omega
  unfold route_Time route_ask_int route_Time_1
  rw [route_Check_eq h12 hN, he]
  simp only [Option.bind_some, bne_self_eq_false, Bool.false_eq_true, if_false]
  rw [if_neg (by simp; omega), Option.bind_some, decide_eq_false (by omega)]
  simp only [Bool.false_eq_true, if_false]
  rw [route_total_eq h12 hN (g := fun p => w64 (w64 (size * (plk t p).Per) + (plk t p).Delay)) (fun k hk => by unfold route_Time_1_1 route_walk_delay; simp only; rw [plk_eq hL (hp k hk)]; rfl)]
  rfl
theorem route_Back_val (h12 : r.length ≤ 100) (hN : 200 ≤ N) (he : errR t r = 0) : route_Back N t r = some (backL r, 0) := by
  obtain ⟨hT, hv⟩ := errR_ok.1 he
  obtain ⟨_, _, hp⟩ := ports_of hv
  unfold route_Back route_ask_api_Route
  rw [route_Check_eq h12 hN, he, Option.bind_some]
  simp only [bne_self_eq_false, Bool.false_eq_true, if_false]
  rw [route_Back_1_eq (topoB_good.1 hT) h12 hp hN]
  rfl
end
set_option maxRecDepth 1000000 in
theorem wakes_true : law21_wakes 256 = some true := by kernel_rfl
end
end Go.Sh

