/- Part of the proof; written by a program out of the texts in wip/. -/
import Derived.Test.YtoboapnbbcedbaaRouteChecksTop3
import Derived.Test.YtoboapnbbcedbaaRouteChecksRd
import Derived.KernelRfl
set_option linter.unusedVariables false
set_option linter.unusedSimpArgs false
namespace Go.Sh
open Go Go.Eng
section
variable {N : Nat} {t : api_Topo}
def sumW (g : Int → Int) (r : List Int) : Int := (List.range r.length).foldl (fun b k => w64 (b + g (at0 r k))) 0
theorem make0 {b : Nat} {c : Int} (h0 : 0 ≤ c) (h1 : c ≤ 1000) (hb : b ≤ 1000) : makeI b 0 c (0 : Int) = some [] := by
  unfold makeI
  have : c * (b : Int) ≤ 1000 * 1000 := Int.mul_le_mul h1 (by omega) (by omega) (by omega)
  rw [if_pos ⟨Int.le_refl _, h0, by omega, by omega⟩]
  rfl
theorem ports_of {r : List Int} (h : validR t r = true) : 1 ≤ r.length ∧ r.length ≤ 8 ∧ ∀ k, k < r.length → portB t (at0 r k) = true := by
  simp only [validR, Bool.and_eq_true, decide_eq_true_eq, allB_iff] at h
  exact ⟨h.1, h.2.1, fun k hk => by have := h.2.2 k hk; simp only [okAt, Bool.and_eq_true] at this; exact this.1⟩
theorem route_nodes_eq (g : Good t) {r : List Int} (hv : validR t r = true) (hN : 200 ≤ N) : route_walk_nodes N ⟨t⟩ r = some (nodesL t r) := by
  have hL : t.Links.length ≤ 1000 := by have := g.l24; omega
  obtain ⟨h1, h8, hp⟩ := ports_of hv
  have hlen := nodesL_len (t := t) r
  unfold route_walk_nodes
  rw [w64_id (by omega) (by omega), make0 (by omega) (by omega) (by omega), Option.bind_some]
  unfold route_walk_hops route_walk_hops_1
  simp only [Option.bind_some]
  have := iterF_fold (n := r.length) (f := fun b k => (nodesL t r).take (k + 2))
    (body := fun x : Int × (List Int) => route_walk_hops_1_L1 N (fun (s : (List Int)) (x13 : Int) (x14 : route_hop) => yieldT (fun v : (List Int) => route_walk_nodes_R1 N v x13 x14) s) r ⟨t⟩ x.1 x.2) (fin := fun b => b) (fun k b => b = if k = 0 then [] else (nodesL t r).take (k + 1))
    (fun k b hk hb => by
      show route_walk_hops_1_L1 N _ r ⟨t⟩ k b = _
      rw [hops_step hL _ _ hk (by omega), if_pos (hp k hk)]
      have : route_walk_nodes_R1 N b (k : Int) ⟨at0 r k, frm t (at0 r k), too t (at0 r k)⟩ = some ((nodesL t r).take (k + 2)) := by
        unfold route_walk_nodes_R1
        subst hb
        by_cases hk0 : k = 0
        · subst hk0
          rw [if_pos (by simp), if_pos rfl, app_eq (by simp) (by omega), Option.bind_some, Option.bind_some, app_eq (by simp) (by omega), Option.bind_some, ← nd_succ hk]
          unfold nd nodesL
          obtain ⟨a, l, rfl⟩ : ∃ a l, r = a :: l := by cases r with
            | nil => simp at hk
            | cons a l => exact ⟨a, l, rfl⟩
          simp
        · rw [if_neg (by simp; omega), if_neg hk0, Option.bind_some, app_eq (by simp; omega) (by omega), Option.bind_some, ← nd_succ hk, take_succ_nodes (k := k + 1) (by omega)]
      simp only [yieldT, this, Option.map_some, Option.bind_some]
      rfl)
    (fun k b hk hb => by rw [if_neg (by omega)])
    (fun b hb => hops_end _ _) (N := N) (by omega) (b0 := []) (by rw [if_pos rfl])
  rw [this.1, Option.bind_some, Option.bind_some, this.2, if_neg (by omega), List.take_of_length_le (by omega)]
theorem route_total_eq {r : List Int} (h12 : r.length ≤ 100) (hN : 200 ≤ N) {f : Int → Option Int} {g : Int → Int} (hf : ∀ k, k < r.length → f (at0 r k) = some (g (at0 r k))) : route_total N r f = some (sumW g r) := by
  unfold route_total
  rw [(iterF_foldS (n := r.length) (f := fun b k => w64 (b + g (at0 r k))) (body := fun x : Int × Int => route_total_L1 N r f x.1 x.2) (fin := fun b => b) (fun _ _ => True) (fun k b hk _ => by
    show route_total_L1 N r f b k = _
    unfold route_total_L1
    rw [if_pos (by simp; omega), idx_k hk, Option.bind_some, ← at0_k hk, hf k hk, Option.bind_some, w64_succ (by omega)]) (fun _ _ _ _ => trivial) (fun b _ => by show route_total_L1 N r f b r.length = _; unfold route_total_L1; rw [if_neg (by simp)]) (N := N) (by omega) (b0 := 0) trivial).1]
  rfl
theorem ref21_Delay_eq (hL : t.Links.length ≤ 1000) {r : List Int} (h12 : r.length ≤ 100) (hN : 200 ≤ N) (hp : ∀ k, k < r.length → portB t (at0 r k) = true) : ref21_Delay N t r = some (sumW (fun p => (plk t p).Delay) r) := by
  unfold ref21_Delay
  rw [(iterF_foldS (n := r.length) (f := fun b k => w64 (b + (plk t (at0 r k)).Delay)) (body := fun x : Int × Int => ref21_Delay_L1 N t r x.1 x.2) (fin := fun b => b) (fun _ _ => True) (fun k b hk _ => by
    show ref21_Delay_L1 N t r b k = _
    unfold ref21_Delay_L1
    rw [if_pos (by simp; omega), idx_k hk, Option.bind_some, ← at0_k hk, ref16_Delay_eq hL (hp k hk), Option.bind_some, w64_succ (by omega)]) (fun _ _ _ _ => trivial) (fun b _ => by show ref21_Delay_L1 N t r b r.length = _; unfold ref21_Delay_L1; rw [if_neg (by simp)]) (N := N) (by omega) (b0 := 0) trivial).1]
  rfl
theorem ref21_Time_eq (hL : t.Links.length ≤ 1000) {r : List Int} {size : Int} (h12 : r.length ≤ 100) (hN : 200 ≤ N) (hp : ∀ k, k < r.length → portB t (at0 r k) = true) :
    ref21_Time N t r size = some (sumW (fun p => w64 (w64 (size * (plk t p).Per) + (plk t p).Delay)) r) := by
  unfold ref21_Time
  rw [(iterF_foldS (n := r.length) (f := fun b k => w64 (b + w64 (w64 (size * (plk t (at0 r k)).Per) + (plk t (at0 r k)).Delay))) (body := fun x : Int × Int => ref21_Time_L1 N t r size x.1 x.2) (fin := fun b => b) (fun _ _ => True) (fun k b hk _ => by
    show ref21_Time_L1 N t r size b k = _
    unfold ref21_Time_L1
    rw [if_pos (by simp; omega), idx_k hk, Option.bind_some, ← at0_k hk, ref16_Per_eq hL (hp k hk), Option.bind_some, Option.bind_some, ref16_Delay_eq hL (hp k hk), Option.bind_some, w64_succ (by omega), w64_assoc]) (fun _ _ _ _ => trivial) (fun b _ => by show ref21_Time_L1 N t r size b r.length = _; unfold ref21_Time_L1; rw [if_neg (by simp)]) (N := N) (by omega) (b0 := 0) trivial).1]
  rfl
theorem xor_back : ∀ p : Fin 60, xorI .i64 ((p.val : Nat) : Int) 1 = backP ((p.val : Nat) : Int) := by decide
theorem route_back_eq (g : Good t) {p : Int} (hp : portB t p = true) (hN : 200 ≤ N) : route_walk_back N ⟨t⟩ p = some (backP p) := by
  have hL : t.Links.length ≤ 1000 := by have := g.l24; omega
  unfold route_walk_back topo_Back topo_ask_int
  have h24 := g.l24
  have hp' := hp
  simp only [portB, Bool.and_eq_true, decide_eq_true_eq] at hp'
  rw [topo_Check_eq (by omega), topoB_good.2 g]
  simp only [if_true, Option.bind_some, bne_self_eq_false, Bool.false_eq_true, if_false]
  rw [w64_id (show -9223372036854775808 ≤ 2 * (t.Links.length : Int) by omega) (by omega), if_neg (by simp; omega), plk_eq hL hp]
  simp only [Option.bind_some, topo_end_back]
  have := xor_back ⟨p.toNat, by omega⟩
  simp only [Int.toNat_of_nonneg hp'.1] at this
  rw [this]
theorem ref16_Back_eq {p : Int} (h0 : 0 ≤ p) (h : p < 1000) : ref16_Back N p = some (backP p) := by
  unfold ref16_Back backP
  split
  · rw [w64_id (by omega) (by omega)]
  · rw [w64_id (by omega) (by omega)]
def backL (r : List Int) : List Int := down (fun b k => b ++ [backP (at0 r k)]) r.length []
theorem route_Back_1_eq (g : Good t) {r : List Int} (h12 : r.length ≤ 100) (hp : ∀ k, k < r.length → portB t (at0 r k) = true) (hN : 200 ≤ N) : route_Back_1 N ⟨t⟩ r = some (backL r, 0) := by
  unfold route_Back_1
  rw [make0 (by omega) (by omega) (by omega), Option.bind_some]
  unfold slices_Backward_api_Route_int slices_Backward_api_Route_int_1
  simp only [Option.bind_some]
  have := iterF_down (f := fun b k => b ++ [backP (at0 r k)]) (body := fun x : Int × (List Int) => slices_Backward_api_Route_int_1_L1 N (fun (s : (List Int)) (x16 : Int) (x17 : Int) => yieldT (fun v : (List Int) => route_Back_1_R1 N ⟨t⟩ v x16 x17) s) r x.1 x.2) (fin := fun b => .inl b) (fun k b => k ≤ r.length ∧ b.length + k ≤ 100)
    (fun k b ⟨hk, hb⟩ => by
      refine ⟨?_, by omega, by simp; omega⟩
      show slices_Backward_api_Route_int_1_L1 N _ r k b = _
      unfold slices_Backward_api_Route_int_1_L1
      rw [if_pos (by simp), idx_k (by omega), Option.bind_some, ← at0_k (by omega)]
      have : route_Back_1_R1 N ⟨t⟩ b (k : Int) (at0 r k) = some (b ++ [backP (at0 r k)]) := by
        unfold route_Back_1_R1
        rw [route_back_eq g (hp k (by omega)) hN, Option.bind_some, app_eq (by simp; omega) (by omega), Option.bind_some]
      simp only [yieldT, this, Option.map_some, Option.bind_some]
      rw [w64_id (by omega) (by omega)]
      rfl)
    (fun b => by show slices_Backward_api_Route_int_1_L1 N _ r (-1) b = _; unfold slices_Backward_api_Route_int_1_L1; rw [if_neg (by simp)]) r.length N [] (by omega) ⟨Nat.le_refl _, by simp; omega⟩
  rw [w64_id (by omega) (by omega), this]
  rfl
theorem ref21_Back_eq {r : List Int} (h12 : r.length ≤ 100) (hp : ∀ k, k < r.length → 0 ≤ at0 r k ∧ at0 r k < 1000) (hN : 200 ≤ N) : ref21_Back N r = some (backL r) := by
  unfold ref21_Back
  have := iterF_down (f := fun b k => b ++ [backP (at0 r k)]) (body := fun x : Int × (List Int) => ref21_Back_L1 N r x.1 x.2) (fin := fun b => b) (fun k b => k ≤ r.length ∧ b.length + k ≤ 100)
    (fun k b ⟨hk, hb⟩ => by
      refine ⟨?_, by omega, by simp; omega⟩
      show ref21_Back_L1 N r k b = _
      unfold ref21_Back_L1
      obtain ⟨q1, q2⟩ := hp k (by omega)
      rw [if_pos (by simp), idx_k (by omega), Option.bind_some, ← at0_k (by omega), ref16_Back_eq q1 q2, Option.bind_some, app_eq (by simp; omega) (by omega), Option.bind_some, w64_id (by omega) (by omega)])
    (fun b => by show ref21_Back_L1 N r (-1) b = _; unfold ref21_Back_L1; rw [if_neg (by simp)]) r.length N [] (by omega) ⟨Nat.le_refl _, by simp; omega⟩
  rw [w64_id (by omega) (by omega), this]
  rfl
theorem equal_self {l : List Int} (h : l.length < N) (h' : l.length < 1000) : slices_Equal__int_int N l l = some true := by
  unfold slices_Equal__int_int
  rw [if_neg (by simp)]
  have := iterF_allN (n := l.length) (p := fun _ => true) (body := fun x : Int => slices_Equal__int_int_L1 N l l x) (bad := .inr false) (fin := .inl ()) (fun k hk => by
    unfold slices_Equal__int_int_L1
    rw [if_pos (by simp; omega), idx_k hk]
    simp only [Option.bind_some, bne_self_eq_false, Bool.false_eq_true, if_false, if_true, w64_succ (show k < 1000000 by omega)]) (by unfold slices_Equal__int_int_L1; rw [if_neg (by simp)]) (N := N) h
  rw [this, allB_iff.2 (fun _ _ => rfl)]
  rfl
theorem equalR_self {l : List Int} (h : l.length < N) (h' : l.length < 1000) : slices_Equal_api_Route_int N l l = some true := by
  unfold slices_Equal_api_Route_int
  rw [if_neg (by simp)]
  have := iterF_allN (n := l.length) (p := fun _ => true) (body := fun x : Int => slices_Equal_api_Route_int_L1 N l l x) (bad := .inr false) (fin := .inl ()) (fun k hk => by
    unfold slices_Equal_api_Route_int_L1
    rw [if_pos (by simp; omega), idx_k hk]
    simp only [Option.bind_some, bne_self_eq_false, Bool.false_eq_true, if_false, if_true, w64_succ (show k < 1000000 by omega)]) (by unfold slices_Equal_api_Route_int_L1; rw [if_neg (by simp)]) (N := N) h
  rw [this, allB_iff.2 (fun _ _ => rfl)]
  rfl
def errR (t : api_Topo) (r : List Int) : Int := if topoB t then (if validR t r then 0 else 310) else 260
theorem route_Check_eq {r : List Int} (h12 : r.length ≤ 100) (hN : 200 ≤ N) : route_Check N t r = some (errR t r) := by
  unfold route_Check errR
  rw [topo_Check_eq (by omega), Option.bind_some]
  cases hT : topoB t with
  | false => rfl
  | true =>
    simp only [if_true, bne_self_eq_false, Bool.false_eq_true, if_false]
    rw [route_valid_eq (topoB_good.1 hT) h12 hN, Option.bind_some]
    cases validR t r <;> rfl
theorem errR_ok {r : List Int} : errR t r = 0 ↔ topoB t = true ∧ validR t r = true := by
  unfold errR
  cases topoB t <;> cases validR t r <;> simp
section
variable {r : List Int}
theorem route_Nodes_bad (h12 : r.length ≤ 100) (hN : 200 ≤ N) (he : errR t r ≠ 0) : route_Nodes N t r = some ([], errR t r) := by
  unfold route_Nodes route_ask__int
  rw [route_Check_eq h12 hN]
  simp [he]
theorem route_Delay_bad (h12 : r.length ≤ 100) (hN : 200 ≤ N) (he : errR t r ≠ 0) : route_Delay N t r = some (0, errR t r) := by
  unfold route_Delay route_ask_int
  rw [route_Check_eq h12 hN]
  simp [he]
theorem route_Time_bad (h12 : r.length ≤ 100) (hN : 200 ≤ N) (size : Int) (he : errR t r ≠ 0) : route_Time N t r size = some (0, errR t r) := by
  unfold route_Time route_ask_int
  rw [route_Check_eq h12 hN]
  simp [he]
theorem route_Back_bad (h12 : r.length ≤ 100) (hN : 200 ≤ N) (he : errR t r ≠ 0) : route_Back N t r = some ([], errR t r) := by
  unfold route_Back route_ask_api_Route
  rw [route_Check_eq h12 hN]
  simp [he]
theorem route_Ends_bad (h12 : r.length ≤ 100) (hN : 200 ≤ N) (he : errR t r ≠ 0) : route_Ends N t r = some (0, 0, errR t r) := by
  unfold route_Ends
  rw [route_Nodes_bad h12 hN he]
  simp [he]
theorem route_Nodes_val (h12 : r.length ≤ 100) (hN : 200 ≤ N) (he : errR t r = 0) : route_Nodes N t r = some (nodesL t r, 0) := by
  obtain ⟨hT, hv⟩ := errR_ok.1 he
  unfold route_Nodes route_ask__int route_Nodes_1
  rw [route_Check_eq h12 hN, he]
  simp only [Option.bind_some, bne_self_eq_false, Bool.false_eq_true, if_false]
  rw [route_nodes_eq (topoB_good.1 hT) hv hN]
  rfl
theorem route_Delay_val (h12 : r.length ≤ 100) (hN : 200 ≤ N) (he : errR t r = 0) : route_Delay N t r = some (sumW (fun p => (plk t p).Delay) r, 0) := by
  obtain ⟨hT, hv⟩ := errR_ok.1 he
  obtain ⟨_, _, hp⟩ := ports_of hv
  have hL : t.Links.length ≤ 1000 := by have := (topoB_good.1 hT).l24; omega
  unfold route_Delay route_ask_int route_Delay_1
  rw [route_Check_eq h12 hN, he]
  simp only [Option.bind_some, bne_self_eq_false, Bool.false_eq_true, if_false]
  rw [route_total_eq h12 hN (g := fun p => (plk t p).Delay) (fun k hk => by unfold route_walk_delay; rw [plk_eq hL (hp k hk)]; rfl)]
  rfl
theorem route_Time_val (h12 : r.length ≤ 100) (hN : 200 ≤ N) {size : Int} (h1 : 84 ≤ size) (h2 : size ≤ 1542) (he : errR t r = 0) : route_Time N t r size = some (sumW (fun p => w64 (w64 (size * (plk t p).Per) + (plk t p).Delay)) r, 0) := by
  obtain ⟨hT, hv⟩ := errR_ok.1 he
  obtain ⟨_, _, hp⟩ := ports_of hv
  have hL : t.Links.length ≤ 1000 := by have := (topoB_good.1 hT).l24; omega
  unfold route_Time route_ask_int route_Time_1
  rw [route_Check_eq h12 hN, he]
  simp only [Option.bind_some, bne_self_eq_false, Bool.false_eq_true, if_false]
  rw [if_neg (by simp; omega), Option.bind_some, decide_eq_false (by omega)]
  simp only [Bool.false_eq_true, if_false]
  rw [route_total_eq h12 hN (g := fun p => w64 (w64 (size * (plk t p).Per) + (plk t p).Delay)) (fun k hk => by unfold route_Time_1_1 route_walk_delay; simp only; rw [plk_eq hL (hp k hk)]; rfl)]
  rfl
theorem route_Time_arg (h12 : r.length ≤ 100) (hN : 200 ≤ N) {size : Int} (h1 : ¬ (84 ≤ size ∧ size ≤ 1542)) (he : errR t r = 0) : route_Time N t r size = some (0, 2) := by
  unfold route_Time route_ask_int route_Time_1
  rw [route_Check_eq h12 hN, he]
  simp only [Option.bind_some, bne_self_eq_false, Bool.false_eq_true, if_false]
  by_cases h2 : size < 84
  · rw [if_pos (by simpa using h2)]; rfl
  · rw [if_neg (by simpa using h2), decide_eq_true (by omega)]; rfl
theorem route_Back_val (h12 : r.length ≤ 100) (hN : 200 ≤ N) (he : errR t r = 0) : route_Back N t r = some (backL r, 0) := by
  obtain ⟨hT, hv⟩ := errR_ok.1 he
  obtain ⟨_, _, hp⟩ := ports_of hv
  unfold route_Back route_ask_api_Route
  rw [route_Check_eq h12 hN, he, Option.bind_some]
  simp only [bne_self_eq_false, Bool.false_eq_true, if_false]
  rw [route_Back_1_eq (topoB_good.1 hT) h12 hp hN]
  rfl
theorem route_Ends_val (h12 : r.length ≤ 100) (hN : 200 ≤ N) (he : errR t r = 0) : route_Ends N t r = some (nd t r 0, nd t r r.length, 0) := by
  have hlen := nodesL_len (t := t) r
  unfold route_Ends
  rw [route_Nodes_val h12 hN he]
  simp only [Option.bind_some, bne_self_eq_false, Bool.false_eq_true, if_false]
  rw [show (0 : Int) = ((0 : Nat) : Int) from rfl, idx_k (show 0 < (nodesL t r).length by omega), w64_id (by omega) (by omega), show ((nodesL t r).length : Int) - 1 = ((r.length : Nat) : Int) by omega, idx_k (by omega), nd_get, nd_get]
  rfl
end
theorem law21_want_eq {l : List (List Int)} (hl : l.length ≤ 100) (h12 : ∀ r ∈ l, r.length ≤ 100) (hN : 200 ≤ N) : law21_want N t l = some (if topoB t then (if l.all (validR t) then 0 else 310) else 260) := by
  unfold law21_want
  rw [ref16_Right_eq (by omega), Option.bind_some]
  cases hT : topoB t with
  | false => rfl
  | true =>
    simp only [Bool.not_true, Bool.false_eq_true, if_false, if_true]
    have := iterF_allN (n := l.length) (p := fun k => validR t (l.getD k [])) (body := fun x : Int => law21_want_L1 N t l x) (bad := .inr 310) (fin := .inl ()) (fun k hk => by
      unfold law21_want_L1
      rw [if_pos (by simp; omega), idx_k hk, Option.bind_some, getD_k hk, ref21_Right_eq (topoB_good.1 hT) (h12 _ (List.getElem_mem hk)) hN, Option.bind_some, w64_succ (by omega)]
      cases validR t l[k] <;> rfl) (by unfold law21_want_L1; rw [if_neg (by simp)]) (N := N) (by omega)
    rw [this]
    have e : allB l.length (fun k => validR t (l.getD k [])) = l.all (validR t) := by
      rw [Bool.eq_iff_iff, allB_iff, List.all_eq_true]
      constructor
      · intro h x hx
        obtain ⟨k, hk, rfl⟩ := List.getElem_of_mem hx
        have := h k hk
        rwa [getD_k hk] at this
      · intro h k hk
        rw [getD_k hk]
        exact h _ (List.getElem_mem hk)
    rw [e]
    cases l.all (validR t) <;> rfl
def fewT (t : api_Topo) : api_Topo := ⟨t.Nodes, t.Station.take 20, t.Links.take 30⟩
theorem sub_take {α : Type} (l : List α) (m : Nat) : subI l 0 (if (m : Int) < (l.length : Int) then (m : Int) else (l.length : Int)) = some (l.take m) := by
  unfold subI
  by_cases h : (m : Int) < l.length
  · rw [if_pos h, if_pos ⟨by omega, by omega, by omega⟩]; simp
  · rw [if_neg h, if_pos ⟨by omega, by omega, by omega⟩, List.take_of_length_le (by omega), List.take_of_length_le (by omega)]; rfl
theorem law21_few_eq : law21_few N t = some (fewT t) := by
  unfold law21_few fewT
  rw [show (20 : Int) = ((20 : Nat) : Int) from rfl, show (30 : Int) = ((30 : Nat) : Int) from rfl, sub_take, Option.bind_some, sub_take]
  rfl
theorem law21_cut_eq (r : List Int) : law21_cut N r = some (r.take 12) := by
  unfold law21_cut
  rw [show (12 : Int) = ((12 : Nat) : Int) from rfl, sub_take, Option.bind_some, app_eq (by simp; omega) (by omega)]
  rfl
set_option maxRecDepth 1000000 in
theorem wakes_true : law21_wakes 256 = some true := by kernel_rfl
theorem RouteChecks_true (t : api_Topo) (x : List Int) (size : Int) : law21_RouteChecks 256 t x size = some true := by
  unfold law21_RouteChecks
  rw [wakes_true, Option.bind_some]
  simp only [Bool.not_true, Bool.false_eq_true, if_false]
  rw [law21_few_eq, Option.bind_some, law21_cut_eq, Option.bind_some]
  generalize hr : x.take 12 = r
  generalize fewT t = T
  have h12 : r.length ≤ 100 := by rw [← hr]; simp; omega
  have hN : 200 ≤ 256 := by omega
  rw [law21_want_eq (by simp) (by simpa using h12) hN, route_Check_eq h12 hN]
  have hw : (if topoB T then (if [r].all (validR T) then (0 : Int) else 310) else 260) = errR T r := by unfold errR; simp
  rw [hw]
  by_cases he : errR T r = 0
  · obtain ⟨hT, hv⟩ := errR_ok.1 he
    obtain ⟨h1, h8, hp⟩ := ports_of hv
    have g := topoB_good.1 hT
    have hL : T.Links.length ≤ 1000 := by have := g.l24; omega
    have hlen := nodesL_len (t := T) r
    have hbl : (backL r).length ≤ 100 := by
      have : ∀ n (b : List Int), (down (fun b k => b ++ [backP (at0 r k)]) n b).length = b.length + n := by
        intro n
        induction n with
        | zero => intro b; rfl
        | succ n ih => intro b; simp only [down]; rw [ih]; simp; omega
      unfold backL; rw [this]; simp; omega
    rw [route_Nodes_val h12 hN he, route_Ends_val h12 hN he, route_Delay_val h12 hN he, route_Back_val h12 hN he]
    simp only [Option.bind_some, he, bne_self_eq_false, Bool.false_eq_true, if_false]
    have i0 : idx (nodesL T r) 0 = some (nd T r 0) := by rw [show (0 : Int) = ((0 : Nat) : Int) from rfl, idx_k (by omega), nd_get]
    have i1 : idx (nodesL T r) (w64 (((nodesL T r).length : Int) - 1)) = some (nd T r r.length) := by
      rw [w64_id (by omega) (by omega), show ((nodesL T r).length : Int) - 1 = ((r.length : Nat) : Int) by omega, idx_k (by omega), nd_get]
    by_cases hs : 84 ≤ size ∧ size ≤ 1542
    · rw [route_Time_val h12 hN hs.1 hs.2 he]
      simp only [Option.bind_some]
      rw [ref21_Nodes_eq hL h1 h12 hp hN, Option.bind_some, equal_self (by omega) (by omega)]
      simp only [Option.bind_some, Bool.not_true, Bool.false_eq_true, if_false, i0, i1, bne_self_eq_false]
      rw [ref21_Delay_eq hL h12 hN hp]
      simp only [Option.bind_some, bne_self_eq_false, Bool.false_eq_true, if_false]
      rw [ref21_Back_eq h12 (fun k hk => by have := hp k hk; have := g.l24; simp only [portB, Bool.and_eq_true, decide_eq_true_eq] at *; omega) hN]
      simp only [Option.bind_some]
      rw [equalR_self (by omega) (by omega)]
      simp only [Option.bind_some, Bool.not_true, Bool.false_eq_true, if_false]
      rw [if_neg (by simp; omega), ref21_Time_eq hL h12 hN hp]
      simp
    · rw [route_Time_arg h12 hN hs he]
      simp only [Option.bind_some]
      rw [ref21_Nodes_eq hL h1 h12 hp hN, Option.bind_some, equal_self (by omega) (by omega)]
      simp only [Option.bind_some, Bool.not_true, Bool.false_eq_true, if_false, i0, i1, bne_self_eq_false]
      rw [ref21_Delay_eq hL h12 hN hp]
      simp only [Option.bind_some, bne_self_eq_false, Bool.false_eq_true, if_false]
      rw [ref21_Back_eq h12 (fun k hk => by have := hp k hk; have := g.l24; simp only [portB, Bool.and_eq_true, decide_eq_true_eq] at *; omega) hN]
      simp only [Option.bind_some]
      rw [equalR_self (by omega) (by omega)]
      simp only [Option.bind_some, Bool.not_true, Bool.false_eq_true, if_false]
      rw [if_pos (by simp; omega)]
      simp
  · rw [route_Nodes_bad h12 hN he, route_Ends_bad h12 hN he, route_Delay_bad h12 hN he, route_Time_bad h12 hN size he, route_Back_bad h12 hN he]
    simp [he]
theorem RouteChecks_law (t : api_Topo) (x : List Int) (size : Int) (_ : Rg_api_Topo t) (_ : x.length ≤ maxLen ∧ ∀ y ∈ x, InK .i64 y) (_ : InK .i64 size) : ∃ N, law21_RouteChecks N t x size = some true :=
  ⟨256, RouteChecks_true t x size⟩
end
end Go.Sh

