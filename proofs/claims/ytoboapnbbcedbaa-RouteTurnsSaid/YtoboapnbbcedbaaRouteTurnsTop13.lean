/- Part of the proof; written by a program out of the texts in wip/. -/
import Derived.Test.YtoboapnbbcedbaaRouteTurnsTop12
set_option linter.unusedVariables false
set_option linter.unusedSimpArgs false
namespace Go.Sh
open Go Go.Eng
structure Rev (l : List Int) (i : Nat) (m : List Int) : Prop where
  len : m.length = l.length
  at' : ∀ k, k < l.length → m.getD k 0 = if k < i ∨ l.length ≤ k + i then l.getD (l.length - 1 - k) 0 else l.getD k 0
theorem rev_end {l m : List Int} {i : Nat} (h : Rev l i m) (hi : l.length ≤ 2 * i + 1) : m = l.reverse := by
  apply List.ext_getElem (by rw [h.len, List.length_reverse])
  intro k h1 h2
  have hk : k < l.length := by rw [h.len] at h1; exact h1
  have := h.at' k hk
  rw [getD_k h1] at this
  rw [this, List.getElem_reverse]
  by_cases hc : k < i ∨ l.length ≤ k + i
  · rw [if_pos hc, getD_k (by omega)]
  · rw [if_neg hc, getD_k hk]
    have : l.length - 1 - k = k := by omega
    simp only [this]
theorem rev_step {l m : List Int} {i : Nat} (h : Rev l i m) (hi : 2 * i + 1 < l.length) : Rev l (i + 1) ((m.set i (m.getD (l.length - 1 - i) 0)).set (l.length - 1 - i) (m.getD i 0)) := by
  have hl := h.len
  refine ⟨by simp [hl], fun k hk => ?_⟩
  have a1 := h.at' i (by omega)
  have a2 := h.at' (l.length - 1 - i) (by omega)
  have a3 := h.at' k hk
  rw [if_neg (by omega)] at a1 a2
  rw [a1, a2]
  simp only [List.getD_eq_getElem?_getD, List.getElem?_set] at a3 ⊢
  by_cases e1 : l.length - 1 - i = k
  · subst e1
    rw [if_pos rfl, if_pos (by simp; omega), if_pos (by omega)]
    have : l.length - 1 - (l.length - 1 - i) = i := by omega
    rw [this]; simp
  · rw [if_neg e1]
    by_cases e2 : i = k
    · subst e2
      rw [if_pos rfl, if_pos (by omega), if_pos (by omega)]; simp
    · rw [if_neg e2, a3]
      by_cases hc : k < i ∨ l.length ≤ k + i
      · rw [if_pos hc, if_pos (by omega)]
      · rw [if_neg hc, if_neg (by omega)]
theorem rev_loop {M : Nat} {l : List Int} (h' : l.length < 1000) : ∀ (c N i : Nat) (m : List Int), l.length ≤ 2 * i + c → c < N → i ≤ l.length → Rev l i m →
    iterF (fun x : Int × Int × (List Int) => slices_Reverse__int_int_L1 M x.1 x.2.1 x.2.2) N ((i : Int), ((l.length : Nat) : Int) - 1 - (i : Int), m) = some l.reverse
  | c, 0, i, m, _, hN, _, _ => absurd hN (by omega)
  | c, N + 1, i, m, hc, hN, hi, h => by
    have hl := h.len
    by_cases hs : 2 * i + 1 < l.length
    · match c, hc, hN with
      | 0, hc, _ => omega
      | c + 1, hc, hN =>
        have e1 : (((l.length : Nat) : Int) - 1 - (i : Int)) = ((l.length - 1 - i : Nat) : Int) := by omega
        have hb : slices_Reverse__int_int_L1 M (i : Int) (((l.length : Nat) : Int) - 1 - (i : Int)) m = some (.inl (((i + 1 : Nat) : Int), ((l.length : Nat) : Int) - 1 - ((i + 1 : Nat) : Int), (m.set i (m.getD (l.length - 1 - i) 0)).set (l.length - 1 - i) (m.getD i 0))) := by
          unfold slices_Reverse__int_int_L1
          rw [e1, if_pos (by simp; omega), idx_k (by omega : l.length - 1 - i < m.length), idx_k (by omega : i < m.length)]
          simp only [Option.bind_some]
          rw [idx_k (by simp; omega)]
          simp only [Option.bind_some]
          rw [w64_succ (by omega), w64_id (x := ((l.length - 1 - i : Nat) : Int) - 1) (by omega) (by omega), getD_k (by omega), getD_k (by omega)]
          have e2 : ((l.length - 1 - i : Nat) : Int) - 1 = ((l.length : Nat) : Int) - 1 - ((i + 1 : Nat) : Int) := by omega
          rw [e2]
          simp
        rw [iterF_inl (body := fun x : Int × Int × (List Int) => slices_Reverse__int_int_L1 M x.1 x.2.1 x.2.2) hb]
        exact rev_loop h' c N (i + 1) _ (by omega) (by omega) (by omega) (rev_step h hs)
    · have hb : slices_Reverse__int_int_L1 M (i : Int) (((l.length : Nat) : Int) - 1 - (i : Int)) m = some (.inr m) := by
        unfold slices_Reverse__int_int_L1
        rw [if_neg (by simp; omega)]
      rw [iterF_inr (body := fun x : Int × Int × (List Int) => slices_Reverse__int_int_L1 M x.1 x.2.1 x.2.2) hb, rev_end h (by omega)]
section
variable {N : Nat} {t : api_Topo}
theorem reverse_eq {l : List Int} (h : l.length < N) (h' : l.length < 1000) : slices_Reverse__int_int N l = some l.reverse := by
  unfold slices_Reverse__int_int
  have := rev_loop (M := N) h' l.length N 0 l (by omega) h (by omega) ⟨rfl, fun k hk => by rw [if_neg (by omega)]⟩
  rw [show ((0 : Nat) : Int) = 0 from rfl, Int.sub_zero] at this
  rw [w64_id (x := ((List.length l : Nat) : Int) - 1) (by omega) (by omega), this]
  rfl
theorem nodesV_eq (r : List Int) : route_Nodes_V1 N t r = route_Nodes N t r := rfl
theorem backP_emod {p : Int} (h : 0 ≤ p) : backP p = if p % 2 = 1 then p - 1 else p + 1 := by
  have h2 : Int.tmod p 2 = p % 2 := Int.tmod_eq_emod_of_nonneg h
  unfold backP
  rw [h2]
  by_cases hp : p % 2 = 1
  · rw [if_pos (by simp [hp]), if_pos hp]
  · rw [if_neg (by simp [hp]), if_neg hp]
theorem backP_backP {p : Int} (h : 0 ≤ p) : backP (backP p) = p := by
  by_cases hp : p % 2 = 1
  · rw [backP_emod h, if_pos hp, backP_emod (by omega), if_neg (by omega)]; omega
  · rw [backP_emod h, if_neg hp, backP_emod (by omega), if_pos (by omega)]; omega
theorem port_nonneg {p : Int} (h : portB t p = true) : 0 ≤ p := by simp [portB] at h; exact h.1
theorem backL_backL {r : List Int} (hp : ∀ k, k < r.length → portB t (at0 r k) = true) : backL (backL r) = r := by
  apply List.ext_getElem (by rw [backL_len, backL_len])
  intro k h1 h2
  rw [← at0_k h1, ← at0_k h2, backL_at (by rw [backL_len]; exact h2), backL_len, backL_at (by omega)]
  have : r.length - 1 - (r.length - 1 - k) = k := by omega
  rw [this, backP_backP (port_nonneg (hp k h2))]
theorem nodes_back {r : List Int} (h : Rt t r) : (nodesL t (backL r)).reverse = nodesL t r := by
  apply List.ext_getElem (by rw [List.length_reverse, nodesL_len, nodesL_len, backL_len])
  intro k h1 h2
  rw [List.getElem_reverse, nd_get, nd_get]
  have hk : k < r.length + 1 := by rw [nodesL_len] at h2; exact h2
  rw [nodesL_len, backL_len, h.back.2 _ (by omega)]
  congr 1
  omega
theorem range_at0 (r : List Int) : (List.range r.length).map (at0 r) = r := by
  apply List.ext_getElem (by simp)
  intro k h1 h2
  simp [at0_k h2]
theorem sumW_back {r : List Int} (h : Rt t r) (g : Int → Int) (hg : ∀ p, portB t p = true → g (backP p) = g p) : sumW g (backL r) = sumW g r := by
  have h1 := h.l1
  have n1 : r ≠ [] := by intro e; rw [e] at h1; simp at h1
  have n2 : backL r ≠ [] := by intro e; have := backL_len r; rw [e] at this; simp at this; omega
  rw [sumW_list, sumW_list, sumL_eq g 0 n1, sumL_eq g 0 n2]
  have e : (backL r).map g = (r.map g).reverse := by
    rw [backL_eq, ← List.map_reverse, List.map_map]
    conv => rhs; rw [← range_at0 r]
    rw [← List.map_reverse, List.map_map]
    apply List.map_congr_left
    intro k hk
    simp only [List.mem_reverse, List.mem_range] at hk
    exact hg _ (h.port k hk)
  rw [e, List.sum_reverse]
theorem plk_back {p : Int} (hp : portB t p = true) : plk t (backP p) = plk t p := by unfold plk; rw [(back_port hp).2.2.2]
theorem Rt.nodup {r : List Int} (h : Rt t r) : r.Nodup := by
  refine List.pairwise_iff_getElem.2 fun i j hi hj hij he => ?_
  have h2 := h.inj (i + 1) (j + 1) (by omega) (by omega)
  rw [← h.too hi, ← h.too hj, at0_k hi, at0_k hj, he] at h2
  exact h2 rfl
theorem at0_mem {r : List Int} {p : Int} (hp : p ∈ r) : ∃ k, k < r.length ∧ at0 r k = p := by
  obtain ⟨k, hk, e⟩ := List.getElem_of_mem hp
  exact ⟨k, hk, by rw [at0_k hk, e]⟩
theorem ports_one {r : List Int} (h : Rt t r) : (PF (fun p => r.contains p) (2 * t.Links.length)).length = r.length := by
  apply List.Perm.length_eq
  rw [List.perm_ext_iff_of_nodup ((PF_sorted _ _).imp (fun h => by omega)) h.nodup]
  intro p
  rw [PF_mem]
  constructor
  · intro ⟨_, _, h3⟩; simpa using h3
  · intro hp
    obtain ⟨k, hk, e⟩ := at0_mem hp
    have := h.port k hk
    rw [e] at this
    simp [portB] at this
    exact ⟨this.1, by omega, by simpa using hp⟩
theorem tree_one {r : List Int} (h : Rt t r) : treeB t [r] = true := by
  rw [treeB_iff]
  refine ⟨fun q hq => ?_, ?_⟩
  · simp at hq; subst hq; rfl
  · intro p hp q hq he
    simp at hp hq
    obtain ⟨i, hi, rfl⟩ := at0_mem hp
    obtain ⟨j, hj, rfl⟩ := at0_mem hq
    rw [h.too hi, h.too hj] at he
    by_cases e : i = j
    · rw [e]
    · exfalso
      by_cases hl : i < j
      · exact h.inj (i + 1) (j + 1) (by omega) (by omega) he
      · exact h.inj (j + 1) (i + 1) (by omega) (by omega) he.symm
theorem RouteTurns_true {d : ref16_Draft} {n k : Int} (hd : Rg_ref16_Draft d) (hn : InK .u8 n) (hk : InK .u8 k) : law21_RouteTurns 256 d n k = some true := by
  have hN : 200 ≤ 256 := by omega
  unfold law21_RouteTurns
  rw [wakes_true, Option.bind_some]
  simp only [Bool.not_true, Bool.false_eq_true, if_false]
  obtain ⟨T, t1, g, t3⟩ := draft_good (DOK.of hd) hN
  rw [t1, Option.bind_some]
  obtain ⟨r, r1, r2⟩ := some_valid g t3 (byte_of hn) (byte_of hk) hN
  rw [r1, Option.bind_some]
  have hL : T.Links.length ≤ 1000 := by have := g.l24; omega
  have R := rt_iff.1 r2
  have B := R.back.1
  have hT := topoB_good.2 g
  have hl1 := R.l1
  have hl8 := R.l8
  have hbl := backL_len r
  have ea : errR T r = 0 := errR_ok.2 ⟨hT, r2⟩
  have eb : errR T (backL r) = 0 := errR_ok.2 ⟨hT, rt_iff.2 B⟩
  have hall : [r].all (validR T) = true := by simp [r2]
  have hn1 := nodesL_len (t := T) r
  have hn2 := nodesL_len (t := T) (backL r)
  rw [route_Back_val (by omega) hN ea, Option.bind_some]
  simp only
  rw [route_Back_val (by omega) hN eb, Option.bind_some, route_Nodes_val (by omega) hN ea, Option.bind_some, nodesV_eq, route_Nodes_val (by omega) hN eb, Option.bind_some, backL_backL R.port]
  simp only [bne_self_eq_false, Bool.false_eq_true, if_false]
  rw [equalR_self (by omega) (by omega), Option.bind_some]
  simp only [Bool.not_true, Bool.false_eq_true, if_false, Option.bind_some]
  rw [w64_succ (by omega), hn1]
  simp only [bne_self_eq_false, Bool.false_eq_true, if_false]
  rw [reverse_eq (by omega) (by omega), Option.bind_some, nodes_back R, route_Time_val (by omega) hN (by omega) (by omega) ea, Option.bind_some, route_Time_val (by omega) hN (by omega) (by omega) eb, Option.bind_some,
    sumW_back R _ (fun p hp => by rw [plk_back hp]), route_Tree_eq (by simp) (by simpa using (by omega : r.length ≤ 100)) hN, Option.bind_some, if_pos hT, if_pos hall, equal_self (by omega) (by omega)]
  have hp := ports_one R
  have hf : ([r] : List (List Int)).flatten = r := by simp
  simp only [hf, tree_one R, hp, Option.bind_some, beq_self_eq_true, if_true]
theorem RouteTurns_law (d : ref16_Draft) (n k : Int) (hd : Rg_ref16_Draft d) (hn : InK .u8 n) (hk : InK .u8 k) : ∃ N, law21_RouteTurns N d n k = some true :=
  ⟨256, RouteTurns_true hd hn hk⟩
end
end Go.Sh

