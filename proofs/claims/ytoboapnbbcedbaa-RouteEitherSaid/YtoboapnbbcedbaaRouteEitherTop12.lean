/- Part of the proof; written by a program out of the texts in wip/. -/
import Derived.Test.YtoboapnbbcedbaaRouteEitherTop11
set_option linter.unusedVariables false
set_option linter.unusedSimpArgs false
namespace Go.Sh
open Go Go.Eng
section
variable {N : Nat} {t : api_Topo}
theorem down_eq (f : Nat → Int) : ∀ (n : Nat) (b : List Int), down (fun b k => b ++ [f k]) n b = b ++ (List.range n).reverse.map f
  | 0, b => by simp [down]
  | n + 1, b => by rw [down, down_eq f n, List.range_succ]; simp
theorem backL_eq (r : List Int) : backL r = (List.range r.length).reverse.map (fun k => backP (at0 r k)) := by
  unfold backL
  rw [down_eq]
  simp
theorem backL_len (r : List Int) : (backL r).length = r.length := by rw [backL_eq]; simp
theorem backL_at {r : List Int} {k : Nat} (hk : k < r.length) : at0 (backL r) k = backP (at0 r (r.length - 1 - k)) := by
  have hl := backL_len r
  rw [at0_k (by omega)]
  simp only [backL_eq, List.getElem_map, List.getElem_reverse, List.length_range, List.getElem_range]
theorem back_port {p : Int} (hp : portB t p = true) : portB t (backP p) = true ∧ frm t (backP p) = too t p ∧ too t (backP p) = frm t p ∧ Int.tdiv (backP p) 2 = Int.tdiv p 2 := by
  simp only [portB, Bool.and_eq_true, decide_eq_true_eq] at hp
  have e : Int.tmod p 2 = p % 2 := Int.tmod_eq_emod_of_nonneg hp.1
  have d : Int.tdiv p 2 = p / 2 := Int.tdiv_eq_ediv_of_nonneg hp.1
  by_cases h : p % 2 = 1
  · have hb : backP p = p - 1 := by unfold backP; rw [e, h]; rfl
    have e' : Int.tmod (p - 1) 2 = 0 := by rw [Int.tmod_eq_emod_of_nonneg (by omega)]; omega
    have d' : Int.tdiv (p - 1) 2 = Int.tdiv p 2 := by rw [Int.tdiv_eq_ediv_of_nonneg (by omega), d]; omega
    have hpl : plk t (p - 1) = plk t p := by unfold plk; rw [d']
    rw [hb]
    refine ⟨by simp only [portB, Bool.and_eq_true, decide_eq_true_eq]; omega, ?_, ?_, d'⟩
    · unfold frm too; rw [e', e, h, hpl]; rfl
    · unfold frm too; rw [e', e, h, hpl]; rfl
  · have h0 : p % 2 = 0 := by omega
    have hb : backP p = p + 1 := by unfold backP; rw [e, h0]; rfl
    have e' : Int.tmod (p + 1) 2 = 1 := by rw [Int.tmod_eq_emod_of_nonneg (by omega)]; omega
    have d' : Int.tdiv (p + 1) 2 = Int.tdiv p 2 := by rw [Int.tdiv_eq_ediv_of_nonneg (by omega), d]; omega
    have hpl : plk t (p + 1) = plk t p := by unfold plk; rw [d']
    rw [hb]
    refine ⟨by simp only [portB, Bool.and_eq_true, decide_eq_true_eq]; omega, ?_, ?_, d'⟩
    · unfold frm too; rw [e', e, h0, hpl]; rfl
    · unfold frm too; rw [e', e, h0, hpl]; rfl
theorem Rt.back {r : List Int} (h : Rt t r) : Rt t (backL r) ∧ ∀ k, k ≤ r.length → nd t (backL r) k = nd t r (r.length - k) := by
  have hl := backL_len r
  have h1 := h.l1
  have hp : ∀ k, k < r.length → portB t (at0 (backL r) k) = true ∧ Go.Sh.frm t (at0 (backL r) k) = nd t r (r.length - k) ∧ Go.Sh.too t (at0 (backL r) k) = nd t r (r.length - 1 - k) := fun k hk => by
    rw [backL_at hk]
    obtain ⟨a, b, c, _⟩ := back_port (h.port (r.length - 1 - k) (by omega))
    refine ⟨a, ?_, ?_⟩
    · rw [b, h.too (by omega)]; congr 1; omega
    · rw [c, h.frm _ (by omega)]
  have hnd : ∀ k, k ≤ r.length → nd t (backL r) k = nd t r (r.length - k) := fun k hk => by
    cases k with
    | zero => rw [nd_zero, (hp 0 (by omega)).2.1]
    | succ k => rw [nd_succ (by omega), (hp k (by omega)).2.2]; congr 1; omega
  refine ⟨⟨by omega, by have := h.l8; omega, fun k hk => (hp k (by omega)).1, fun k hk => ?_, fun k h0 hk => ?_, fun i j hij hj => ?_⟩, hnd⟩
  · rw [hnd k (by omega)]; exact (hp k (by omega)).2.1
  · rw [hnd k (by omega)]; exact h.st _ (by omega) (by omega)
  · rw [hnd i (by omega), hnd j (by omega)]
    exact Ne.symm (h.inj _ _ (by omega) (by omega))
theorem apartB_iff (hL : t.Links.length ≤ 1000) {a b : List Int} (ha : Rt t a) (hb : Rt t b) : apartB t a b = true ↔ (∀ i, i < a.length → ∀ k, k < b.length → Int.tdiv (at0 a i) 2 ≠ Int.tdiv (at0 b k) 2) ∧
    (∀ i, 0 < i → i < a.length → ∀ k, k ≤ b.length → nd t b k ≠ nd t a i) ∧ ∀ i, 0 < i → i < b.length → ∀ k, k ≤ a.length → nd t a k ≠ nd t b i := by
  unfold apartB
  rw [Bool.and_eq_true, Bool.and_eq_true, apartL_iff hL ha.port hb.port, clearL_iff, clearL_iff]
theorem apart_symm (hL : t.Links.length ≤ 1000) {a b : List Int} (ha : Rt t a) (hb : Rt t b) : apartB t a b = apartB t b a := by
  rw [Bool.eq_iff_iff, apartB_iff hL ha hb, apartB_iff hL hb ha]
  exact ⟨fun ⟨h1, h2, h3⟩ => ⟨fun i hi k hk e => h1 k hk i hi e.symm, h3, h2⟩, fun ⟨h1, h2, h3⟩ => ⟨fun i hi k hk e => h1 k hk i hi e.symm, h3, h2⟩⟩
theorem apart_self (hL : t.Links.length ≤ 1000) {a : List Int} (ha : Rt t a) : apartB t a a = false := by
  rw [← Bool.not_eq_true, apartB_iff hL ha ha]
  intro h
  exact h.1 0 ha.l1 0 ha.l1 rfl
theorem apart_back (hL : t.Links.length ≤ 1000) {a b : List Int} (ha : Rt t a) (hb : Rt t b) : apartB t a (backL b) = apartB t a b := by
  obtain ⟨hb', nb⟩ := hb.back
  have hl := backL_len b
  have hlink : ∀ k, k < b.length → Int.tdiv (at0 (backL b) k) 2 = Int.tdiv (at0 b (b.length - 1 - k)) 2 := fun k hk => by
    rw [backL_at hk]; exact (back_port (hb.port _ (by omega))).2.2.2
  rw [Bool.eq_iff_iff, apartB_iff hL ha hb', apartB_iff hL ha hb, hl]
  constructor
  · rintro ⟨h1, h2, h3⟩
    refine ⟨fun i hi k hk e => ?_, fun i h0 hi k hk => ?_, fun i h0 hi k hk => ?_⟩
    · apply h1 i hi (b.length - 1 - k) (by omega)
      rw [hlink _ (by omega), show b.length - 1 - (b.length - 1 - k) = k by omega]; exact e
    · have := h2 i h0 hi (b.length - k) (by omega)
      rwa [nb _ (by omega), show b.length - (b.length - k) = k by omega] at this
    · have := h3 (b.length - i) (by omega) (by omega) k hk
      rwa [nb _ (by omega), show b.length - (b.length - i) = i by omega] at this
  · rintro ⟨h1, h2, h3⟩
    refine ⟨fun i hi k hk e => ?_, fun i h0 hi k hk => ?_, fun i h0 hi k hk => ?_⟩
    · rw [hlink k hk] at e
      exact h1 i hi _ (by omega) e
    · rw [nb k hk]; exact h2 i h0 hi _ (by omega)
    · rw [nb i (by omega)]; exact h3 _ (by omega) (by omega) k hk
theorem RouteEither_true {d : ref16_Draft} {n k m l : Int} (hd : Rg_ref16_Draft d) (hn : InK .u8 n) (hk : InK .u8 k) (hm : InK .u8 m) (hl : InK .u8 l) : law21_RouteEither 256 d n k m l = some true := by
  have hN : 200 ≤ 256 := by omega
  unfold law21_RouteEither
  rw [wakes_true, Option.bind_some]
  simp only [Bool.not_true, Bool.false_eq_true, if_false]
  obtain ⟨T, t1, g, t3⟩ := draft_good (DOK.of hd) hN
  rw [t1, Option.bind_some]
  obtain ⟨a, a1, a2⟩ := some_valid g t3 (byte_of hn) (byte_of hk) hN
  obtain ⟨b, b1, b2⟩ := some_valid g t3 (byte_of hm) (byte_of hl) hN
  rw [a1, Option.bind_some, b1, Option.bind_some]
  have hL : T.Links.length ≤ 1000 := by have := g.l24; omega
  have A := rt_iff.1 a2
  have B := rt_iff.1 b2
  have B' := B.back.1
  have hT := topoB_good.2 g
  have ha8 := A.l8
  have hb8 := B.l8
  have hbl := backL_len b
  have ea : errR T a = 0 := errR_ok.2 ⟨hT, a2⟩
  have eb : errR T b = 0 := errR_ok.2 ⟨hT, b2⟩
  rw [route_Apart_eq (by omega) (by omega) hN, route_Apart_eq (by omega) (by omega) hN, route_Apart_eq (by omega) (by omega) hN, route_Back_val (by omega) hN eb]
  simp only [Option.bind_some]
  rw [route_Apart_eq (by omega) (by omega) hN, Option.bind_some, if_pos ea, if_pos eb, if_pos ea, if_pos ea, if_pos b2, if_pos a2, if_pos a2, if_pos (rt_iff.2 B'), apart_self hL A, apart_back hL A B, apart_symm hL B A]
  simp
theorem RouteEither_law (d : ref16_Draft) (n k m l : Int) (hd : Rg_ref16_Draft d) (hn : InK .u8 n) (hk : InK .u8 k) (hm : InK .u8 m) (hl : InK .u8 l) : ∃ N, law21_RouteEither N d n k m l = some true :=
  ⟨256, RouteEither_true hd hn hk hm hl⟩
end
end Go.Sh

