/- Of: the program and the reference, continued. -/
import Derived.Test.YtcbolnjnhiaiiaaSer8
namespace Go.Sh
open Go Go.Eng
set_option linter.unusedVariables false
set_option linter.unusedSimpArgs false

theorem fold_list : ∀ (l s : List service_opening), l.foldl (fun s x => s ++ [x]) s = s ++ l
  | [], s => by simp
  | x :: l, s => by simp [fold_list l]

theorem gaps_outer {N : Nat} (hN : 200 ≤ N) {g : api_Gates} (hg : VG g) {c : Nat} {e : api_Entry} (h1 : g.Entries[c]? = some e) (h2 : bitB 6 e.Mask = false) (h3 : ∀ j, j < c → ∃ f, g.Entries[j]? = some f ∧ bitB 6 f.Mask = true) {L : Int} (hL : 0 ≤ L ∧ L ≤ 1542000) {y : Int → Int → Int → Option Int} {Q : Int → Prop} {D : List (Int × Int) → Nat → Nat → Int → Prop}
    (hy : ∀ l, Rnd g (sumL (g.Entries.take c)) l → ∀ lat i k, i < l.length → k < l.length → Q lat → ∃ lat', y lat (cT l g.Cycle L (i + k + 1) - cF l g.Cycle L i) (cnt (wt (op6 g) L) (rE l g.Cycle i) (rE l g.Cycle (i + k))) = some lat' ∧ Q lat' ∧ lat ≤ lat' ∧ D l i k lat')
    (hD : ∀ l i k a b, a ≤ b → D l i k a → D l i k b) (s0 : Int) (h0 : Q s0) :
    ∃ l r, Rnd g (sumL (g.Entries.take c)) l ∧ service_gaps N g L y s0 = some r ∧ Q r ∧ s0 ≤ r ∧ ∀ i k, i < l.length → k < l.length → D l i k r := by
  obtain ⟨l, r1, r2, _, r4⟩ := openings_fold hN hg h1 h2 h3 (f := fun v x => service_gaps_R1 N v x) (fun k s => s.length = k) (fun s x => s ++ [x]) (fun k s x hk hs x0 x1 x2 x3 => by
    unfold service_gaps_R1
    rw [appI_small (by simp; omega) (by decide)]
    exact ⟨rfl, by simp [hs]⟩) [] rfl
  unfold service_gaps service_openings
  rw [Option.bind_some, r2, Option.bind_some, fold_list, List.nil_append]
  obtain ⟨r, i1, i2, i3, i4⟩ := iterF_of (body := fun x : Int × Int => service_gaps_L2 N g L y (l.map toOp) x.1 x.2) (fun z : Int × Int => ∃ i : Nat, z.1 = (i : Int) ∧ i ≤ l.length ∧ Q z.2 ∧ s0 ≤ z.2 ∧ ∀ i' k, i' < i → k < l.length → D l i' k z.2) (fun z => l.length - z.1.toNat) (fun r => Q r.2 ∧ s0 ≤ r.2 ∧ ∀ i k, i < l.length → k < l.length → D l i k r.2) (fun z hz => by
    obtain ⟨ii, lat⟩ := z
    obtain ⟨i, e1, e2, e3, e4, e5⟩ := hz
    simp only at e1 e3 e4 e5 ⊢
    subst e1
    unfold service_gaps_L2
    by_cases hi : i < l.length
    · left
      obtain ⟨o, o1, o2, o3, o4⟩ := gaps_inner hN hg r1 r4 hL (y := y) (Q := Q) (D := D l) hi (List.getElem?_eq_getElem hi) (fun lat k hk hq => hy l r1 lat i k hi hk hq) (hD l) lat e3
      refine ⟨(((i + 1 : Nat) : Int), o.2.2), ?_, ⟨i + 1, rfl, by omega, o2, by simp only; omega, fun i' k hi' hk => ?_⟩, by simp only; omega⟩
      · rw [if_pos (by simpa using hi), idx_nat, List.getElem?_map, List.getElem?_eq_getElem hi, Option.map_some, Option.bind_some, o1, Option.bind_some, w64_id (by omega) (by omega)]
        rfl
      · rcases Nat.lt_or_ge i' i with w | w
        · exact hD _ _ _ _ _ o3 (e5 i' k w hk)
        · rw [show i' = i by omega]; exact o4 k hk
    · right
      refine ⟨((i : Int), lat), ?_, e3, e4, fun i' k hi' hk => e5 i' k (by omega) hk⟩
      rw [if_neg (by simp; omega)]) N (0, s0) ⟨0, rfl, by omega, h0, Int.le_refl _, fun i' k h => by omega⟩ (by simp; omega)
  exact ⟨l, r.2, r1, by rw [i1, Option.bind_some], i2, i3, i4⟩

noncomputable def Yl (g : api_Gates) (L : Int) : Int := if aoB g = true then g.Cycle else yld g L

theorem Yl_bound {g : api_Gates} (hg : VG g) (L : Int) : 0 ≤ Yl g L ∧ Yl g L ≤ g.Cycle := by
  have hcy := hg.cyc
  have := yld_bound hg L
  unfold Yl; split <;> omega

theorem rate_facts {g : api_Gates} (hg : VG g) {L per : Int} (hp : 1 ≤ per ∧ per ≤ 1000) {q : Int} (hq : q = Yl g L * 1048576 / (g.Cycle * per)) :
    0 ≤ q ∧ q ≤ 1048576 ∧ q * g.Cycle * per ≤ Yl g L * 1048576 ∧ Yl g L * 1048576 < (q + 1) * g.Cycle * per ∧ q * per * g.Cycle ≤ 1048576 * Yl g L ∧ q * per ≤ 1048576 := by
  have hcy := hg.cyc
  have hy := Yl_bound hg L
  have hcp : 0 < g.Cycle * per := Int.mul_pos (by omega) (by omega)
  have h1 : q * (g.Cycle * per) ≤ Yl g L * 1048576 := by rw [hq]; exact Int.ediv_mul_le _ (by omega)
  have h2 : Yl g L * 1048576 < (q + 1) * (g.Cycle * per) := by rw [hq]; exact Int.lt_ediv_add_one_mul_self _ hcp
  have h0 : 0 ≤ q := by rw [hq]; exact Int.ediv_nonneg (by omega) (by omega)
  have h3 : q * per * g.Cycle ≤ 1048576 * Yl g L := by rw [Int.mul_assoc, Int.mul_comm per]; omega
  have h4 : q * per ≤ 1048576 := by
    refine Int.le_of_mul_le_mul_right (a := g.Cycle) ?_ (by omega)
    omega
  have h5 : q ≤ q * per := by
    have := Int.mul_le_mul_of_nonneg_left hp.1 h0
    omega
  exact ⟨h0, by omega, by rw [Int.mul_assoc]; exact h1, by rw [Int.mul_assoc]; exact h2, h3, h4⟩

theorem Vv_zero {g : api_Gates} {L R per t : Int} (hL : 0 ≤ L) : Vv g L R per t 0 = 127 * per * 1048576 := by
  have := gets_bound (g := g) L t 0 hL (Int.le_refl _)
  unfold Vv
  rw [show gets g L t 0 = 0 by omega, Int.zero_mul]
  omega

/-- The latency, from the candidates. -/
theorem isLat_ao {g : api_Gates} (hg : VG g) (hao : aoB g = true) {L R per Lat : Int} (hL : 0 ≤ L) (hR : 0 < R ∧ R ≤ 1048576) (h1 : (Lat - 1) * R < 127 * per * 1048576) (h2 : 127 * per * 1048576 ≤ Lat * R) : IsLat g L R per Lat := by
  refine ⟨⟨0, 0, by omega, by omega, by rw [Vv_zero hL]; exact h1⟩, fun t x hx => ?_⟩
  have : Vv g L R per t x ≤ 127 * per * 1048576 := by
    unfold Vv gets
    rw [if_pos hao]
    have := Int.mul_le_mul_of_nonneg_left hR.2 hx
    omega
  omega

theorem cand_Vv {g : api_Gates} (hg : VG g) (hao : aoB g = false) {a0 : Int} {l : List (Int × Int)} (hr : Rnd g a0 l) (hn : 0 < l.length) {L R per : Int} (hL : 0 ≤ L) (i k : Nat) :
    Vv g L R per (cF l g.Cycle L i) (cT l g.Cycle L (i + k + 1) - cF l g.Cycle L i) = (cT l g.Cycle L (i + k + 1) - cF l g.Cycle L i) * R - (cnt (wt (op6 g) L) (rE l g.Cycle i) (rE l g.Cycle (i + k)) - 127 * per) * 1048576 := by
  unfold Vv gets
  rw [if_neg (by simp [hao]), show cF l g.Cycle L i + (cT l g.Cycle L (i + k + 1) - cF l g.Cycle L i) = cT l g.Cycle L (i + k + 1) by omega, (cand_cnt (hr.toPer hg) hn hL i k).1]

theorem yld_any {g : api_Gates} (hg : VG g) (L u : Int) : cnt (wt (op6 g) L) u (u + g.Cycle) = yld g L := by
  have hcy := hg.cyc
  rw [cnt_period (q := wt (op6 g) L) (C := g.Cycle) (by omega) (fun t => wt_per hg L t) u 0]
  unfold yld
  rw [Int.zero_add]

theorem isLat_cand {g : api_Gates} (hg : VG g) (hao : aoB g = false) {a0 : Int} {l : List (Int × Int)} (hr : Rnd g a0 l) {L R per Lat : Int} (hL : 0 ≤ L) (hR : 0 < R ∧ R ≤ 1048576) (hd : R * g.Cycle ≤ 1048576 * Yl g L)
    (h1 : ∃ t x, 0 ≤ x ∧ x ≤ 30000000 ∧ (Lat - 1) * R < Vv g L R per t x)
    (h2 : ∀ i k, i < l.length → k < l.length → Vv g L R per (cF l g.Cycle L i) (cT l g.Cycle L (i + k + 1) - cF l g.Cycle L i) ≤ Lat * R) : IsLat g L R per Lat := by
  refine ⟨h1, fun t x hx => ?_⟩
  obtain ⟨i, k, i1, k1, h⟩ := cands (hr.toPer hg) hL hR.1 hR.2 (fun u => yld_any hg L u) (Y := yld g L) (by unfold Yl at hd; rwa [if_neg (by simp [hao])] at hd) (t := t) (x := x) hx
  have h3 := h2 i k i1 k1
  rw [cand_Vv hg hao hr (by omega) hL] at h3
  unfold Vv gets
  rw [if_neg (by simp [hao])]
  omega

theorem of_eq {N : Nat} (hN : 200 ≤ N) {g : api_Gates} (hg : VG g) {per most : Int} (hp : 1 ≤ per ∧ per ≤ 1000) (hm : 84 ≤ most ∧ most ≤ 1542) {q : Int} (hq : q = Yl g (most * per) * 1048576 / (g.Cycle * per)) :
    (q < 1 → service_Of N g per most = some (⟨0, 0⟩, 4)) ∧ (1 ≤ q → ∃ Lat, IsLat g (most * per) (q * per) per Lat ∧ service_Of N g per most = some (⟨q, Lat⟩, 0)) := by
  have hL := mul_bounds hp hm
  have hcy := hg.cyc
  have hy := Yl_bound hg (most * per)
  obtain ⟨q0, q1, q2, q3, q4, q5⟩ := rate_facts hg hp hq
  have hcp : 0 < g.Cycle * per ∧ g.Cycle * per ≤ 9600000000 := ⟨Int.mul_pos (by omega) (by omega), by have := Int.mul_le_mul hcy.2 hp.2 (by omega) (by omega); omega⟩
  have herr : errA g per most = 0 := by unfold errA; rw [if_pos hg, if_pos (by omega)]
  unfold service_Of
  rw [(check30_eq hN g per most).1, herr, Option.bind_some, if_neg (by simp), w64_id (x := most * per) (by omega) (by omega), yield_eq hN hg (by omega), Option.bind_some, show (if aoB g = true then g.Cycle else yld g (most * per)) = Yl g (most * per) from rfl, w64_id (x := Yl g (most * per) * 1048576) (by omega) (by omega), w64_id (x := g.Cycle * per) (by omega) (by omega), quoI_pos (by omega), Option.bind_some, Int.tdiv_eq_ediv_of_nonneg (by omega), ← hq]
  have hwq : IntKind.i64.wrap q = q := w64_id (by omega) (by omega)
  rw [hwq]
  refine ⟨fun h => by rw [if_pos (by simpa using h)], fun h => ?_⟩
  have hR : 0 < q * per ∧ q * per ≤ 1048576 := ⟨Int.mul_pos (by omega) (by omega), q5⟩
  rw [if_neg (by simp; omega), w64_id (x := -127 * per) (by omega) (by omega), of1_eq rfl hR (by omega) (by omega), Option.bind_some]
  have k0 := keep_ok (R := q * per) (lat := 0) (long := 0) (S := -127 * per) hR.1
  rw [show (0 : Int) * (q * per) - -127 * per * 1048576 = 127 * per * 1048576 by omega] at k0
  generalize hk0 : keepL (q * per) 0 0 (-127 * per) = lat0 at k0
  have hat : (lat0 - 1) * (q * per) < 127 * per * 1048576 := by
    rcases k0.2.2 with w | w
    · rw [w, Int.zero_sub, Int.neg_mul]; omega
    · exact w
  cases hao : aoB g with
  | true =>
    refine ⟨lat0, isLat_ao hg hao hL.1 hR hat k0.2.1, ?_⟩
    unfold service_gaps service_openings
    rw [Option.bind_some, openings_none hN hg hao, Option.bind_some]
    have : iterF (fun x : Int × Int => service_gaps_L2 N g (most * per) (fun s x26 x27 => service_Of_K1 N per q s x26 x27) [] x.1 x.2) N (0, lat0) = some (0, lat0) := by
      cases N with
      | zero => omega
      | succ N =>
        apply iterF_inr
        rfl
    rw [this]
    rfl
  | false =>
    obtain ⟨c, e, h1, h2, h3⟩ := closed_first hao
    obtain ⟨l, r, r1, r2, r3, r4, r5⟩ := gaps_outer hN hg h1 h2 h3 hL (y := fun s x26 x27 => service_Of_K1 N per q s x26 x27) (Q := fun lat => ∃ t x, 0 ≤ x ∧ x ≤ 30000000 ∧ (lat - 1) * (q * per) < Vv g (most * per) (q * per) per t x)
      (D := fun l i k lat => Vv g (most * per) (q * per) per (cF l g.Cycle (most * per) i) (cT l g.Cycle (most * per) (i + k + 1) - cF l g.Cycle (most * per) i) ≤ lat * (q * per)) (fun l hr lat i k hi hk hQ => by
        have hn : 0 < l.length := by omega
        have hP := hr.toPer hg
        have hlt := (cand_cnt hP hn hL.1 i k).2
        have bi := hr.bnd hg hn (m := i) (by omega)
        have bj := hr.bnd hg hn (m := i + k + 1) (by omega)
        have bk := hr.bnd hg hn (m := i + k) (by omega)
        have oi := (hP.open_ hn i).1
        have oj := (hP.open_ hn (i + k + 1)).1
        have mo := hP.mono hn i k
        have hmj := mi_bnd (a := most * per) (b := rE l g.Cycle (i + k + 1) - rB l g.Cycle (i + k + 1)) hL.1 (by omega)
        have hmi := mi_bnd (a := most * per) (b := rE l g.Cycle i - rB l g.Cycle i) hL.1 (by omega)
        have hcT : 0 ≤ cT l g.Cycle (most * per) (i + k + 1) ∧ cT l g.Cycle (most * per) (i + k + 1) ≤ 3 * g.Cycle := by unfold cT; omega
        have hcF : 0 ≤ cF l g.Cycle (most * per) i ∧ cF l g.Cycle (most * per) i ≤ 3 * g.Cycle := by unfold cF; omega
        have hc0 := cnt_nonneg (wt (op6 g) (most * per)) (rE l g.Cycle i) (rE l g.Cycle (i + k))
        have hc1 := cnt_bound (q := wt (op6 g) (most * per)) mo
        have kk := keep_ok (R := q * per) (lat := lat) (long := cT l g.Cycle (most * per) (i + k + 1) - cF l g.Cycle (most * per) i) (S := cnt (wt (op6 g) (most * per)) (rE l g.Cycle i) (rE l g.Cycle (i + k)) - 127 * per) hR.1
        refine ⟨keepL (q * per) lat (cT l g.Cycle (most * per) (i + k + 1) - cF l g.Cycle (most * per) i) (cnt (wt (op6 g) (most * per)) (rE l g.Cycle i) (rE l g.Cycle (i + k)) - 127 * per), ?_, ?_, kk.1, ?_⟩
        · unfold service_Of_K1
          rw [w64_id (x := 127 * per) (by omega) (by omega), w64_id (by omega) (by omega), of1_eq rfl hR (by omega) (by omega), Option.bind_some]
        · rcases kk.2.2 with w | w
          · rw [w]; exact hQ
          · refine ⟨cF l g.Cycle (most * per) i, cT l g.Cycle (most * per) (i + k + 1) - cF l g.Cycle (most * per) i, by omega, by omega, ?_⟩
            rw [cand_Vv hg hao hr hn hL.1]
            exact w
        · rw [cand_Vv hg hao hr hn hL.1]
          exact kk.2.1) (fun l i k a b hab h => by
        have := Int.mul_le_mul_of_nonneg_right hab (show 0 ≤ q * per by omega)
        omega) lat0 ⟨0, 0, by omega, by omega, by rw [Vv_zero hL.1]; exact hat⟩
    refine ⟨r, isLat_cand hg hao r1 hL.1 hR q4 r3 r5, ?_⟩
    rw [r2, Option.bind_some]
end Go.Sh
