/- Of: the reference. -/
import Derived.Test.YtcbolnjnhiaiiaaSer9
namespace Go.Sh
open Go Go.Eng
set_option linter.unusedVariables false
set_option linter.unusedSimpArgs false

theorem mi_def (a b : Int) : (if a < b then a else b) = mi a b := rfl

theorem ref_inner {N : Nat} (hN : 60000000 ≤ N) {g : api_Gates} (hg : VG g) {a0 : Int} {out : List ref30_Opening} (hr : Rnd g a0 (out.map prO)) (hl : out.length ≤ 10000000) {per most q : Int} (hp : 1 ≤ per ∧ per ≤ 1000) (hm : 84 ≤ most ∧ most ≤ 1542) (hq : 0 ≤ q ∧ q ≤ 1048576) (hqp : q * per ≤ 1048576)
    {i : Nat} (hi : i < out.length) (W0 : Int) (h0 : ∃ t x, 0 ≤ x ∧ x ≤ 30000000 ∧ W0 = Vv g (most * per) (q * per) per t x) :
    ∃ r, iterF (fun x : Int × Int => ref30_Of_L2 N g per most q out out[i] out[i] out[i] x.1 x.2) N (W0, 0) = some r ∧ (∃ t x, 0 ≤ x ∧ x ≤ 30000000 ∧ r.1 = Vv g (most * per) (q * per) per t x) ∧ W0 ≤ r.1 ∧ ∀ k, k < 2 * out.length → cF (out.map prO) g.Cycle (most * per) i < cT (out.map prO) g.Cycle (most * per) k → Vv g (most * per) (q * per) per (cF (out.map prO) g.Cycle (most * per) i) (cT (out.map prO) g.Cycle (most * per) k - cF (out.map prO) g.Cycle (most * per) i) ≤ r.1 := by
  have hcy := hg.cyc
  have hL := mul_bounds hp hm
  have hR0 : 0 ≤ q * per := Int.mul_nonneg (by omega) (by omega)
  generalize hlm : out.map prO = l at *
  have hlen : l.length = out.length := by rw [← hlm]; simp
  have hn : 0 < l.length := by omega
  have hP := hr.toPer hg
  have hx : l[i]? = some (prO out[i]) := by rw [← hlm, List.getElem?_map, List.getElem?_eq_getElem hi]; rfl
  have hB : rB l g.Cycle i = out[i].Begin := by unfold rB; rw [Nat.mod_eq_of_lt (by omega), hx, Nat.div_eq_of_lt (by omega)]; simp [prO]
  have hE : rE l g.Cycle i = out[i].End := by unfold rE; rw [Nat.mod_eq_of_lt (by omega), hx, Nat.div_eq_of_lt (by omega)]; simp [prO]
  have oi := (hP.open_ hn i).1
  have bi := hr.bnd hg hn (m := i) (by omega)
  have hmi := mi_bnd (a := most * per) (b := rE l g.Cycle i - rB l g.Cycle i) hL.1 (by omega)
  have hcF : 0 ≤ cF l g.Cycle (most * per) i ∧ cF l g.Cycle (most * per) i ≤ 3 * g.Cycle := by unfold cF; omega
  have vb : ∀ t x, 0 ≤ x → x ≤ 30000000 → -100000000000000 ≤ Vv g (most * per) (q * per) per t x ∧ Vv g (most * per) (q * per) per t x ≤ 100000000000000 := fun t x x0 x1 => by
    have hgb := gets_bound (g := g) (most * per) t x hL.1 x0
    have a := Int.mul_nonneg x0 hR0
    have b := Int.mul_le_mul x1 hqp hR0 (by omega)
    unfold Vv
    omega
  refine iterF_of (fun z : Int × Int => ∃ k : Nat, z.2 = (k : Int) ∧ k ≤ 2 * l.length ∧ (∃ t x, 0 ≤ x ∧ x ≤ 30000000 ∧ z.1 = Vv g (most * per) (q * per) per t x) ∧ W0 ≤ z.1 ∧ ∀ k', k' < k → cF l g.Cycle (most * per) i < cT l g.Cycle (most * per) k' → Vv g (most * per) (q * per) per (cF l g.Cycle (most * per) i) (cT l g.Cycle (most * per) k' - cF l g.Cycle (most * per) i) ≤ z.1) (fun z => 2 * l.length - z.2.toNat) _ (fun z hz => ?_) N (W0, 0) ⟨0, rfl, by omega, h0, Int.le_refl _, fun k' h => by omega⟩ (by simp; omega)
  obtain ⟨W, kk⟩ := z
  obtain ⟨k, e1, e2, e3, e4, e5⟩ := hz
  simp only at e1 e3 e4 e5 ⊢
  subst e1
  unfold ref30_Of_L2
  rw [w64_id (x := 2 * (out.length : Int)) (by omega) (by omega)]
  by_cases hk : k < 2 * l.length
  · left
    have hkm := Nat.mod_lt k hn
    have hkm' : k % out.length < out.length := by rw [← hlen]; exact hkm
    have bj := hr.bnd hg hn hk
    have oj := (hP.open_ hn k).1
    have hz : l[k % l.length]? = some (prO out[k % out.length]) := by rw [hlen, ← hlm, List.getElem?_map, List.getElem?_eq_getElem hkm']; rfl
    have hBj : rB l g.Cycle k = out[k % out.length].Begin + ((k / l.length : Nat) : Int) * g.Cycle := by unfold rB; rw [hz]; rfl
    have hEj : rE l g.Cycle k = out[k % out.length].End + ((k / l.length : Nat) : Int) * g.Cycle := by unfold rE; rw [hz]; rfl
    have hzm := runs_mem hr.runs _ (List.mem_of_getElem? hz)
    simp only [prO] at hzm
    have hlo := hr.lo
    have hhi := hr.hi
    have hmj := mi_bnd (a := most * per) (b := rE l g.Cycle k - rB l g.Cycle k) hL.1 (by omega)
    have hcT : 0 ≤ cT l g.Cycle (most * per) k ∧ cT l g.Cycle (most * per) k ≤ 3 * g.Cycle := by unfold cT; omega
    have hdc : 0 ≤ ((k / l.length : Nat) : Int) * g.Cycle ∧ ((k / l.length : Nat) : Int) * g.Cycle ≤ g.Cycle := by
      rcases div01 hk with w | w
      · rw [w, Int.natCast_zero, Int.zero_mul]; omega
      · rw [w, Int.natCast_one, Int.one_mul]; omega
    have hdq : 0 ≤ ((k / l.length : Nat) : Int) ∧ ((k / l.length : Nat) : Int) ≤ 1 := by
      rcases div01 hk with w | w <;> rw [w] <;> simp
    rw [if_pos (by simp only [decide_eq_true_eq]; omega), remI_pos (by omega), Option.bind_some, Int.tmod_eq_emod_of_nonneg (by omega), show (k : Int) % (out.length : Int) = ((k % out.length : Nat) : Int) by omega, idx_nat, List.getElem?_eq_getElem hkm', Option.bind_some, quoI_pos (by omega), Option.bind_some, Int.tdiv_eq_ediv_of_nonneg (by omega), show (k : Int) / (out.length : Int) = ((k / l.length : Nat) : Int) by rw [hlen]; rfl]
    have hwq : IntKind.i64.wrap (((k / l.length : Nat) : Int)) = ((k / l.length : Nat) : Int) := w64_id (by omega) (by omega)
    have hlj : w64 (out[k % out.length].End - out[k % out.length].Begin) = rE l g.Cycle k - rB l g.Cycle k := by rw [w64_id (by omega) (by omega)]; omega
    have hli : w64 (out[i].End - out[i].Begin) = rE l g.Cycle i - rB l g.Cycle i := by rw [w64_id (by omega) (by omega)]; omega
    rw [hwq, w64_id (x := most * per) (by omega) (by omega), hlj, hli, mi_def, mi_def]
    have hto : w64 (w64 (out[k % out.length].Begin + mi (most * per) (rE l g.Cycle k - rB l g.Cycle k)) + w64 (((k / l.length : Nat) : Int) * g.Cycle)) = cT l g.Cycle (most * per) k := by
      rw [w64_id (x := out[k % out.length].Begin + _) (by omega) (by omega), w64_id (x := ((k / l.length : Nat) : Int) * g.Cycle) (by omega) (by omega), w64_id (by omega) (by omega)]
      unfold cT
      omega
    have hfr : w64 (out[i].End - mi (most * per) (rE l g.Cycle i - rB l g.Cycle i)) = cF l g.Cycle (most * per) i := by
      rw [w64_id (by omega) (by omega)]
      unfold cF
      omega
    rw [hto, hfr]
    by_cases hgt : cF l g.Cycle (most * per) i < cT l g.Cycle (most * per) k
    · have hx0 : 0 ≤ cT l g.Cycle (most * per) k - cF l g.Cycle (most * per) i ∧ cT l g.Cycle (most * per) k - cF l g.Cycle (most * per) i ≤ 30000000 := by omega
      have hV := vb (cF l g.Cycle (most * per) i) _ hx0.1 hx0.2
      have hgb := gets_bound (g := g) (most * per) (cF l g.Cycle (most * per) i) _ hL.1 hx0.1
      have hxq : 0 ≤ (cT l g.Cycle (most * per) k - cF l g.Cycle (most * per) i) * q ∧ (cT l g.Cycle (most * per) k - cF l g.Cycle (most * per) i) * q ≤ 30000000 * 1048576 := ⟨Int.mul_nonneg hx0.1 hq.1, Int.mul_le_mul hx0.2 hq.2 hq.1 (by omega)⟩
      have hxR : 0 ≤ (cT l g.Cycle (most * per) k - cF l g.Cycle (most * per) i) * (q * per) ∧ (cT l g.Cycle (most * per) k - cF l g.Cycle (most * per) i) * (q * per) ≤ 30000000 * 1048576 := ⟨Int.mul_nonneg hx0.1 hR0, Int.mul_le_mul hx0.2 hqp hR0 (by omega)⟩
      have hVe : w64 (w64 (w64 (w64 (cT l g.Cycle (most * per) k - cF l g.Cycle (most * per) i) * q) * per) - w64 ((gets g (most * per) (cF l g.Cycle (most * per) i) (cT l g.Cycle (most * per) k - cF l g.Cycle (most * per) i) - 127 * per) * 1048576)) = Vv g (most * per) (q * per) per (cF l g.Cycle (most * per) i) (cT l g.Cycle (most * per) k - cF l g.Cycle (most * per) i) := by
        rw [w64_id (x := cT l g.Cycle (most * per) k - cF l g.Cycle (most * per) i) (by omega) (by omega), w64_id (x := (cT l g.Cycle (most * per) k - cF l g.Cycle (most * per) i) * q) (by omega) (by omega), Int.mul_assoc, w64_id (x := (cT l g.Cycle (most * per) k - cF l g.Cycle (most * per) i) * (q * per)) (by omega) (by omega), w64_id (x := (gets g (most * per) _ _ - 127 * per) * 1048576) (by omega) (by omega)]
        exact w64_id (x := Vv g (most * per) (q * per) per (cF l g.Cycle (most * per) i) (cT l g.Cycle (most * per) k - cF l g.Cycle (most * per) i)) (by omega) (by omega)
      refine ⟨((if Vv g (most * per) (q * per) per (cF l g.Cycle (most * per) i) (cT l g.Cycle (most * per) k - cF l g.Cycle (most * per) i) > W then Vv g (most * per) (q * per) per (cF l g.Cycle (most * per) i) (cT l g.Cycle (most * per) k - cF l g.Cycle (most * per) i) else W), ((k + 1 : Nat) : Int)), ?_, ⟨k + 1, rfl, by omega, ?_, ?_, fun k' h' hc' => ?_⟩, by simp only; omega⟩
      · rw [if_pos (by simpa using hgt), least_eq hN hg hp hm (by omega) (by rw [w64_id (by omega) (by omega)]; omega), Option.bind_some]
        rw [w64_id (x := cT l g.Cycle (most * per) k - cF l g.Cycle (most * per) i) (by omega) (by omega)] at hVe ⊢
        rw [hVe, Option.bind_some, w64_id (x := (k : Int) + 1) (by omega) (by omega)]
        rfl
      · split
        · exact ⟨_, _, hx0.1, hx0.2, rfl⟩
        · exact e3
      · simp only; split <;> omega
      · simp only
        rcases Nat.lt_or_ge k' k with w | w
        · have := e5 k' w hc'
          split <;> omega
        · rw [show k' = k by omega]
          split <;> omega
    · refine ⟨(W, ((k + 1 : Nat) : Int)), ?_, ⟨k + 1, rfl, by omega, e3, e4, fun k' h' hc' => ?_⟩, by simp only; omega⟩
      · rw [if_neg (by simpa using hgt), Option.bind_some, w64_id (x := (k : Int) + 1) (by omega) (by omega)]
        rfl
      · rcases Nat.lt_or_ge k' k with w | w
        · exact e5 k' w hc'
        · rw [show k' = k by omega] at hc'; exact absurd hc' hgt
  · right
    refine ⟨(W, (k : Int)), ?_, e3, e4, fun k' h' => e5 k' (by omega)⟩
    rw [if_neg (by simp only [decide_eq_true_eq]; omega)]

theorem ceil_ok {R W : Int} (hR : 0 < R) : ((W + R - 1) / R - 1) * R < W ∧ W ≤ (W + R - 1) / R * R := by
  have hd := Int.mul_ediv_add_emod (W + R - 1) R
  have h0 := Int.emod_nonneg (W + R - 1) (show R ≠ 0 by omega)
  have h1 := Int.emod_lt_of_pos (W + R - 1) hR
  rw [Int.mul_comm R] at hd
  rw [Int.sub_mul]
  omega

theorem ref_of_eq {N : Nat} (hN : 60000000 ≤ N) {g : api_Gates} (hg : VG g) {per most : Int} (hp : 1 ≤ per ∧ per ≤ 1000) (hm : 84 ≤ most ∧ most ≤ 1542) {q : Int} (hq : q = Yl g (most * per) * 1048576 / (g.Cycle * per)) :
    (q < 1 → ref30_Of N g per most = some (⟨0, 0⟩, 4)) ∧ (1 ≤ q → ∃ Lat, IsLat g (most * per) (q * per) per Lat ∧ ref30_Of N g per most = some (⟨q, Lat⟩, 0)) := by
  have hL := mul_bounds hp hm
  have hcy := hg.cyc
  have hy := Yl_bound hg (most * per)
  obtain ⟨q0, q1, q2, q3, q4, q5⟩ := rate_facts hg hp hq
  have hcp : 0 < g.Cycle * per ∧ g.Cycle * per ≤ 9600000000 := ⟨Int.mul_pos (by omega) (by omega), by have := Int.mul_le_mul hcy.2 hp.2 (by omega) (by omega); omega⟩
  have herr : errA g per most = 0 := by unfold errA; rw [if_pos hg, if_pos (by omega)]
  unfold ref30_Of
  rw [(check30_eq (by omega) g per most).2, herr, Option.bind_some, if_neg (by simp), gives_eq (by omega) hg hp hm, Option.bind_some, show (if aoB g = true then g.Cycle else yld g (most * per)) = Yl g (most * per) from rfl, w64_id (x := Yl g (most * per) * 1048576) (by omega) (by omega), w64_id (x := g.Cycle * per) (by omega) (by omega), quoI_pos (by omega), Option.bind_some, Int.tdiv_eq_ediv_of_nonneg (by omega), ← hq]
  have hwq : IntKind.i64.wrap q = q := w64_id (by omega) (by omega)
  rw [hwq]
  refine ⟨fun h => by rw [if_pos (by simpa using h)], fun h => ?_⟩
  have hR : 0 < q * per ∧ q * per ≤ 1048576 := ⟨Int.mul_pos (by omega) (by omega), q5⟩
  rw [if_neg (by simp; omega), ref30_Always_eq (by omega) hg, Option.bind_some, w64_id (x := 127 * per) (by omega) (by omega), w64_id (x := 127 * per * 1048576) (by omega) (by omega), w64_id (x := q * per) (by omega) (by omega)]
  -- the last division
  have fin : ∀ W, 0 ≤ W → W ≤ 100000000000000 → (quoI .i64 (w64 (w64 (W + q * per) - 1)) (q * per)).bind (fun q2027 => some (api_Serve.mk q q2027, (0 : Int))) = some (api_Serve.mk q ((W + q * per - 1) / (q * per)), 0) := fun W w0 w1 => by
    rw [w64_id (x := W + q * per) (by omega) (by omega), w64_id (by omega) (by omega), quoI_pos (by omega), Option.bind_some, Int.tdiv_eq_ediv_of_nonneg (by omega)]
    have hb0 := Int.ediv_nonneg (show 0 ≤ W + q * per - 1 by omega) (show 0 ≤ q * per by omega)
    have hb1 : (W + q * per - 1) / (q * per) ≤ W + q * per - 1 := Int.ediv_le_self _ (by omega)
    have : IntKind.i64.wrap ((W + q * per - 1) / (q * per)) = (W + q * per - 1) / (q * per) := w64_id (by omega) (by omega)
    rw [this]
  cases hao : aoB g with
  | true =>
    simp only [Bool.not_true, Bool.false_eq_true, if_false, Option.bind_some]
    refine ⟨_, ?_, fin _ (by omega) (by omega)⟩
    have := ceil_ok (R := q * per) (W := 127 * per * 1048576) hR.1
    exact isLat_ao hg hao hL.1 hR this.1 this.2
  | false =>
    obtain ⟨c, e, h1, h2, h3⟩ := closed_first hao
    obtain ⟨out, o1, o2⟩ := round_law (N := N) (by omega) hg h1 h2 h3
    have hc := (List.getElem?_eq_some_iff.1 h1).1
    have heo := okE_iff.1 (hg.ok e (List.mem_of_getElem? h1))
    have hs := hg.2.2.2.1
    have t0 := take_mono hg.ok (i := 0) (j := c) (by omega)
    have t1 := take_mono hg.ok (i := c + 1) (j := g.Entries.length) (by omega)
    have t2 := take_sum h1
    rw [List.take_length] at t1
    simp only [List.take_zero, sumL] at t0
    have hat : AtE g.Entries (sumL (g.Entries.take c)) c e 0 := ⟨h1, by omega, by omega, by rw [Int.emod_eq_of_lt (by omega) (by omega)]; omega⟩
    have hcl : op6 g (sumL (g.Entries.take c)) = false := by rw [op6_in hg hat (u := sumL (g.Entries.take c)) (by omega) (by omega), h2]
    have hr : Rnd g (sumL (g.Entries.take c)) (out.map prO) := ⟨by omega, by omega, hcl, o2⟩
    have hlen := runs_length (by omega) o2
    rw [List.length_map] at hlen
    simp only [Bool.not_false, if_true]
    rw [o1, Option.bind_some]
    obtain ⟨r, i1, i2, i3, i4⟩ := iterF_of (body := fun x : Int × Int => ref30_Of_L1 N g per most q out x.1 x.2) (fun z : Int × Int => ∃ i : Nat, z.2 = (i : Int) ∧ i ≤ out.length ∧ (∃ t x, 0 ≤ x ∧ x ≤ 30000000 ∧ z.1 = Vv g (most * per) (q * per) per t x) ∧ 127 * per * 1048576 ≤ z.1 ∧ ∀ i' k, i' < i → k < 2 * out.length → cF (out.map prO) g.Cycle (most * per) i' < cT (out.map prO) g.Cycle (most * per) k → Vv g (most * per) (q * per) per (cF (out.map prO) g.Cycle (most * per) i') (cT (out.map prO) g.Cycle (most * per) k - cF (out.map prO) g.Cycle (most * per) i') ≤ z.1) (fun z => out.length - z.2.toNat)
      (fun r => (∃ t x, 0 ≤ x ∧ x ≤ 30000000 ∧ r.1 = Vv g (most * per) (q * per) per t x) ∧ 127 * per * 1048576 ≤ r.1 ∧ ∀ i' k, i' < out.length → k < 2 * out.length → cF (out.map prO) g.Cycle (most * per) i' < cT (out.map prO) g.Cycle (most * per) k → Vv g (most * per) (q * per) per (cF (out.map prO) g.Cycle (most * per) i') (cT (out.map prO) g.Cycle (most * per) k - cF (out.map prO) g.Cycle (most * per) i') ≤ r.1) (fun z hz => by
      obtain ⟨W, ii⟩ := z
      obtain ⟨i, e1, e2, e3, e4, e5⟩ := hz
      simp only at e1 e3 e4 e5 ⊢
      subst e1
      unfold ref30_Of_L1
      by_cases hi : i < out.length
      · left
        obtain ⟨o, p1, p2, p3, p4⟩ := ref_inner hN hg hr (by omega) hp hm ⟨q0, q1⟩ q5 hi W e3
        refine ⟨(o.1, ((i + 1 : Nat) : Int)), ?_, ⟨i + 1, rfl, by omega, p2, by simp only; omega, fun i' k hi' hk hc' => ?_⟩, by simp only; omega⟩
        · rw [if_pos (by simpa using hi), idx_nat, List.getElem?_eq_getElem hi, Option.bind_some, Option.bind_some, Option.bind_some, p1, Option.bind_some, w64_id (by omega) (by omega)]
          rfl
        · rcases Nat.lt_or_ge i' i with w | w
          · have := e5 i' k w hk hc'
            simp only
            omega
          · rw [show i' = i by omega] at hc' ⊢; exact p4 k hk hc'
      · right
        refine ⟨(W, (i : Int)), ?_, e3, e4, fun i' k hi' hk hc' => e5 i' k (by omega) hk hc'⟩
        rw [if_neg (by simp; omega)]) N (127 * per * 1048576, 0) ⟨0, rfl, by omega, ⟨0, 0, by omega, by omega, by rw [Vv_zero hL.1]⟩, Int.le_refl _, fun i' k h => by omega⟩ (by simp; omega)
    rw [i1, Option.bind_some, Option.bind_some]
    obtain ⟨t, x, x0, x1, hV⟩ := i2
    have hb : r.1 ≤ 100000000000000 := by
      have hgb := gets_bound (g := g) (most * per) t x hL.1 x0
      have b := Int.mul_le_mul x1 q5 (by omega) (by omega)
      rw [hV]
      unfold Vv
      omega
    refine ⟨_, ?_, fin _ (by omega) hb⟩
    have hce := ceil_ok (R := q * per) (W := r.1) hR.1
    refine isLat_cand hg hao hr hL.1 hR q4 ⟨t, x, x0, x1, by rw [← hV]; exact hce.1⟩ (fun i k hi hk => ?_)
    rw [List.length_map] at hi hk
    have := i4 i (i + k + 1) hi (by omega) ((cand_cnt (hr.toPer hg) (by rw [List.length_map]; omega) hL.1 i k).2)
    omega

theorem of_same {N : Nat} (hN : 60000000 ≤ N) (g : api_Gates) (per most : Int) : ∃ r, service_Of N g per most = some r ∧ ref30_Of N g per most = some r := by
  by_cases h : errA g per most = 0
  · obtain ⟨hg, hp, hm⟩ := errA_zero h
    obtain ⟨a1, a2⟩ := of_eq (N := N) (by omega) hg hp hm rfl
    obtain ⟨b1, b2⟩ := ref_of_eq hN hg hp hm rfl
    generalize Yl g (most * per) * 1048576 / (g.Cycle * per) = q at *
    rcases Int.lt_or_le q 1 with w | w
    · exact ⟨_, a1 w, b1 w⟩
    · obtain ⟨l1, c1, c2⟩ := a2 w
      obtain ⟨l2, d1, d2⟩ := b2 w
      have := IsLat_unique (Int.mul_pos (by omega) (by omega)) c1 d1
      subst this
      exact ⟨_, c2, d2⟩
  · refine ⟨(⟨0, 0⟩, errA g per most), ?_, ?_⟩
    · unfold service_Of
      rw [(check30_eq (by omega) g per most).1]
      simp [h]
    · unfold ref30_Of
      rw [(check30_eq (by omega) g per most).2]
      simp [h]

theorem serviceRates_true (d : ref30_Draft) (g : api_Gates) (per most : Int) (hd : Rg_ref30_Draft d) (hg : Rg_api_Gates g) (hp : InK .i64 per) (hm : InK .i64 most) : ∃ N, law30_ServiceRates N d g per most = some true := by
  refine ⟨60000000, ?_⟩
  obtain ⟨x, hx, _⟩ := draft30 (N := 60000000) (by decide) hd
  obtain ⟨y, hy⟩ := few_ex 60000000 g
  obtain ⟨Y, hY⟩ := pick3 (f := service_Of 60000000) (g := ref30_Of 60000000) fun g p m => of_same (by decide) g p m
  unfold law30_ServiceRates
  simp only [hx, hy, fun g p m => (hY g p m).1, fun g p m => (hY g p m).2, Option.bind_some, bne_self_eq_false, beq_self_eq_true, Bool.and_self, Bool.not_true, Bool.or_self, Bool.false_eq_true, if_false, works30]
end Go.Sh
