/- The outright laws of the service. -/
import Derived.Test.YtcbolnjnhiaiiaaSer10
namespace Go.Sh
open Go Go.Eng
set_option linter.unusedVariables false
set_option linter.unusedSimpArgs false

theorem open_facts {N : Nat} (hN : 200 ≤ N) {g : api_Gates} (hg : VG g) {t : Int} (ht : -1099511627776 ≤ t ∧ t ≤ 1099511627776) :
    ∃ k, gates_Open N g 6 t = some (k, 0) ∧ 0 ≤ k ∧ k ≤ 1099511627776 ∧ (k = 0 → op6 g t = false) ∧ (k ≠ 0 → ∀ u, t ≤ u → u < t + k → op6 g u = true) := by
  have hcy := hg.cyc
  have hs := hg.2.2.2.1
  obtain ⟨r, hr⟩ := IsSt_exists hg (bitB 6) t
  refine ⟨opn g.Cycle r, ?_, ?_⟩
  · unfold gates_Open
    rw [gates_check_eq hN, errS_ok hg (by omega) ht (by omega), Option.bind_some, if_neg (by simp), gates_open_eq hN hg (by omega) hr]
    rfl
  · unfold opn
    by_cases hc : r = g.Cycle
    · rw [if_pos hc]
      rcases hr with ⟨a, b⟩ | ⟨a, b, _⟩
      · refine ⟨by omega, by omega, fun h => by omega, fun _ u _ _ => ?_⟩
        obtain ⟨e, he, hm⟩ := mAt_mem hg.ok hg.1 u
        unfold op6
        rw [hm]
        exact b e he
      · omega
    · rw [if_neg hc]
      rcases hr with ⟨a, b⟩ | ⟨a, b, c, d⟩
      · omega
      · refine ⟨a, by omega, fun h => ?_, fun _ u u0 u1 => ?_⟩
        · subst h
          rw [Int.add_zero] at d
          exact d
        · have := c (u - t) (by omega) (by omega)
          rw [show t + (u - t) = u by omega] at this
          exact this

theorem turn_facts {N : Nat} (hN : 200 ≤ N) {g : api_Gates} (hg : VG g) {t : Int} (ht : -1099511627776 ≤ t ∧ t ≤ 1099511627776) :
    (gates_Turn N g t = some (0, 4) ∧ ∀ u, mAt g.Entries u = mAt g.Entries t) ∨ ∃ r, gates_Turn N g t = some (r, 0) ∧ t < r ∧ r < t + g.Cycle ∧ (∀ u, t ≤ u → u < r → mAt g.Entries u = mAt g.Entries t) ∧ mAt g.Entries r ≠ mAt g.Entries t := by
  have hcy := hg.cyc
  have hs := hg.2.2.2.1
  obtain ⟨i, e, s, ha⟩ := AtE_exists hg.ok hg.1 t
  obtain ⟨q, hq⟩ := IsSt_exists hg (fun m => m == e.Mask) t
  have hq2 : 0 ≤ q ∧ q ≤ 9600000 := by
    rcases hq with ⟨a, _⟩ | ⟨a, b, _⟩ <;> omega
  have hmt := mAt_eq hg.ok ha
  have heq : gates_Turn N g t = some (trn g.Cycle t q) := by
    unfold gates_Turn
    rw [gates_check_eq hN, errS_ok hg (by omega) ht (by omega), Option.bind_some, if_neg (by simp), gates_find_eq hN hg ha, Option.bind_some]
    simp only
    rw [idx_some ha.1, Option.bind_some, gates_stretch_eq hN hg (p := fun m => m == e.Mask) (fun _ _ => rfl) hq, Option.bind_some, w64_id (by omega) (by omega)]
    unfold trn
    by_cases hqC : q = g.Cycle <;> simp [hqC]
  rw [heq, hmt]
  unfold trn
  by_cases hqC : q = g.Cycle
  · left
    rw [if_pos hqC]
    refine ⟨rfl, fun u => ?_⟩
    rcases hq with ⟨a, b⟩ | ⟨a, b, _⟩
    · obtain ⟨f, hf, hm⟩ := mAt_mem hg.ok hg.1 u
      rw [hm]
      simpa using b f hf
    · omega
  · right
    rw [if_neg hqC]
    rcases hq with ⟨a, b⟩ | ⟨a, b, c, d⟩
    · omega
    · have hq0 : q ≠ 0 := fun h => by
        subst h
        rw [Int.add_zero, hmt] at d
        simp at d
      refine ⟨t + q, rfl, by omega, by omega, fun u u0 u1 => ?_, by simpa using d⟩
      have := c (u - t) (by omega) (by omega)
      rw [show t + (u - t) = u by omega] at this
      simpa using this

theorem arg_p {a : Int} (h : InK .u8 a) : ∃ p, w64 (1 + w64 (a.tmod 5)) = p ∧ 1 ≤ p ∧ p ≤ 5 := by
  have h := h.u8
  have t1 : a.tmod 5 = a % 5 := Int.tmod_eq_emod_of_nonneg h.1
  rw [t1, w64_id (x := a % 5) (by omega) (by omega), w64_id (by omega) (by omega)]
  exact ⟨_, rfl, by omega, by omega⟩

theorem arg_m {a : Int} (h : InK .u8 a) : ∃ m, w64 (84 + w64 a) = m ∧ 84 ≤ m ∧ m ≤ 339 := by
  have h := h.u8
  rw [w64_id (x := a) (by omega) (by omega), w64_id (by omega) (by omega)]
  exact ⟨_, rfl, by omega, by omega⟩

noncomputable def snd (g : api_Gates) (L per t lg : Int) : Int := if gets g L t lg - 127 * per > 0 then gets g L t lg - 127 * per else 0

theorem law_sends {N : Nat} (hN : 60000000 ≤ N) {g : api_Gates} (hg : VG g) {per most t lg : Int} (hp : 1 ≤ per ∧ per ≤ 1000) (hm : 84 ≤ most ∧ most ≤ 1542) (ht : -1099511627776 ≤ t ∧ t ≤ 1099511627776) (hl : 0 ≤ lg ∧ lg ≤ 4 * g.Cycle) :
    law30_sends N g per most t lg = some (snd g (most * per) per t lg) ∧ 0 ≤ snd g (most * per) per t lg ∧ snd g (most * per) per t lg ≤ lg := by
  have hL := mul_bounds hp hm
  have hgb := gets_bound (g := g) (most * per) t lg hL.1 hl.1
  refine ⟨?_, ?_, ?_⟩
  · unfold law30_sends
    rw [sends_eq hN hg hp hm ht hl]
    rfl
  · unfold snd; split <;> omega
  · unfold snd; split <;> omega

theorem lat_bound {g : api_Gates} {L q per Lat : Int} (hL : 0 ≤ L) (hp : 1 ≤ per) (hq : 1 ≤ q) (h : IsLat g L (q * per) per Lat) : 133169152 ≤ Lat * q ∧ 0 < Lat ∧ Lat ≤ 163169153 := by
  have hR : 0 < q * per := Int.mul_pos (by omega) (by omega)
  have h1 := h.2 0 0 (Int.le_refl _)
  rw [Vv_zero hL, ← Int.mul_assoc] at h1
  have h2 : 133169152 ≤ Lat * q := by
    refine Int.le_of_mul_le_mul_right (a := per) ?_ (by omega)
    omega
  have h3 : 0 < Lat := by
    rcases Int.lt_or_le 0 Lat with w | w
    · exact w
    · have := Int.mul_nonneg (show 0 ≤ -Lat by omega) (show 0 ≤ q by omega)
      rw [Int.neg_mul] at this
      omega
  refine ⟨h2, h3, ?_⟩
  obtain ⟨t, x, x0, x1, hx⟩ := h.1
  have hgb := gets_bound (g := g) L t x hL x0
  unfold Vv at hx
  have h4 := Int.mul_le_mul_of_nonneg_right hq (show 0 ≤ per by omega)
  have h5 : (Lat - 1) * (q * per) < (x + 133169152) * (q * per) := by
    rw [Int.add_mul]
    omega
  have := Int.lt_of_mul_lt_mul_right h5 (by omega)
  omega

theorem remR {a b : Int} (ha : 0 ≤ a) (hb : 0 < b) : ∃ m, remI a b = some m ∧ 0 ≤ m ∧ m < b := by
  rw [remI_pos (by omega), Int.tmod_eq_emod_of_nonneg ha]
  exact ⟨_, rfl, Int.emod_nonneg _ (by omega), Int.emod_lt_of_pos _ hb⟩

theorem holds_one {g : api_Gates} {L q per Lat t x : Int} (hL : 0 ≤ L) (hp : 1 ≤ per ∧ per ≤ 1000) (hq : 1 ≤ q ∧ q ≤ 1048576) (hR : q * per ≤ 1048576) (h : IsLat g L (q * per) per Lat) (hx : 0 ≤ x ∧ x ≤ 30000000) (h0 : 0 ≤ snd g L per t x) (h1 : snd g L per t x ≤ x) :
    (decide (snd g L per t x < 0) || decide (w64 (snd g L per t x * 1048576) < w64 (w64 (q * per) * w64 (x - Lat)))) = false := by
  have hb := lat_bound hL hp.1 hq.1 h
  have hR0 : 0 < q * per := Int.mul_pos (by omega) (by omega)
  have hv := h.2 t x hx.1
  have e1 : q * per * (x - Lat) = x * (q * per) - Lat * (q * per) := by rw [Int.mul_comm, Int.sub_mul]
  have b1 : 0 ≤ x * (q * per) ∧ x * (q * per) ≤ 30000000 * 1048576 := ⟨Int.mul_nonneg hx.1 (by omega), Int.mul_le_mul hx.2 hR (by omega) (by omega)⟩
  have b2 : 0 ≤ Lat * (q * per) ∧ Lat * (q * per) ≤ 163169153 * 1048576 := ⟨Int.mul_nonneg (by omega) (by omega), Int.mul_le_mul hb.2.2 hR (by omega) (by omega)⟩
  rw [w64_id (x := q * per) (by omega) (by omega), w64_id (x := x - Lat) (by omega) (by omega), e1, w64_id (by omega) (by omega), w64_id (by omega) (by omega)]
  have : ¬ snd g L per t x * 1048576 < x * (q * per) - Lat * (q * per) := by
    unfold Vv at hv
    unfold snd
    split <;> omega
  simp only [Bool.or_eq_false_iff, decide_eq_false_iff_not]
  exact ⟨by omega, this⟩

theorem serviceHolds_true (d : ref30_Draft) (per most t lg : Int) (hd : Rg_ref30_Draft d) (hper : InK .u8 per) (hmost : InK .u8 most) (ht : InK .i16 t) (hlg : InK .u16 lg) : ∃ N, law30_ServiceHolds N d per most t lg = some true := by
  refine ⟨60000000, ?_⟩
  obtain ⟨g, hx, hg, hlen, hlong, hC⟩ := draft30 (N := 60000000) (by decide) hd
  have hcy := hg.cyc
  obtain ⟨p, ep, p1, p5⟩ := arg_p hper
  obtain ⟨m, em, m1, m2⟩ := arg_m hmost
  have hp : 1 ≤ p ∧ p ≤ 1000 := by omega
  have hm : 84 ≤ m ∧ m ≤ 1542 := by omega
  have hL := mul_bounds hp hm
  have ht1 := ht.i16
  have hl1 := hlg.u16
  unfold law30_ServiceHolds
  rw [works30, hx, ep, em]
  simp only [Option.bind_some, Bool.not_true, Bool.false_eq_true, if_false]
  obtain ⟨a1, a2⟩ := of_eq (N := 60000000) (by decide) hg hp hm rfl
  have rf := rate_facts hg (L := m * p) hp rfl
  generalize Yl g (m * p) * 1048576 / (g.Cycle * p) = q at *
  rcases Int.lt_or_le q 1 with w | w
  · rw [a1 w]; rfl
  obtain ⟨Lat, hLat, hof⟩ := a2 w
  have hb := lat_bound hL.1 hp.1 w hLat
  rw [hof, Option.bind_some, if_neg (by simp), w64_id (x := lg) (by omega) (by omega), w64_id (x := t) (by omega) (by omega), w64_id (x := 4 * g.Cycle) (by omega) (by omega), w64_id (x := 4 * g.Cycle + 1) (by omega) (by omega), w64_id (x := g.Cycle + 1) (by omega) (by omega)]
  obtain ⟨x1, r1, x10, x11⟩ := remR (a := lg) (b := 4 * g.Cycle + 1) (by omega) (by omega)
  obtain ⟨x2, r2, x20, x21⟩ := remR (a := lg) (b := g.Cycle + 1) (by omega) (by omega)
  obtain ⟨x3, r3, x30, x31⟩ := remR (a := lg.tmod 600) (b := g.Cycle + 1) (by rw [Int.tmod_eq_emod_of_nonneg (by omega)]; omega) (by omega)
  obtain ⟨s1, s1a, s1b⟩ := law_sends (N := 60000000) (by decide) hg (t := t) (lg := x1) hp hm (by omega) (by omega)
  obtain ⟨s2, s2a, s2b⟩ := law_sends (N := 60000000) (by decide) hg (t := t) (lg := x2) hp hm (by omega) (by omega)
  obtain ⟨s3, s3a, s3b⟩ := law_sends (N := 60000000) (by decide) hg (t := t) (lg := x3) hp hm (by omega) (by omega)
  have o1 := holds_one (t := t) (x := x1) hL.1 hp ⟨w, rf.2.1⟩ rf.2.2.2.2.2 hLat (by omega) s1a s1b
  have o2 := holds_one (t := t) (x := x2) hL.1 hp ⟨w, rf.2.1⟩ rf.2.2.2.2.2 hLat (by omega) s2a s2b
  have o3 := holds_one (t := t) (x := x3) hL.1 hp ⟨w, rf.2.1⟩ rf.2.2.2.2.2 hLat (by omega) s3a s3b
  rw [r1, r2, r3]
  simp only [Option.bind_some]
  rw [s1, Option.bind_some, o1, s2, Option.bind_some, o2, s3, Option.bind_some, o3]
  have hcc : curve_Check 60000000 (api_Serve.mk q Lat) = some 0 := by
    unfold curve_Check
    rw [if_neg]
    have := rf.2.1
    simp only [Bool.or_eq_true, decide_eq_true_eq]
    omega
  have hlq : Lat * q ≤ 163169153 * 1048576 := Int.mul_le_mul hb.2.2 rf.2.1 (by omega) (by omega)
  simp only [Bool.false_eq_true, if_false, hcc, Option.bind_some]
  rw [w64_id (by omega) (by omega)]
  simp [hb.1]

theorem cnt_mono {q : Int → Bool} {a b c d : Int} (h1 : a ≤ b) (h2 : c ≤ d) : cnt q b c ≤ cnt q a d := by
  rcases Int.lt_or_le c b with w | w
  · rw [cnt_nil (by omega)]; exact cnt_nonneg _ _ _
  · have e1 := cnt_split (q := q) (x := a) (m := b) (y := d) h1 (by omega)
    have e2 := cnt_split (q := q) (x := b) (m := c) (y := d) w h2
    have := cnt_nonneg q a b
    have := cnt_nonneg q c d
    omega

theorem wt_open {p : Int → Bool} {L t : Int} (hL : 0 ≤ L) (h : wt p L t = true) : p t = true := by
  have := (wt_iff hL).1 h 0 (Int.le_refl _) hL
  rwa [Int.sub_zero] at this

theorem snd_mono {g : api_Gates} {L per a x b y : Int} (h : gets g L a x ≤ gets g L b y) : snd g L per a x ≤ snd g L per b y := by
  unfold snd; split <;> split <;> omega

theorem serviceGrows_true (d : ref30_Draft) (per most t lg : Int) (mo : Arr2_u8) (hd : Rg_ref30_Draft d) (hper : InK .u8 per) (hmost : InK .u8 most) (ht : InK .i16 t) (hlg : InK .u16 lg) (hmo : Rg_Arr2_u8 mo) : ∃ N, law30_ServiceGrows N d per most t lg mo = some true := by
  refine ⟨60000000, ?_⟩
  obtain ⟨g, hx, hg, hlen, hlong, hC⟩ := draft30 (N := 60000000) (by decide) hd
  have hcy := hg.cyc
  obtain ⟨p, ep, p1, p5⟩ := arg_p hper
  obtain ⟨m, em, m1, m2⟩ := arg_m hmost
  have hp : 1 ≤ p ∧ p ≤ 1000 := by omega
  have hm : 84 ≤ m ∧ m ≤ 1542 := by omega
  have hL := mul_bounds hp hm
  have ht1 := ht.i16
  have hl1 := hlg.u16
  have hm0 := hmo.1.u8
  have hm1 := hmo.2.u8
  unfold law30_ServiceGrows
  rw [works30, hx, ep, em, w64_id (x := lg) (by omega) (by omega), w64_id (x := t) (by omega) (by omega), w64_id (x := mo.x0) (by omega) (by omega), w64_id (x := mo.x1) (by omega) (by omega)]
  simp only [Option.bind_some, Bool.not_true, Bool.false_eq_true, if_false]
  rw [w64_id (x := g.Cycle + 1) (by omega) (by omega)]
  obtain ⟨n, r1, n0, n1⟩ := remR (a := lg) (b := g.Cycle + 1) (by omega) (by omega)
  obtain ⟨le, r2, l0, l1⟩ := remR (a := mo.x0) (b := g.Cycle + 1) (by omega) (by omega)
  obtain ⟨ri, r3, ri0, ri1⟩ := remR (a := mo.x1) (b := g.Cycle + 1) (by omega) (by omega)
  rw [r1, r2, r3]
  simp only [Option.bind_some]
  obtain ⟨s1, s1a, s1b⟩ := law_sends (N := 60000000) (by decide) hg (t := t) (lg := n) hp hm (by omega) (by omega)
  obtain ⟨s2, s2a, s2b⟩ := law_sends (N := 60000000) (by decide) hg (t := t - le) (lg := n + le) hp hm (by omega) (by omega)
  obtain ⟨s3, s3a, s3b⟩ := law_sends (N := 60000000) (by decide) hg (t := t) (lg := n + ri) hp hm (by omega) (by omega)
  obtain ⟨s4, s4a, s4b⟩ := law_sends (N := 60000000) (by decide) hg (t := t + g.Cycle) (lg := n) hp hm (by omega) (by omega)
  rw [s1, Option.bind_some]
  obtain ⟨o, o1, o2⟩ := iterF_of (body := fun x : Int × Int => law30_ServiceGrows_L1 60000000 t g n x.1 x.2) (fun z : Int × Int => t ≤ z.2 ∧ z.2 ≤ t + n + g.Cycle ∧ 0 ≤ z.1 ∧ z.1 ≤ z.2 - t ∧ z.1 + cnt (op6 g) z.2 (t + n) = cnt (op6 g) t (t + n)) (fun z => (t + n - z.2).toNat) (fun r => ∃ z : Int × Int, r = .inl z ∧ z.1 = cnt (op6 g) t (t + n)) (fun z hz => by
    obtain ⟨op, x⟩ := z
    obtain ⟨e1, e2, e3, e4, e5⟩ := hz
    simp only at e1 e2 e3 e4 e5 ⊢
    unfold law30_ServiceGrows_L1
    rw [w64_id (x := t) (by omega) (by omega), w64_id (x := t + n) (by omega) (by omega)]
    by_cases hc : x < t + n
    · left
      rw [if_pos (by simpa using hc)]
      obtain ⟨k, k1, k2, k3, k4, k5⟩ := open_facts (N := 60000000) (by decide) hg (t := x) (by omega)
      rw [k1, Option.bind_some, if_neg (by simp)]
      by_cases hk : k = 0
      · rw [if_pos (by simpa using hk)]
        have hcl := k4 hk
        rcases turn_facts (N := 60000000) (by decide) hg (t := x) (by omega) with ⟨t1, t2⟩ | ⟨r, t1, t2, t3, t4, t5⟩
        · rw [t1, Option.bind_some, if_pos (by simp), Option.bind_some]
          refine ⟨(op, t + n), rfl, ⟨by omega, by simp only; omega, e3, by simp only; omega, ?_⟩, by simp only; omega⟩
          simp only
          rw [cnt_nil (Int.le_refl _), ← e5, cnt_zero fun u u0 u1 => by
            show op6 g u = false
            unfold op6 at hcl ⊢
            rw [t2 u]; exact hcl]
        · rw [t1, Option.bind_some, if_neg (by simp), Option.bind_some]
          refine ⟨(op, r), rfl, ⟨by simp only; omega, by simp only; omega, e3, by simp only; omega, ?_⟩, by simp only; omega⟩
          simp only
          have hz : ∀ u, x ≤ u → u < r → op6 g u = false := fun u u0 u1 => by
            unfold op6 at hcl ⊢
            rw [t4 u u0 u1]; exact hcl
          rw [← e5]
          rcases Int.lt_or_le r (t + n) with w | w
          · rw [cnt_split (x := x) (m := r) (y := t + n) (by omega) (by omega), cnt_zero hz]; omega
          · rw [cnt_nil w, cnt_zero fun u u0 u1 => hz u u0 (by omega)]
      · rw [if_neg (by simpa using hk), w64_id (x := t + n - x) (by omega) (by omega)]
        have hmk : ∃ k', (if t + n - x < k then t + n - x else k) = k' ∧ 0 < k' ∧ k' ≤ k ∧ k' ≤ t + n - x := by
          split
          · exact ⟨_, rfl, by omega, by omega, by omega⟩
          · exact ⟨_, rfl, by omega, by omega, by omega⟩
        obtain ⟨k', kk, kk0, kk1, kk2⟩ := hmk
        rw [kk, w64_id (by omega) (by omega), w64_id (by omega) (by omega)]
        refine ⟨(op + k', x + k'), rfl, ⟨by simp only; omega, by simp only; omega, by simp only; omega, by simp only; omega, ?_⟩, by simp only; omega⟩
        simp only
        rw [← e5, cnt_split (x := x) (m := x + k') (y := t + n) (by omega) (by omega), cnt_full (x := x) (y := x + k') (by omega) fun u u0 u1 => k5 hk u u0 (by omega)]
        omega
    · right
      refine ⟨.inl (op, x), by rw [if_neg (by simpa using hc)], (op, x), rfl, ?_⟩
      rw [cnt_nil (by omega)] at e5
      simp only
      omega) 60000000 (0, t) ⟨by simp, by simp only; omega, by simp, by simp, by simp⟩ (by simp only; omega)
  obtain ⟨z, rfl, hz⟩ := o2
  rw [o1, Option.bind_some]
  simp only
  have g1 : gets g (m * p) t n ≤ cnt (op6 g) t (t + n) := by
    unfold gets
    cases hao : aoB g with
    | true =>
      rw [if_pos rfl, cnt_full (by omega) fun u _ _ => ao_open hg hao u]
      omega
    | false =>
      rw [if_neg (by simp)]
      have a := cnt_le (q := wt (op6 g) (m * p)) (q' := op6 g) (x := t + m * p) (y := t + n) fun u _ _ h => wt_open hL.1 h
      have b := cnt_mono (q := op6 g) (a := t) (b := t + m * p) (c := t + n) (d := t + n) (by omega) (by omega)
      omega
  have g2 : gets g (m * p) t n ≤ gets g (m * p) (t - le) (n + le) := by
    unfold gets
    cases hao : aoB g with
    | true => simp only [if_true]; omega
    | false => rw [if_neg (by simp), if_neg (by simp)]; exact cnt_mono (by omega) (by omega)
  have g3 : gets g (m * p) t n ≤ gets g (m * p) t (n + ri) := by
    unfold gets
    cases hao : aoB g with
    | true => simp only [if_true]; omega
    | false => rw [if_neg (by simp), if_neg (by simp)]; exact cnt_mono (by omega) (by omega)
  have g4 : gets g (m * p) (t + g.Cycle) n = gets g (m * p) t n := by
    unfold gets
    cases hao : aoB g with
    | true => rfl
    | false =>
      rw [if_neg (by simp), if_neg (by simp), show t + g.Cycle + m * p = t + m * p + g.Cycle by omega, show t + g.Cycle + n = t + n + g.Cycle by omega]
      exact cnt_shift (fun u => wt_per hg (m * p) u) _ _
  have c1 : snd g (m * p) p t n ≤ z.1 := by
    rw [hz]
    have := cnt_nonneg (op6 g) t (t + n)
    unfold snd
    split <;> omega
  have c4 : snd g (m * p) p (t + g.Cycle) n = snd g (m * p) p t n := by unfold snd; rw [g4]
  rw [if_pos (by simpa using s1a), if_pos (by simpa using c1), w64_id (x := t - le) (by omega) (by omega), w64_id (x := n + le) (by omega) (by omega), s2, Option.bind_some, if_pos (by simpa using snd_mono g2), w64_id (x := n + ri) (by omega) (by omega), s3, Option.bind_some, if_pos (by simpa using snd_mono g3), w64_id (x := t + g.Cycle) (by omega) (by omega), s4, Option.bind_some, c4]
  simp
end Go.Sh
