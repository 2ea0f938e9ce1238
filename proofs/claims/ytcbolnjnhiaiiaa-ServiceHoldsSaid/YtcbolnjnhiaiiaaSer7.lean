/- Every interval needs at most the latency that one of the candidates needs. -/
import Derived.Test.YtcbolnjnhiaiiaaSer6
namespace Go.Sh
open Go Go.Eng
set_option linter.unusedVariables false
set_option linter.unusedSimpArgs false

def hh (q : Int → Bool) (R U u v : Int) : Int := (v - u) * R - U * cnt q u v

theorem hh_split {q : Int → Bool} {R U u m v : Int} (h : u ≤ m) (h' : m ≤ v) : hh q R U u v = hh q R U u m + hh q R U m v := by
  unfold hh
  rw [cnt_split h h', Int.mul_add, show v - u = (m - u) + (v - m) by omega, Int.add_mul]
  omega

theorem hh_true {q : Int → Bool} {R U u v : Int} (hR : R ≤ U) (h : u ≤ v) (ht : ∀ t, u ≤ t → t < v → q t = true) : hh q R U u v ≤ 0 := by
  unfold hh
  rw [cnt_full h ht, Int.mul_comm U]
  have := Int.mul_le_mul_of_nonneg_left hR (show 0 ≤ v - u by omega)
  omega

theorem hh_false {q : Int → Bool} {R U u v : Int} (hR : 0 ≤ R) (h : u ≤ v) (ht : ∀ t, u ≤ t → t < v → q t = false) : 0 ≤ hh q R U u v := by
  unfold hh
  rw [cnt_zero ht]
  have := Int.mul_nonneg (show 0 ≤ v - u by omega) hR
  omega

theorem hh_shift {q : Int → Bool} {R U C : Int} (h : ∀ t, q (t + C) = q t) (k u v : Int) : hh q R U (u + k * C) (v + k * C) = hh q R U u v := by
  unfold hh
  rw [cnt_shift_k h]
  rw [show v + k * C - (u + k * C) = v - u by omega]

theorem hh_nil {q : Int → Bool} {R U u : Int} : hh q R U u u = 0 := by
  unfold hh
  rw [cnt_nil (Int.le_refl _)]
  simp

/-- The end of a run and the beginning of one, within a cycle after it. -/
theorem hh_ends {q : Int → Bool} {R U C Y : Int} (hC : 0 < C) (hq : ∀ t, q (t + C) = q t) (hR : 0 ≤ R) (hU : R ≤ U) (hY : ∀ u, cnt q u (u + C) = Y) (hd : R * C ≤ U * Y) {a : Int} (ha : q a = false) {b : Int} (hb : q b = true) {u v : Int} (huv : u ≤ v) :
    ∃ e s, q (e - 1) = true ∧ q e = false ∧ q (s - 1) = false ∧ q s = true ∧ e < s ∧ s ≤ e + C ∧ hh q R U u v ≤ hh q R U e s := by
  have far : ∀ (z : Int) (x : Int), (∃ t, x ≤ t ∧ q t = q z) ∧ (∃ t, t ≤ x ∧ q t = q z) := fun z x => by
    have h1 : ∀ d : Int, d ≤ (d.natAbs : Int) * C ∧ -d ≤ (d.natAbs : Int) * C := fun d => by
      have := Int.mul_le_mul_of_nonneg_left (show 1 ≤ C by omega) (show (0 : Int) ≤ d.natAbs by omega)
      omega
    refine ⟨⟨z + ((x - z).natAbs : Int) * C, ?_, per_k hq _ z⟩, ⟨z + (-((x - z).natAbs : Int)) * C, ?_, per_k hq _ z⟩⟩
    · have := h1 (x - z); omega
    · have := h1 (x - z); rw [Int.neg_mul]; omega
  -- the left end
  have step1 : ∃ e v', q (e - 1) = true ∧ q e = false ∧ e ≤ v' ∧ hh q R U u v ≤ hh q R U e v' := by
    cases hu : q u with
    | true =>
      obtain ⟨e, e1, e2, e3⟩ := nextC hu (by have := (far a u).1; rwa [ha] at this)
      have e4 : q (e - 1) = true := e3 _ (by omega) (by omega)
      rcases Int.lt_or_le v e with w | w
      · refine ⟨e, e, e4, e2, Int.le_refl _, ?_⟩
        rw [hh_nil]
        exact hh_true hU huv fun t t0 t1 => e3 t t0 (by omega)
      · refine ⟨e, v, e4, e2, w, ?_⟩
        rw [hh_split (m := e) (by omega) w]
        have := hh_true (q := q) hU (show u ≤ e by omega) e3
        omega
    | false =>
      obtain ⟨e, e1, e2, e3⟩ := prevC hu (by have := (far b u).2; rwa [hb] at this)
      refine ⟨e, v, e2, e3 e (Int.le_refl _) e1, by omega, ?_⟩
      rw [hh_split (u := e) (m := u) e1 huv]
      have := hh_false (q := q) (U := U) hR e1 fun t t0 t1 => e3 t t0 (by omega)
      omega
  obtain ⟨e, v', e1, e2, e3, e4⟩ := step1
  have step2 : ∃ s, q (s - 1) = false ∧ q s = true ∧ e < s ∧ hh q R U e v' ≤ hh q R U e s := by
    cases hv : q v' with
    | false =>
      obtain ⟨s, s1, s2, s3⟩ := nextC hv (by have := (far b v').1; rwa [hb] at this)
      refine ⟨s, s3 _ (by omega) (by omega), s2, by omega, ?_⟩
      rw [hh_split (v := s) (m := v') e3 (by omega)]
      have := hh_false (q := q) (U := U) hR (show v' ≤ s by omega) s3
      omega
    | true =>
      obtain ⟨s, s1, s2, s3⟩ := prevC hv (by have := (far a v').2; rwa [ha] at this)
      have hes : e < s := by
        rcases Int.lt_or_le e s with w | w
        · exact w
        · rw [s3 e w e3] at e2; cases e2
      refine ⟨s, s2, s3 s (Int.le_refl _) s1, hes, ?_⟩
      rw [hh_split (v := v') (m := s) (by omega) s1]
      have := hh_true (q := q) hU s1 fun t t0 t1 => s3 t t0 (by omega)
      omega
  obtain ⟨s, s1, s2, s3, s4⟩ := step2
  have step3 : ∀ n : Nat, ∀ s, (s - e).toNat = n → q (s - 1) = false → q s = true → e < s → ∃ s', q (s' - 1) = false ∧ q s' = true ∧ e < s' ∧ s' ≤ e + C ∧ hh q R U e s ≤ hh q R U e s' := by
    intro n
    induction n using Nat.strongRecOn with
    | ind n ih =>
      intro s hn s1 s2 s3
      rcases Int.lt_or_le (e + C) s with w | w
      · have p1 := hq (s - C - 1)
        have p2 := hq (s - C)
        rw [show s - C - 1 + C = s - 1 by omega] at p1
        rw [show s - C + C = s by omega] at p2
        obtain ⟨s', a1, a2, a3, a4, a5⟩ := ih (s - C - e).toNat (by omega) (s - C) rfl (by rw [← p1]; exact s1) (by rw [← p2]; exact s2) (by omega)
        refine ⟨s', a1, a2, a3, a4, ?_⟩
        rw [hh_split (v := s) (m := s - C) (by omega) (by omega)]
        have : hh q R U (s - C) s ≤ 0 := by
          have y := hY (s - C)
          rw [show s - C + C = s by omega] at y
          unfold hh
          rw [y, show s - (s - C) = C by omega, Int.mul_comm C]
          omega
        omega
      · exact ⟨s, s1, s2, s3, w, Int.le_refl _⟩
  obtain ⟨s', a1, a2, a3, a4, a5⟩ := step3 _ s rfl s1 s2 s3
  exact ⟨e, s', e1, e2, a1, a2, a3, a4, by omega⟩

/-- The least of two. -/
def mi (a b : Int) : Int := if a < b then a else b

theorem wt_gap {p : Int → Bool} {C a0 L : Int} {l : List (Int × Int)} (h : Per p C a0 l) (hn : 0 < l.length) (hL : 0 ≤ L) (m : Nat) {t : Int} (h0 : rE l C m ≤ t) (h1 : t < rB l C (m + 1) + L) : wt p L t = false := by
  have g := h.gap hn m
  rcases Int.lt_or_le t (rB l C (m + 1)) with w | w
  · exact wt_false hL (u := t) (by omega) (by omega) (g.2 t h0 w)
  · exact wt_false hL (u := rB l C (m + 1) - 1) (by omega) (by omega) (g.2 _ (by omega) (by omega))

theorem cnt_run {p : Int → Bool} {C a0 L : Int} {l : List (Int × Int)} (h : Per p C a0 l) (hn : 0 < l.length) (hL : 0 ≤ L) (m : Nat) : cnt (wt p L) (rE l C m) (rE l C (m + 1)) = f0 L (rE l C (m + 1) - rB l C (m + 1)) := by
  have g := h.gap hn m
  have o := h.open_ hn (m + 1)
  have g2 := h.gap hn (m + 1)
  have r := runs_one (p := p) (L := L) (a := rE l C m) (b := rE l C (m + 1)) (B := rB l C (m + 1)) (E := rE l C (m + 1)) hL (by omega) o.1 (Int.le_refl _) g.2 o.2 (fun h => by omega)
  rw [cnt_nil (x := rE l C (m + 1) + L) (by omega), Int.add_zero] at r
  rw [← r]
  rcases Int.lt_or_le (rE l C (m + 1)) (rE l C m + L) with w | w
  · rw [cnt_nil (x := rE l C m + L) (by omega)]
    exact cnt_zero fun t u v => wt_gap h hn hL m u (by omega)
  · rw [cnt_split (m := rE l C m + L) (by omega) w, cnt_zero (y := rE l C m + L) fun t u v => wt_gap h hn hL m u (by omega)]
    omega

/-- A candidate: from lost ticks before the end of run i until lost ticks after the beginning of run j. -/
def cF (l : List (Int × Int)) (C L : Int) (i : Nat) : Int := rE l C i - mi L (rE l C i - rB l C i)
def cT (l : List (Int × Int)) (C L : Int) (j : Nat) : Int := rB l C j + mi L (rE l C j - rB l C j)

theorem cand_cnt {p : Int → Bool} {C a0 L : Int} {l : List (Int × Int)} (h : Per p C a0 l) (hn : 0 < l.length) (hL : 0 ≤ L) (i k : Nat) : cnt (wt p L) (cF l C L i + L) (cT l C L (i + k + 1)) = cnt (wt p L) (rE l C i) (rE l C (i + k)) ∧ cF l C L i < cT l C L (i + k + 1) := by
  have g := h.gap hn i
  have gk := h.gap hn (i + k)
  have o := h.open_ hn (i + k + 1)
  have oi := h.open_ hn i
  have mo := h.mono hn i k
  have hf : rE l C i ≤ cF l C L i + L ∧ cF l C L i + L ≤ (if L ≤ rE l C i - rB l C i then rE l C i else rB l C i + L) := by unfold cF mi; split <;> split <;> omega
  have hf2 : cF l C L i ≤ rE l C i := by unfold cF mi; split <;> omega
  have ht : rB l C (i + k + 1) ≤ cT l C L (i + k + 1) ∧ cT l C L (i + k + 1) ≤ rB l C (i + k + 1) + L := by unfold cT mi; split <;> omega
  have z0 : cnt (wt p L) (rE l C (i + k)) (cT l C L (i + k + 1)) = 0 := cnt_zero fun t u v => wt_gap h hn hL (i + k) u (by omega)
  have zi : ∀ t, rE l C i ≤ t → t < cF l C L i + L → wt p L t = false := fun t u v => by
    split at hf
    · omega
    · exact wt_false hL (u := rE l C i) (by omega) u (g.2 _ (Int.le_refl _) g.1)
  refine ⟨?_, by omega⟩
  have tot : cnt (wt p L) (rE l C i) (cT l C L (i + k + 1)) = cnt (wt p L) (rE l C i) (rE l C (i + k)) := by
    rw [cnt_split (m := rE l C (i + k)) mo (by omega), z0]; omega
  rw [← tot]
  rcases Int.lt_or_le (cT l C L (i + k + 1)) (cF l C L i + L) with w | w
  · rw [cnt_nil (by omega), cnt_zero fun t u v => zi t u (by omega)]
  · rw [cnt_split (m := cF l C L i + L) (x := rE l C i) hf.1 w, cnt_zero (x := rE l C i) zi]
    omega

theorem cands {p : Int → Bool} {C a0 L R U Y : Int} {l : List (Int × Int)} (h : Per p C a0 l) (hL : 0 ≤ L) (hR : 0 < R) (hU : R ≤ U) (hY : ∀ u, cnt (wt p L) u (u + C) = Y) (hd : R * C ≤ U * Y) {t x : Int} (hx : 0 ≤ x) :
    ∃ i k, i < l.length ∧ k < l.length ∧ x * R - U * cnt (wt p L) (t + L) (t + x) ≤ (cT l C L (i + k + 1) - cF l C L i) * R - U * cnt (wt p L) (rE l C i) (rE l C (i + k)) := by
  have hC := h.pos
  have hwp : ∀ t, wt p L (t + C) = wt p L t := fun t => wt_period h.per t
  -- an open window
  have hY1 : 0 < Y := by
    rcases Int.lt_or_le 0 Y with w | w
    · exact w
    · have a := Int.mul_pos hR hC
      have b := Int.mul_nonneg (show 0 ≤ U by omega) (show 0 ≤ -Y by omega)
      rw [Int.mul_neg] at b
      omega
  have hb : ∃ b, wt p L b = true := by
    apply Classical.byContradiction
    intro hno
    have : cnt (wt p L) 0 (0 + C) = 0 := cnt_zero fun t _ _ => by
      cases hh : wt p L t with
      | false => rfl
      | true => exact absurd ⟨t, hh⟩ hno
    rw [hY] at this
    omega
  obtain ⟨b, hb⟩ := hb
  have ha : wt p L a0 = false := wt_false hL (u := a0) (by omega) (by omega) h.cl
  -- a pair of ends
  have hfirst : ∃ u v, u ≤ v ∧ x * R - U * cnt (wt p L) (t + L) (t + x) ≤ hh (wt p L) R U u v + L * R := by
    rcases Int.lt_or_le x L with w | w
    · refine ⟨0, 0, Int.le_refl _, ?_⟩
      rw [hh_nil, cnt_nil (by omega)]
      have := Int.mul_le_mul_of_nonneg_right (show x ≤ L by omega) (show 0 ≤ R by omega)
      omega
    · refine ⟨t + L, t + x, by omega, ?_⟩
      unfold hh
      rw [show t + x - (t + L) = x - L by omega, Int.sub_mul]
      omega
  obtain ⟨u, v, huv, hv⟩ := hfirst
  obtain ⟨e0, s0, e1, e2, s1, s2, es, ec, hes⟩ := hh_ends hC hwp (by omega) hU hY hd ha hb huv
  -- the end in the window
  have hq : ∃ k : Int, a0 < e0 + k * C ∧ e0 + k * C ≤ a0 + C := by
    have m := Int.mul_ediv_add_emod (e0 - a0 - 1) C
    have m0 := Int.emod_nonneg (e0 - a0 - 1) (show C ≠ 0 by omega)
    have m1 := Int.emod_lt_of_pos (e0 - a0 - 1) hC
    refine ⟨-((e0 - a0 - 1) / C), ?_⟩
    rw [Int.neg_mul, Int.mul_comm ((e0 - a0 - 1) / C)]
    omega
  obtain ⟨k, k0, k1⟩ := hq
  rw [← hh_shift (q := wt p L) (C := C) hwp k e0 s0] at hes
  have e1' : wt p L (e0 + k * C - 1) = true := by rw [show e0 + k * C - 1 = e0 - 1 + k * C by omega, per_k hwp, e1]
  have e2' : wt p L (e0 + k * C) = false := by rw [per_k hwp, e2]
  have s1' : wt p L (s0 + k * C - 1) = false := by rw [show s0 + k * C - 1 = s0 - 1 + k * C by omega, per_k hwp, s1]
  have s2' : wt p L (s0 + k * C) = true := by rw [per_k hwp, s2]
  have hse : e0 + k * C < s0 + k * C ∧ s0 + k * C ≤ e0 + k * C + C := ⟨by omega, by omega⟩
  generalize e0 + k * C = e at *
  generalize s0 + k * C = s at *
  have hsne : s ≠ e + C := fun hc => by
    rw [hc, hwp, e2'] at s2'; cases s2'
  have we : ∀ t, e - 1 - L ≤ t → t < e → p t = true := fun t t0 t1 => by
    have := (wt_iff hL).1 e1' (e - 1 - t) (by omega) (by omega)
    rwa [show e - 1 - (e - 1 - t) = t by omega] at this
  have ws : ∀ t, s - L ≤ t → t ≤ s → p t = true := fun t t0 t1 => by
    have := (wt_iff hL).1 s2' (s - t) (by omega) (by omega)
    rwa [show s - (s - t) = t by omega] at this
  have hpe : p e = false := by
    cases hh : p e with
    | false => rfl
    | true =>
      rw [(wt_iff hL).2 fun k k0 k1 => by
        rcases Int.lt_or_le 0 k with w | w
        · exact we _ (by omega) (by omega)
        · rw [show e - k = e by omega]; exact hh] at e2'
      cases e2'
  have hps : p (s - L - 1) = false := by
    cases hh : p (s - L - 1) with
    | false => rfl
    | true =>
      rw [(wt_iff hL).2 fun k k0 k1 => by
        rcases Int.lt_or_le k L with w | w
        · exact ws _ (by omega) (by omega)
        · rw [show s - 1 - k = s - L - 1 by omega]; exact hh] at s1'
      cases s1'
  have hes2 : e < s - L := by
    rcases Int.lt_or_le e (s - L) with w | w
    · exact w
    · rw [ws e w (by omega)] at hpe; cases hpe
  -- run i
  obtain ⟨i, x, i1, i2, i3⟩ := runs_find h.runs (e - 1) (by omega) (by omega) (we _ (by omega) (by omega))
  have hi := (List.getElem?_eq_some_iff.1 i1).1
  have hn : 0 < l.length := by omega
  have hB : rB l C i = x.1 := by unfold rB; rw [Nat.mod_eq_of_lt hi, i1, Nat.div_eq_of_lt hi]; simp
  have hE : rE l C i = x.2 := by unfold rE; rw [Nat.mod_eq_of_lt hi, i1, Nat.div_eq_of_lt hi]; simp
  have oi := h.open_ hn i
  rw [hB, hE] at oi
  have hx2 : x.2 = e := by
    rcases Int.lt_or_le e x.2 with w | w
    · rw [oi.2 e (by omega) w] at hpe; cases hpe
    · omega
  have before : ∀ (m : Nat) (y : Int × Int), l[m]? = some y → p (y.1 - 1) = false := fun m y hy => by
    obtain ⟨z, z1, z2, z3, z4, z5, z6, z7⟩ := runs_get h.runs m (List.getElem?_eq_some_iff.1 hy).1
    have : z = y := by rw [hy] at z1; simpa using z1.symm
    subst this
    cases m with
    | zero =>
      obtain ⟨z', y1, y2, y3, y4⟩ := h.closed0 hn
      have : z' = z := by rw [hy] at y1; simpa using y1.symm
      subst this
      exact y4 _ (by omega) (by omega)
    | succ m =>
      have hm : m < l.length := by have := (List.getElem?_eq_some_iff.1 hy).1; omega
      have hm1 := (List.getElem?_eq_some_iff.1 hy).1
      have gg := h.gap hn m
      have : rB l C (m + 1) = z.1 := by unfold rB; rw [Nat.mod_eq_of_lt hm1, hy, Nat.div_eq_of_lt hm1]; simp
      rw [this] at gg
      exact gg.2 _ (by omega) (by omega)
  have hx1 : x.1 ≤ e - 1 - L := by
    rcases Int.lt_or_le (e - 1 - L) x.1 with w | w
    · have := before i x i1
      rw [we (x.1 - 1) (by omega) (by omega)] at this; cases this
    · exact w
  have bnd : ∀ (m : Nat) (y : Int × Int), l[m]? = some y → a0 < y.1 ∧ y.2 ≤ a0 + C := fun m y hy => by
    obtain ⟨z, z1, z2, z3, z4, z5, z6, z7⟩ := runs_get h.runs m (List.getElem?_eq_some_iff.1 hy).1
    have : z = y := by rw [hy] at z1; simpa using z1.symm
    subst this
    have := runs_mem h.runs z (List.mem_of_getElem? hy)
    refine ⟨?_, z4⟩
    rcases Int.lt_or_le a0 z.1 with w | w
    · exact w
    · have c := z5 a0 w (by omega)
      rw [h.cl] at c; cases c
  -- run j
  have run_at : ∀ z, a0 ≤ z → z < a0 + C → p z = true → p (z - 1) = false → ∃ (m : Nat) (y : Int × Int), l[m]? = some y ∧ y.1 = z := fun z z0 z1 hz hz1 => by
    obtain ⟨m, y, m1, m2, m3⟩ := runs_find h.runs z z0 z1 hz
    refine ⟨m, y, m1, ?_⟩
    rcases Int.lt_or_le y.1 z with w | w
    · have := (runs_mem h.runs y (List.mem_of_getElem? m1)).2.2.2 (z - 1) (by omega) (by omega)
      rw [hz1] at this; cases this
    · omega
  have hj : ∃ j, i < j ∧ j ≤ i + l.length ∧ rB l C j = s - L := by
    rcases Int.lt_or_le (s - L) (a0 + C) with w | w
    · obtain ⟨j, y, j1, j2⟩ := run_at (s - L) (by omega) w (ws _ (by omega) (by omega)) hps
      have hj := (List.getElem?_eq_some_iff.1 j1).1
      have hBj : rB l C j = y.1 := by unfold rB; rw [Nat.mod_eq_of_lt hj, j1, Nat.div_eq_of_lt hj]; simp
      refine ⟨j, ?_, by omega, by omega⟩
      rcases Nat.lt_or_ge i j with v | v
      · exact v
      · have mo := h.mono hn j (i - j)
        rw [show j + (i - j) = i by omega] at mo
        have oj := (h.open_ hn j).1
        omega
    · have per1 := h.per (s - L - C)
      have per2 := h.per (s - L - 1 - C)
      rw [show s - L - C + C = s - L by omega] at per1
      rw [show s - L - 1 - C + C = s - L - 1 by omega] at per2
      obtain ⟨j, y, j1, j2⟩ := run_at (s - L - C) (by omega) (by omega) (by rw [← per1]; exact ws _ (by omega) (by omega)) (by rw [show s - L - C - 1 = s - L - 1 - C by omega, ← per2]; exact hps)
      have hj := (List.getElem?_eq_some_iff.1 j1).1
      have hBj : rB l C (j + l.length) = y.1 + C := by unfold rB; rw [Nat.add_mod_right, Nat.mod_eq_of_lt hj, j1, Nat.add_div_right _ hn, Nat.div_eq_of_lt hj]; simp
      have hBj0 : rB l C j = y.1 := by unfold rB; rw [Nat.mod_eq_of_lt hj, j1, Nat.div_eq_of_lt hj]; simp
      refine ⟨j + l.length, by omega, ?_, by omega⟩
      rcases Nat.lt_or_ge i j with v | v
      · have mo := h.mono hn i (j - 1 - i)
        rw [show i + (j - 1 - i) = j - 1 by omega] at mo
        have gj := (h.gap hn (j - 1)).1
        rw [show j - 1 + 1 = j by omega] at gj
        omega
      · omega
  obtain ⟨j, j1, j2, j3⟩ := hj
  refine ⟨i, j - i - 1, hi, by omega, ?_⟩
  rw [show i + (j - i - 1) = j - 1 by omega, show j - 1 + 1 = j by omega]
  have oj := h.open_ hn j
  have gj := h.gap hn j
  have gj1 := h.gap hn (j - 1)
  rw [show j - 1 + 1 = j by omega] at gj1
  have lenj : s < rE l C j := by
    rcases Int.lt_or_le s (rE l C j) with w | w
    · exact w
    · have := gj.2 (rE l C j) (Int.le_refl _) gj.1
      rw [ws (rE l C j) (by omega) w] at this; cases this
  have hT : cT l C L j = s := by unfold cT mi; rw [if_pos (by omega)]; omega
  have hF : cF l C L i = e - L := by unfold cF mi; rw [hB, hE, hx2, if_pos (by omega)]
  have mo := h.mono hn i (j - 1 - i)
  rw [show i + (j - 1 - i) = j - 1 by omega] at mo
  have hcnt : cnt (wt p L) (rE l C i) (rE l C (j - 1)) = cnt (wt p L) e s := by
    rw [← hx2, ← hE, cnt_split (y := s) (m := rE l C (j - 1)) mo (by omega), cnt_zero (x := rE l C (j - 1)) fun t u v => wt_gap h hn hL (j - 1) u (by rw [show j - 1 + 1 = j by omega]; omega)]
    omega
  rw [hcnt, hT, hF]
  unfold hh at hes hv
  rw [show s - (e - L) = s - e + L by omega, Int.add_mul]
  omega
end Go.Sh
