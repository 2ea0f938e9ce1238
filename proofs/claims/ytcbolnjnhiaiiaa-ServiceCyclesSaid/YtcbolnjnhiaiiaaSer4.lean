/- Yield and sends, counted tick by tick; the laws that compare them. -/
import Derived.Test.YtcbolnjnhiaiiaaSer3
import Derived.KernelRfl
namespace Go.Sh
open Go Go.Eng
set_option linter.unusedVariables false
set_option linter.unusedSimpArgs false

theorem fold_sum {L : Int} : ∀ (l : List (Int × Int)) (s : Int), (l.map toOp).foldl (fun s x => s + f0 L x.long) s = s + sumR L l
  | [], s => by simp [sumR]
  | x :: l, s => by
    simp only [List.map_cons, List.foldl_cons, fold_sum l, sumR, toOp]
    omega

/-- What a cycle gives. -/
noncomputable def yld (g : api_Gates) (L : Int) : Int := cnt (wt (op6 g) L) 0 g.Cycle

theorem wt_per {g : api_Gates} (hg : VG g) (L t : Int) : wt (op6 g) L (t + g.Cycle) = wt (op6 g) L t := wt_period (fun t => op6_period hg t) t

theorem Rnd.sum {g : api_Gates} (hg : VG g) {a0 : Int} {l : List (Int × Int)} (h : Rnd g a0 l) {L : Int} (hL : 0 ≤ L) : sumR L l = yld g L := by
  have hcy := hg.cyc
  rw [runs_sum hL h.runs]
  have h1 : cnt (wt (op6 g) L) (a0 + L) (a0 + g.Cycle) = cnt (wt (op6 g) L) a0 (a0 + g.Cycle) := by
    have z : ∀ t, a0 ≤ t → t ≤ a0 + L → wt (op6 g) L t = false := fun t u v => wt_false hL (u := a0) (by omega) u h.cl
    rcases Int.lt_or_le (a0 + g.Cycle) (a0 + L) with w | w
    · rw [cnt_nil (by omega), cnt_zero fun t u v => z t u (by omega)]
    · rw [cnt_split (x := a0) (m := a0 + L) (y := a0 + g.Cycle) (by omega) (by omega), cnt_zero (x := a0) (y := a0 + L) fun t u v => z t u (by omega)]
      omega
  rw [h1]
  have := cnt_period (q := wt (op6 g) L) (C := g.Cycle) (by omega) (fun t => wt_per hg L t) a0 0
  rw [this]
  unfold yld
  rw [Int.zero_add]

theorem yld_bound {g : api_Gates} (hg : VG g) (L : Int) : 0 ≤ yld g L ∧ yld g L ≤ g.Cycle := by
  have hcy := hg.cyc
  have := cnt_bound (q := wt (op6 g) L) (x := 0) (y := g.Cycle) (by omega)
  exact ⟨cnt_nonneg _ _ _, by unfold yld; omega⟩

theorem yield_eq {N : Nat} (hN : 200 ≤ N) {g : api_Gates} (hg : VG g) {L : Int} (hL : 0 ≤ L ∧ L ≤ 100000000) : service_yieldOf N g L = some (if aoB g = true then g.Cycle else yld g L) := by
  unfold service_yieldOf
  rw [service_always_eq hN hg, Option.bind_some]
  cases hao : aoB g with
  | true => simp
  | false =>
    simp only [Bool.false_eq_true, if_false]
    obtain ⟨c, e, h1, h2, h3⟩ := closed_first hao
    have hcy := hg.cyc
    obtain ⟨l, r1, r2, _⟩ := openings_fold hN hg h1 h2 h3 (f := fun v x => service_yieldOf_R1 N L v x) (fun k s => 0 ≤ s ∧ s ≤ k * 20000000) (fun s x => s + f0 L x.long) (fun k s x hk hs x0 x1 x2 x3 => by
      have hb : 0 ≤ f0 L x.long ∧ f0 L x.long ≤ 20000000 := by unfold f0; split <;> omega
      unfold service_yieldOf_R1
      rw [w64_id (x := x.long - L) (by omega) (by omega), show (if x.long - L > 0 then x.long - L else 0) = f0 L x.long from rfl, w64_id (by omega) (by omega)]
      exact ⟨rfl, by omega, by omega⟩) 0 ⟨by omega, by omega⟩
    unfold service_openings
    simp only [Option.bind_some]
    rw [r2, fold_sum, r1.sum hg hL.1]
    simp

theorem gives_eq {N : Nat} (hN : 10000000 ≤ N) {g : api_Gates} (hg : VG g) {per most : Int} (hp : 1 ≤ per ∧ per ≤ 1000) (hm : 84 ≤ most ∧ most ≤ 1542) : ref30_Gives N g per most = some (if aoB g = true then g.Cycle else yld g (most * per)) := by
  have hL : 0 ≤ most * per ∧ most * per ≤ 1542000 := by
    constructor
    · exact Int.mul_nonneg (by omega) (by omega)
    · have := Int.mul_le_mul hm.2 hp.2 (by omega) (by omega); omega
  unfold ref30_Gives
  rw [ref30_Always_eq (by omega) hg, Option.bind_some]
  cases hao : aoB g with
  | true => simp
  | false =>
    simp only [Bool.false_eq_true, if_false]
    obtain ⟨c, e, h1, h2, h3⟩ := closed_first hao
    have hcy := hg.cyc
    obtain ⟨out, o1, o2⟩ := round_law hN hg h1 h2 h3
    obtain ⟨l, r1, _⟩ := openings_fold (N := N) (by omega) hg h1 h2 h3 (σ := Unit) (f := fun _ _ => some ()) (fun _ _ => True) (fun _ _ => ()) (fun _ _ _ _ _ _ _ _ _ => ⟨rfl, trivial⟩) () trivial
    have hl : out.map prO = l := runs_unique o2 r1.runs
    have hlen := runs_length (by omega) o2
    have hsum := r1.sum hg hL.1
    have hb := yld_bound hg (most * per)
    rw [o1, Option.bind_some, w64_id (x := most * per) (by omega) (by omega), ref30_sum_eq (by simp at hlen; omega) (by simp at hlen; omega) (by omega) (fun o ho => by
      have := runs_mem o2 (prO o) (List.mem_map_of_mem ho)
      have a := r1.lo
      have b := r1.hi
      unfold prO at this
      simp only at this
      omega) (by rw [hl, hsum]; omega), Option.bind_some, hl, hsum]

theorem mul_bounds {per most : Int} (hp : 1 ≤ per ∧ per ≤ 1000) (hm : 84 ≤ most ∧ most ≤ 1542) : 0 ≤ most * per ∧ most * per ≤ 1542000 := by
  constructor
  · exact Int.mul_nonneg (by omega) (by omega)
  · have := Int.mul_le_mul hm.2 hp.2 (by omega) (by omega); omega

def errA (g : api_Gates) (per most : Int) : Int := if VG g then (if 1 ≤ per ∧ per ≤ 1000 ∧ 84 ≤ most ∧ most ≤ 1542 then 0 else 2) else 370

theorem errA_zero {g : api_Gates} {per most : Int} (h : errA g per most = 0) : VG g ∧ (1 ≤ per ∧ per ≤ 1000) ∧ (84 ≤ most ∧ most ≤ 1542) := by
  unfold errA at h
  by_cases hv : VG g
  · rw [if_pos hv] at h
    by_cases hq : 1 ≤ per ∧ per ≤ 1000 ∧ 84 ≤ most ∧ most ≤ 1542
    · exact ⟨hv, ⟨hq.1, hq.2.1⟩, hq.2.2⟩
    · rw [if_neg hq] at h; cases h
  · rw [if_neg hv] at h; cases h

theorem argsB {per most : Int} : ((decide (per < 1)) || ((decide (per > 1000)) || ((decide (most < 84)) || (decide (most > 1542))))) = !decide (1 ≤ per ∧ per ≤ 1000 ∧ 84 ≤ most ∧ most ≤ 1542) := by
  rw [Bool.eq_iff_iff]
  simp only [Bool.or_eq_true, decide_eq_true_eq, Bool.not_eq_true', decide_eq_false_iff_not]
  omega

theorem check30_eq {N : Nat} (hN : 200 ≤ N) (g : api_Gates) (per most : Int) : service_check N g per most = some (errA g per most) ∧ ref30_args N g per most = some (errA g per most) := by
  unfold service_check ref30_args errA
  rw [gates_Check_eq hN, ref27_Right_eq hN, argsB]
  by_cases hv : VG g <;> by_cases hq : 1 ≤ per ∧ per ≤ 1000 ∧ 84 ≤ most ∧ most ≤ 1542 <;> simp [hv, hq]

theorem yield_same {N : Nat} (hN : 10000000 ≤ N) (g : api_Gates) (per most : Int) : ∃ r, service_Yield N g per most = some r ∧ ref30_Yield N g per most = some r := by
  unfold service_Yield ref30_Yield
  rw [(check30_eq (by omega) g per most).1, (check30_eq (by omega) g per most).2]
  simp only [Option.bind_some]
  by_cases h : errA g per most = 0
  · obtain ⟨hg, hp, hm⟩ := errA_zero h
    have hL := mul_bounds hp hm
    rw [h]
    simp only [bne_self_eq_false, Bool.false_eq_true, if_false]
    rw [w64_id (x := most * per) (by omega) (by omega), yield_eq (by omega) hg (by omega), gives_eq hN hg hp hm]
    exact ⟨_, rfl, rfl⟩
  · exact ⟨(0, errA g per most), by simp [h], by simp [h]⟩

/- sends -/
/-- A tick is in the later part of an opening, in some cycle. -/
def inO (C L : Int) (x : Int × Int) (u : Int) : Bool := decide ((u - (x.1 + L)) % C < x.2 - x.1 - L)

def sumO (C L : Int) (u : Int) : List (Int × Int) → Int
  | [] => 0
  | x :: l => (if inO C L x u = true then 1 else 0) + sumO C L u l

def cntO (C L a b : Int) : List (Int × Int) → Int
  | [] => 0
  | x :: l => cnt (inO C L x) a b + cntO C L a b l

theorem cntO_snoc {C L a b : Int} (h : a ≤ b) : ∀ l, cntO C L a (b + 1) l = cntO C L a b l + sumO C L b l
  | [] => rfl
  | x :: l => by simp only [cntO, sumO, cnt_snoc h, cntO_snoc h l]; omega

theorem cntO_nil {C L a b : Int} (h : b ≤ a) : ∀ l, cntO C L a b l = 0
  | [] => rfl
  | x :: l => by simp only [cntO, cnt_nil h, cntO_nil h l]; rfl

/-- Within the window of the runs. -/
theorem sumO_window {p : Int → Bool} {L C a0 b u : Int} (hL : 0 ≤ L) (hC : b - a0 ≤ C) (h0 : 0 < C) (hu0 : a0 ≤ u) (hu : u < b) : ∀ {l : List (Int × Int)} {a : Int}, a0 ≤ a → a ≤ b → IsRuns p b a l → sumO C L u l = if wt p L u = true ∧ a ≤ u - L then 1 else 0
  | [], a, haa, hab, h => by
    rw [if_neg]
    · rfl
    · rintro ⟨h1, h2⟩
      have := (wt_iff hL).1 h1 0 (by omega) hL
      rw [show u - 0 = u by omega, h u (by omega) hu] at this
      cases this
  | x :: l, a, haa, hab, ⟨h1, h2, h3, h4, h5, h6, h7⟩ => by
    have ih := sumO_window hL hC h0 hu0 hu (by omega) h3 h7
    have hin : inO C L x u = true ↔ x.1 + L ≤ u ∧ u < x.2 := by
      unfold inO
      rw [decide_eq_true_iff]
      rcases Int.lt_or_le u (x.1 + L) with w | w
      · constructor
        · intro hq
          exfalso
          rcases Int.lt_or_le (u - (x.1 + L) + C) 0 with v | v
          · have := Int.emod_nonneg (u - (x.1 + L)) (show C ≠ 0 by omega)
            omega
          · have e : (u - (x.1 + L)) % C = u - (x.1 + L) + C := by
              rw [← Int.add_emod_right]
              exact Int.emod_eq_of_lt v (by omega)
            omega
        · intro hq; omega
      · rw [Int.emod_eq_of_lt (by omega) (by omega)]
        constructor
        · intro hq; omega
        · intro hq; omega
    simp only [sumO, ih]
    by_cases hi : x.1 + L ≤ u ∧ u < x.2
    · have hw : wt p L u = true := (wt_iff hL).2 fun k k0 k1 => h5 _ (by omega) (by omega)
      rw [if_pos (hin.2 hi), if_neg (by omega), if_pos ⟨hw, by omega⟩]
      rfl
    · rw [if_neg (fun h => hi (hin.1 h))]
      by_cases hw : wt p L u = true
      · by_cases hE : x.2 ≤ u - L
        · rw [if_pos ⟨hw, hE⟩, if_pos ⟨hw, by omega⟩]; rfl
        · rw [if_neg (by omega), if_neg]
          · rfl
          · rintro ⟨_, ha⟩
            have hk := (wt_iff hL).1 hw
            rcases Int.lt_or_le (u - L) x.1 with v | v
            · have := hk L hL (by omega)
              rw [h4 (u - L) ha v] at this; cases this
            · have hux : x.2 ≤ u := by omega
              have := hk (u - x.2) (by omega) (by omega)
              rw [show u - (u - x.2) = x.2 by omega, h6 (by omega)] at this; cases this
      · rw [if_neg (fun h => hw h.1), if_neg (fun h => hw h.1)]; rfl

theorem inO_period {C L : Int} {x : Int × Int} (u k : Int) : inO C L x (u + k * C) = inO C L x u := by
  unfold inO
  rw [show u + k * C - (x.1 + L) = u - (x.1 + L) + k * C by omega, Int.add_mul_emod_self_right]

theorem sumO_period {C L u k : Int} : ∀ l, sumO C L (u + k * C) l = sumO C L u l
  | [] => rfl
  | x :: l => by simp only [sumO, inO_period, sumO_period l]

theorem wt_periods {g : api_Gates} (hg : VG g) (L t k : Int) : wt (op6 g) L (t + k * g.Cycle) = wt (op6 g) L t := by
  have key : ∀ n : Nat, ∀ t, wt (op6 g) L (t + n * g.Cycle) = wt (op6 g) L t := by
    intro n
    induction n with
    | zero => intro t; simp
    | succ n ih =>
      intro t
      rw [show t + ((n + 1 : Nat) : Int) * g.Cycle = (t + n * g.Cycle) + g.Cycle by rw [Int.natCast_succ, Int.add_mul]; omega, wt_per hg, ih]
  rcases Int.le_total 0 k with h | h
  · have := key k.toNat t
    rwa [Int.toNat_of_nonneg h] at this
  · have := key (-k).toNat (t + k * g.Cycle)
    rw [Int.toNat_of_nonneg (by omega)] at this
    rw [← this]
    congr 1
    rw [Int.neg_mul]; omega

theorem Rnd.tick {g : api_Gates} (hg : VG g) {a0 : Int} {l : List (Int × Int)} (h : Rnd g a0 l) {L : Int} (hL : 0 ≤ L) (u : Int) : sumO g.Cycle L u l = if wt (op6 g) L u = true then 1 else 0 := by
  have hcy := hg.cyc
  -- the tick of the window
  have hmod := Int.mul_ediv_add_emod (u - a0) g.Cycle
  have m0 := Int.emod_nonneg (u - a0) (show g.Cycle ≠ 0 by omega)
  have m1 := Int.emod_lt_of_pos (u - a0) (show 0 < g.Cycle by omega)
  have hu : u = (a0 + (u - a0) % g.Cycle) + ((u - a0) / g.Cycle) * g.Cycle := by rw [Int.mul_comm]; omega
  rw [hu, sumO_period, wt_periods hg, sumO_window (p := op6 g) (b := a0 + g.Cycle) (a0 := a0) hL (by omega) (by omega) (by omega) (by omega) (Int.le_refl _) (by omega) h.runs]
  have hv0 : a0 ≤ a0 + (u - a0) % g.Cycle := by omega
  generalize a0 + (u - a0) % g.Cycle = v at *
  by_cases hw : wt (op6 g) L v = true
  · rw [if_pos hw, if_pos]
    refine ⟨hw, ?_⟩
    rcases Int.lt_or_le (v - L) a0 with w | w
    · have := wt_false (p := op6 g) hL (t := v) (u := a0) (by omega) (by omega) h.cl
      rw [hw] at this; cases this
    · exact w
  · rw [if_neg (fun q => hw q.1), if_neg hw]

theorem Rnd.count {g : api_Gates} (hg : VG g) {a0 : Int} {l : List (Int × Int)} (h : Rnd g a0 l) {L : Int} (hL : 0 ≤ L) (a b : Int) : cntO g.Cycle L a b l = cnt (wt (op6 g) L) a b := by
  rcases Int.lt_or_le b a with w | w
  · rw [cntO_nil (by omega), cnt_nil (by omega)]
  · refine up (P := fun b => cntO g.Cycle L a b l = cnt (wt (op6 g) L) a b) (by rw [cntO_nil (Int.le_refl _), cnt_nil (Int.le_refl _)]) (fun b hb ih => ?_) b w
    rw [cntO_snoc hb, cnt_snoc hb, ih, h.tick hg hL]

theorem fold_cnt {C L a b : Int} : ∀ (l : List (Int × Int)) (s : Int), (l.map toOp).foldl (fun s x => s + cnt (inO C L (x.from_, x.from_ + x.long)) a b) s = s + cntO C L a b l
  | [], s => by simp [cntO]
  | x :: l, s => by
    simp only [List.map_cons, List.foldl_cons, fold_cnt l, cntO, toOp]
    rw [show x.1 + (x.2 - x.1) = x.2 by omega, show (x.1, x.2) = x from rfl]
    omega

/-- The loop through the cycles of an opening. -/
theorem sends_one {N : Nat} (hN : 60000000 ≤ N) {g : api_Gates} (hg : VG g) {per most t lg : Int} (hp : 1 ≤ per ∧ per ≤ 1000) (hm : 84 ≤ most ∧ most ≤ 1542) (ht : -1099511627776 ≤ t ∧ t ≤ 1099511627776) (hl : 0 ≤ lg ∧ lg ≤ 4 * g.Cycle)
    {x : service_opening} (x0 : 0 ≤ x.from_) (x1 : 0 < x.long) (x2 : x.long ≤ g.Cycle) (x3 : x.from_ + x.long ≤ 2 * g.Cycle) {s : Int} (hs : -1000000000000 ≤ s ∧ s ≤ 1000000000000) :
    service_Sends_R1 N g per most t lg s x = some (s + cnt (inO g.Cycle (most * per) (x.from_, x.from_ + x.long)) (t + most * per) (t + lg)) := by
  have hL := mul_bounds hp hm
  have hcy := hg.cyc
  unfold service_Sends_R1
  have hmod : service_mod N (w64 (t - x.from_)) g.Cycle = some ((t - x.from_) % g.Cycle) := by
    unfold service_mod
    rw [w64_id (x := t - x.from_) (by omega) (by omega)]
    have q1 := Int.lt_tmod_of_pos (t - x.from_) (show 0 < g.Cycle by omega)
    have q2 := Int.tmod_lt_of_pos (t - x.from_) (show 0 < g.Cycle by omega)
    rw [remI_pos (by omega), Option.bind_some, w64_id (by omega) (by omega), remI_pos (by omega), Option.bind_some, tmod_mod (by omega)]
  rw [hmod, Option.bind_some]
  have m0 := Int.emod_nonneg (t - x.from_) (show g.Cycle ≠ 0 by omega)
  have m1 := Int.emod_lt_of_pos (t - x.from_) (show 0 < g.Cycle by omega)
  have hdiv := Int.mul_ediv_add_emod (t - x.from_) g.Cycle
  rw [w64_id (x := t - (t - x.from_) % g.Cycle) (by omega) (by omega)]
  generalize hLe : most * per = L at *
  generalize hqe : inO g.Cycle L (x.from_, x.from_ + x.long) = q at *
  have hqin : ∀ (k v : Int), x.from_ + k * g.Cycle + L ≤ v → v < x.from_ + k * g.Cycle + L + g.Cycle → (q v = true ↔ v < x.from_ + k * g.Cycle + x.long) := fun k v v0 v1 => by
    rw [← hqe]
    unfold inO
    rw [decide_eq_true_iff]
    simp only
    have e : (v - (x.from_ + L)) % g.Cycle = v - (x.from_ + k * g.Cycle + L) := by
      rw [show v - (x.from_ + L) = (v - (x.from_ + k * g.Cycle + L)) + k * g.Cycle by omega, Int.add_mul_emod_self_right]
      exact Int.emod_eq_of_lt (by omega) (by omega)
    rw [e]
    omega
  obtain ⟨r, r1, r2⟩ := iterF_of (body := fun z : Int × Int => service_Sends_L2 N g per most t lg x z.1 z.2)
    (fun z => ∃ k : Int, z.1 = x.from_ + k * g.Cycle ∧ t < z.1 + g.Cycle ∧ t - g.Cycle ≤ z.1 ∧ z.1 ≤ t + lg + g.Cycle ∧ z.2 + cnt q ((if t > z.1 then t else z.1) + L) (t + lg) = s + cnt q (t + L) (t + lg) ∧ s ≤ z.2) (fun z => (t + lg + g.Cycle - z.1).toNat)
    (fun r => r.2 = s + cnt q (t + L) (t + lg)) (fun z hz => by
      obtain ⟨fr, acc⟩ := z
      obtain ⟨k, z1, z2, z3, z4, z5, z6⟩ := hz
      simp only at z1 z2 z3 z4 z5 z6 ⊢
      unfold service_Sends_L2
      rw [hLe, w64_id (x := t + lg) (by omega) (by omega), w64_id (x := fr + x.long) (by omega) (by omega)]
      have cb : 0 ≤ cnt q ((if t > fr then t else fr) + L) (t + lg) := cnt_nonneg _ _ _
      have cb2 : cnt q (t + L) (t + lg) ≤ 50000000 := by
        rcases Int.lt_or_le (t + lg) (t + L) with w | w
        · rw [cnt_nil (by omega)]; omega
        · have := cnt_bound (q := q) (x := t + L) (y := t + lg) w; omega
      by_cases hlt : fr < t + lg
      · left
        rw [if_pos (by simp [hlt])]
        generalize hmx : (if t > fr then t else fr) = m at *
        have hm2 : t ≤ m ∧ fr ≤ m ∧ (m = t ∨ m = fr) := by rw [← hmx]; split <;> omega
        generalize hmn : (if t + lg < fr + x.long then t + lg else fr + x.long) = n at *
        have hn2 : n ≤ t + lg ∧ n ≤ fr + x.long ∧ (n = t + lg ∨ n = fr + x.long) := by rw [← hmn]; split <;> omega
        rw [w64_id (x := n - m) (by omega) (by omega), w64_id (x := L) (by omega) (by omega), w64_id (x := n - m - L) (by omega) (by omega), show (if n - m - L > 0 then n - m - L else 0) = f0 L (n - m) from rfl]
        -- what is left
        have hstep : cnt q (m + L) (t + lg) = f0 L (n - m) + cnt q (fr + g.Cycle + L) (t + lg) := by
          have qa : ∀ v, m + L ≤ v → v < fr + L + g.Cycle → (q v = true ↔ v < fr + x.long) := fun v v0 v1 => by rw [z1] at *; exact hqin k v (by omega) (by omega)
          have qT : ∀ v, m + L ≤ v → v < n → q v = true := fun v v0 v1 => (qa v v0 (by omega)).2 (by omega)
          have qF : ∀ v, m + L ≤ v → n ≤ v → v < t + lg → v < fr + L + g.Cycle → q v = false := fun v v0 v1 v2 v3 => by
            cases hq : q v with
            | false => rfl
            | true => have := (qa v v0 v3).1 hq; omega
          unfold f0
          rcases Int.lt_or_le (m + L) n with w | w
          · rw [if_pos (by omega), cnt_split (x := m + L) (m := n) (y := t + lg) (by omega) (by omega), cnt_full (x := m + L) (y := n) (by omega) qT]
            rcases Int.lt_or_le (fr + g.Cycle + L) (t + lg) with v | v
            · rw [cnt_split (x := n) (m := fr + g.Cycle + L) (y := t + lg) (by omega) (by omega), cnt_zero (x := n) (y := fr + g.Cycle + L) fun u u0 u1 => qF u (by omega) u0 (by omega) (by omega)]; omega
            · rw [cnt_zero (x := n) (y := t + lg) fun u u0 u1 => qF u (by omega) u0 u1 (by omega), cnt_nil v]; omega
          · rw [if_neg (by omega)]
            rcases Int.lt_or_le (fr + g.Cycle + L) (t + lg) with v | v
            · rw [cnt_split (x := m + L) (m := fr + g.Cycle + L) (y := t + lg) (by omega) (by omega), cnt_zero (x := m + L) (y := fr + g.Cycle + L) fun u u0 u1 => qF u (by omega) (by omega) (by omega) (by omega)]
            · rw [cnt_zero (x := m + L) (y := t + lg) fun u u0 u1 => qF u (by omega) (by omega) u1 (by omega), cnt_nil v]; omega
        have fb : 0 ≤ f0 L (n - m) ∧ f0 L (n - m) ≤ 50000000 := by unfold f0; split <;> omega
        have cc := cnt_nonneg q (fr + g.Cycle + L) (t + lg)
        rw [w64_id (x := fr + g.Cycle) (by omega) (by omega), w64_id (x := acc + f0 L (n - m)) (by omega) (by omega)]
        refine ⟨(fr + g.Cycle, acc + f0 L (n - m)), rfl, ⟨k + 1, ?_, by simp only; omega, by simp only; omega, by simp only; omega, ?_, by simp only; omega⟩, by simp only; omega⟩
        · simp only; rw [z1, Int.add_mul]; omega
        · simp only
          rw [if_neg (by omega)]
          omega
      · right
        rw [if_neg (by simp [hlt])]
        refine ⟨_, rfl, ?_⟩
        simp only
        rw [cnt_nil (x := (if t > fr then t else fr) + L) (y := t + lg) (by split <;> omega)] at z5
        omega) N (t - (t - x.from_) % g.Cycle, s) ⟨(t - x.from_) / g.Cycle, by simp only; rw [Int.mul_comm]; omega, by simp only; omega, by simp only; omega, by simp only; omega, (by
        simp only
        have : (if t > t - (t - x.from_) % g.Cycle then t else t - (t - x.from_) % g.Cycle) = t := by split <;> omega
        rw [this]), by simp⟩ (by simp only; omega)
  rw [r1, Option.bind_some, r2]

/-- What an interval gives. -/
noncomputable def gets (g : api_Gates) (L t lg : Int) : Int := if aoB g = true then lg else cnt (wt (op6 g) L) (t + L) (t + lg)

theorem gets_bound {g : api_Gates} (L t lg : Int) (hL : 0 ≤ L) (h : 0 ≤ lg) : 0 ≤ gets g L t lg ∧ gets g L t lg ≤ lg := by
  unfold gets
  split
  · omega
  · refine ⟨cnt_nonneg _ _ _, ?_⟩
    rcases Int.lt_or_le (t + lg) (t + L) with w | w
    · rw [cnt_nil (by omega)]; exact h
    · have := cnt_bound (q := wt (op6 g) L) w; omega

theorem sends_eq {N : Nat} (hN : 60000000 ≤ N) {g : api_Gates} (hg : VG g) {per most t lg : Int} (hp : 1 ≤ per ∧ per ≤ 1000) (hm : 84 ≤ most ∧ most ≤ 1542) (ht : -1099511627776 ≤ t ∧ t ≤ 1099511627776) (hl : 0 ≤ lg ∧ lg ≤ 4 * g.Cycle) :
    service_Sends N g per most t lg = some ((if gets g (most * per) t lg - 127 * per > 0 then gets g (most * per) t lg - 127 * per else 0), 0) := by
  have hL := mul_bounds hp hm
  have hcy := hg.cyc
  unfold service_Sends
  rw [(check30_eq (by omega) g per most).1, show errA g per most = 0 by unfold errA; rw [if_pos hg, if_pos ⟨hp.1, hp.2, hm.1, hm.2⟩], Option.bind_some, if_neg (by simp), if_neg (by simp; omega), if_neg (by simp; omega), if_neg (by simp; omega), w64_id (x := 4 * g.Cycle) (by omega) (by omega)]
  simp only [Option.bind_some]
  rw [if_neg (by simp; omega), service_always_eq (by omega) hg, Option.bind_some]
  have hgb := gets_bound (g := g) (most * per) t lg hL.1 hl.1
  cases hao : aoB g with
  | true =>
    have he : gets g (most * per) t lg = lg := by unfold gets; rw [if_pos hao]
    simp only [if_true]
    rw [w64_id (x := 127 * per) (by omega) (by omega), w64_id (x := lg - 127 * per) (by omega) (by omega), he]
  | false =>
    have he : gets g (most * per) t lg = cnt (wt (op6 g) (most * per)) (t + most * per) (t + lg) := by unfold gets; rw [if_neg (by simp [hao])]
    simp only [Bool.false_eq_true, if_false]
    obtain ⟨c, e, h1, h2, h3⟩ := closed_first hao
    obtain ⟨l, q1, q2, _⟩ := openings_fold (N := N) (by omega) hg h1 h2 h3 (f := fun v x => service_Sends_R1 N g per most t lg v x) (fun k s => -127000 ≤ s ∧ s ≤ k * 50000000) (fun s x => s + cnt (inO g.Cycle (most * per) (x.from_, x.from_ + x.long)) (t + most * per) (t + lg)) (fun k s x hk hs x0 x1 x2 x3 => by
      have b0 := cnt_nonneg (inO g.Cycle (most * per) (x.from_, x.from_ + x.long)) (t + most * per) (t + lg)
      have b1 : cnt (inO g.Cycle (most * per) (x.from_, x.from_ + x.long)) (t + most * per) (t + lg) ≤ 50000000 := by
        rcases Int.lt_or_le (t + lg) (t + most * per) with w | w
        · rw [cnt_nil (by omega)]; omega
        · have := cnt_bound (q := inO g.Cycle (most * per) (x.from_, x.from_ + x.long)) w; omega
      exact ⟨sends_one hN hg hp hm ht hl x0 x1 x2 x3 (by omega), by omega, by omega⟩) (w64 (-127 * per)) (by rw [w64_id (by omega) (by omega)]; omega)
    unfold service_openings
    simp only [Option.bind_some]
    rw [q2, fold_cnt, q1.count hg hL.1, w64_id (x := -127 * per) (by omega) (by omega), Option.bind_some, he]
    rw [show -127 * per + cnt (wt (op6 g) (most * per)) (t + most * per) (t + lg) = cnt (wt (op6 g) (most * per)) (t + most * per) (t + lg) - 127 * per by omega]

theorem least_eq {N : Nat} (hN : 60000000 ≤ N) {g : api_Gates} (hg : VG g) {per most t lg : Int} (hp : 1 ≤ per ∧ per ≤ 1000) (hm : 84 ≤ most ∧ most ≤ 1542) (ht : -2000000000000 ≤ t ∧ t ≤ 2000000000000) (hl : 0 ≤ lg ∧ lg ≤ 4 * g.Cycle + 10000000) :
    ref30_Least N g per most t lg = some (gets g (most * per) t lg - 127 * per) := by
  have hL := mul_bounds hp hm
  have hcy := hg.cyc
  unfold ref30_Least
  rw [ref30_Always_eq (by omega) hg, Option.bind_some]
  have hgb := gets_bound (g := g) (most * per) t lg hL.1 hl.1
  cases hao : aoB g with
  | true =>
    have he : gets g (most * per) t lg = lg := by unfold gets; rw [if_pos hao]
    simp only [if_true]
    rw [w64_id (x := 127 * per) (by omega) (by omega), w64_id (x := lg - 127 * per) (by omega) (by omega), he]
  | false =>
    have he : gets g (most * per) t lg = cnt (wt (op6 g) (most * per)) (t + most * per) (t + lg) := by unfold gets; rw [if_neg (by simp [hao])]
    simp only [Bool.false_eq_true, if_false]
    obtain ⟨out, o1, o2⟩ := openings_law (N := N) (by omega) hg (a := t) (b := t + lg) (by omega) (by omega) (by omega) (by omega) (by omega)
    have hlen := runs_length (by omega) o2
    have hsum := runs_sum hL.1 o2
    rw [w64_id (x := t + lg) (by omega) (by omega), o1, Option.bind_some, w64_id (x := most * per) (by omega) (by omega), ref30_sum_eq (by simp at hlen; omega) (by simp at hlen; omega) (by omega) (fun o ho => by
      have := runs_mem o2 (prO o) (List.mem_map_of_mem ho)
      unfold prO at this
      simp only at this
      omega) (by rw [hsum]; omega), Option.bind_some, hsum, w64_id (x := 127 * per) (by omega) (by omega), w64_id (by omega) (by omega), he]

theorem sends_same {N : Nat} (hN : 60000000 ≤ N) (g : api_Gates) (per most t lg : Int) : ∃ r, service_Sends N g per most t lg = some r ∧ ref30_Sends N g per most t lg = some r := by
  by_cases h : errA g per most = 0
  · obtain ⟨hg, hp, hm⟩ := errA_zero h
    have hcy := hg.cyc
    by_cases hq : (-1099511627776 ≤ t ∧ t ≤ 1099511627776) ∧ (0 ≤ lg ∧ lg ≤ 4 * g.Cycle)
    · refine ⟨_, sends_eq hN hg hp hm hq.1 hq.2, ?_⟩
      unfold ref30_Sends
      rw [(check30_eq (by omega) g per most).2, h, Option.bind_some, if_neg (by simp), w64_id (x := 4 * g.Cycle) (by omega) (by omega), if_neg (by simp; omega), least_eq hN hg hp hm (by omega) (by omega), Option.bind_some]
    · refine ⟨(0, 2), ?_, ?_⟩
      · unfold service_Sends
        rw [(check30_eq (by omega) g per most).1, h, Option.bind_some, if_neg (by simp), w64_id (x := 4 * g.Cycle) (by omega) (by omega)]
        by_cases a1 : t < -1099511627776
        · simp [a1]
        · by_cases a2 : t > 1099511627776
          · simp [a1, a2]
          · by_cases a3 : lg < 0
            · simp [a1, a2, a3]
            · have a4 : lg > 4 * g.Cycle := by omega
              simp [a1, a2, a3, a4]
      · unfold ref30_Sends
        rw [(check30_eq (by omega) g per most).2, h, Option.bind_some, if_neg (by simp), w64_id (x := 4 * g.Cycle) (by omega) (by omega), if_pos]
        simp only [Bool.or_eq_true, decide_eq_true_eq]
        omega
  · refine ⟨(0, errA g per most), ?_, ?_⟩
    · unfold service_Sends
      rw [(check30_eq (by omega) g per most).1]
      simp [h]
    · unfold ref30_Sends
      rw [(check30_eq (by omega) g per most).2]
      simp [h]
end Go.Sh
