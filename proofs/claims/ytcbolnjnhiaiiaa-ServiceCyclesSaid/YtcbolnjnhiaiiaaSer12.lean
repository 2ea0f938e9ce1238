/- ServiceCycles. -/
import Derived.Test.YtcbolnjnhiaiiaaSer11
namespace Go.Sh
open Go Go.Eng
set_option linter.unusedVariables false
set_option linter.unusedSimpArgs false

theorem ao_of_all {g : api_Gates} (hg : VG g) (h : ∀ u, 0 ≤ u → u < g.Cycle → op6 g u = true) : aoB g = true := by
  cases hao : aoB g with
  | true => rfl
  | false =>
    obtain ⟨c, e, h1, h2, h3⟩ := closed_first hao
    have hc := (List.getElem?_eq_some_iff.1 h1).1
    have heo := okE_iff.1 (hg.ok e (List.mem_of_getElem? h1))
    have hs := hg.2.2.2.1
    have t0 := take_mono hg.ok (i := 0) (j := c) (by omega)
    have t1 := take_mono hg.ok (i := c + 1) (j := g.Entries.length) (by omega)
    have t2 := take_sum h1
    rw [List.take_length] at t1
    simp only [List.take_zero, sumL] at t0
    have hat : AtE g.Entries (sumL (g.Entries.take c)) c e 0 := ⟨h1, by omega, by omega, by rw [Int.emod_eq_of_lt (by omega) (by omega)]; omega⟩
    have hcl : op6 g (sumL (g.Entries.take c)) = false := by rw [op6_in hg hat (u := sumL (g.Entries.take c)) (by omega) (by omega), h2]
    rw [h _ (by omega) (by omega)] at hcl
    cases hcl

theorem closed_cycle {g : api_Gates} (hg : VG g) {L a : Int} (hL : 0 ≤ L) (hcl : op6 g a = false) : gets g L a g.Cycle = yld g L := by
  have hcy := hg.cyc
  have hao : aoB g = false := by
    cases hao : aoB g with
    | false => rfl
    | true => rw [ao_open hg hao a] at hcl; cases hcl
  unfold gets
  rw [if_neg (by simp [hao]), ← yld_any hg L a]
  have z : ∀ t, a ≤ t → t ≤ a + L → wt (op6 g) L t = false := fun t u v => wt_false hL (u := a) (by omega) u hcl
  rcases Int.lt_or_le (a + g.Cycle) (a + L) with w | w
  · rw [cnt_nil (by omega), cnt_zero fun t u v => z t u (by omega)]
  · rw [cnt_split (x := a) (m := a + L) (y := a + g.Cycle) (by omega) (by omega), cnt_zero (x := a) (y := a + L) fun t u v => z t u (by omega)]
    omega

theorem yield_val {N : Nat} (hN : 200 ≤ N) {g : api_Gates} (hg : VG g) {per most : Int} (hp : 1 ≤ per ∧ per ≤ 1000) (hm : 84 ≤ most ∧ most ≤ 1542) : service_Yield N g per most = some (Yl g (most * per), 0) := by
  have hL := mul_bounds hp hm
  have herr : errA g per most = 0 := by unfold errA; rw [if_pos hg, if_pos (by omega)]
  unfold service_Yield
  rw [(check30_eq hN g per most).1, herr, Option.bind_some, if_neg (by simp), w64_id (x := most * per) (by omega) (by omega), yield_eq hN hg (by omega), Option.bind_some]
  rfl

theorem yields_true {N : Nat} (hN : 60000000 ≤ N) {g : api_Gates} (hg : VG g) {per most : Int} (hp : 1 ≤ per ∧ per ≤ 1000) (hm : 84 ≤ most ∧ most ≤ 1542) : law30_yields N g per most = some true := by
  have hL := mul_bounds hp hm
  have hcy := hg.cyc
  have hlen := hg.2.1
  have hs := hg.2.2.2.1
  have hY := Yl_bound hg (most * per)
  unfold law30_yields
  rw [yield_val (by omega) hg hp hm, Option.bind_some]
  obtain ⟨o, o1, o2⟩ := iterF_of (body := fun x : Int × Int => law30_yields_L1 N g per most (Yl g (most * per), 0) x.1 x.2) (fun z : Int × Int => ∃ k : Nat, z.2 = (k : Int) ∧ k ≤ g.Entries.length + 1 ∧ 0 ≤ z.1 ∧ z.1 ≤ 9600000 * k ∧ (∀ u, 0 ≤ u → u < z.1 → op6 g u = true) ∧ sumL (g.Entries.take k) ≤ z.1) (fun z => g.Entries.length + 1 - z.2.toNat) (fun r => (∃ z, r = .inl z ∧ aoB g = true) ∨ r = .inr true) (fun z hz => by
    obtain ⟨a, kk⟩ := z
    obtain ⟨k, e1, e2, e3, e4, e5, e6⟩ := hz
    simp only at e1 e3 e4 e5 e6 ⊢
    subst e1
    unfold law30_yields_L1
    by_cases hk : k ≤ g.Entries.length
    · rw [if_pos (by simpa using hk)]
      obtain ⟨n, k1, k2, k3, k4, k5⟩ := open_facts (N := N) (by omega) hg (t := a) (by omega)
      rw [k1, Option.bind_some]
      by_cases hn : n = 0
      · right
        have hcl := k4 hn
        have hcc := closed_cycle hg (L := most * per) hL.1 hcl
        have hao : aoB g = false := by
          cases hao : aoB g with
          | false => rfl
          | true => rw [ao_open hg hao a] at hcl; cases hcl
        have hYl : Yl g (most * per) = yld g (most * per) := by unfold Yl; rw [if_neg (by simp [hao])]
        refine ⟨.inr true, ?_, Or.inr rfl⟩
        rw [if_pos (by simp [hn]), if_pos (by simp), (law_sends hN hg (t := a) (lg := g.Cycle) hp hm (by omega) (by omega)).1, Option.bind_some, Option.bind_some]
        simp only
        rw [w64_id (x := 127 * per) (by omega) (by omega), w64_id (by omega) (by omega)]
        unfold snd
        rw [hcc, hYl, beq_self_eq_true]
      · rw [if_neg (by simp [hn])]
        have hop : op6 g a = true := k5 hn a (Int.le_refl _) (by omega)
        rcases turn_facts (N := N) (by omega) hg (t := a) (by omega) with ⟨t1, t2⟩ | ⟨r, t1, t2, t3, t4, t5⟩
        · right
          rw [t1, Option.bind_some, if_pos (by simp)]
          refine ⟨_, rfl, Or.inl ⟨_, rfl, ao_of_all hg fun u _ _ => ?_⟩⟩
          unfold op6 at hop ⊢
          rw [t2 u]; exact hop
        · left
          rw [t1, Option.bind_some, if_neg (by simp), w64_id (by omega) (by omega)]
          refine ⟨(r, ((k + 1 : Nat) : Int)), rfl, ⟨k + 1, rfl, by omega, by simp only; omega, by simp only; omega, fun u u0 u1 => ?_, ?_⟩, by simp only; omega⟩
          · rcases Int.lt_or_le u a with w | w
            · exact e5 u u0 w
            · unfold op6 at hop ⊢
              rw [t4 u w u1]; exact hop
          · simp only
            rcases Nat.lt_or_ge k g.Entries.length with w | w
            · rcases Int.lt_or_le a (sumL (g.Entries.take (k + 1))) with v | v
              · have hke := List.getElem?_eq_getElem w
                have ts := take_sum hke
                have tm := take_mono hg.ok (i := k + 1) (j := g.Entries.length) (by omega)
                rw [List.take_length] at tm
                have hat : AtE g.Entries a k g.Entries[k] (a - sumL (g.Entries.take k)) := ⟨hke, by omega, by omega, by rw [Int.emod_eq_of_lt (by omega) (by omega)]; omega⟩
                rcases Int.lt_or_le r (sumL (g.Entries.take (k + 1))) with x | x
                · exfalso
                  apply t5
                  have hm1 := ticks_in hg.ok hat (k := r - a) (by omega) (by omega)
                  rw [show a + (r - a) = r by omega] at hm1
                  rw [hm1, mAt_eq hg.ok hat]
                · exact x
              · omega
            · rw [List.take_of_length_le (by omega)]
              rw [List.take_of_length_le w] at e6
              omega
    · right
      rw [if_neg (by simpa using hk)]
      refine ⟨_, rfl, Or.inl ⟨_, rfl, ao_of_all hg fun u u0 u1 => e5 u u0 ?_⟩⟩
      rw [List.take_of_length_le (by omega)] at e6
      omega) N (0, 0) ⟨0, rfl, by omega, by simp, by simp, fun u u0 u1 => by simp at u1; omega, by simp [sumL]⟩ (by simp; omega)
  rw [o1, Option.bind_some]
  rcases o2 with ⟨z, rfl, hao⟩ | rfl
  · simp only
    unfold Yl
    rw [if_pos hao]
    simp
  · rfl

theorem serviceCycles_true (d : ref30_Draft) (per most : Int) (hd : Rg_ref30_Draft d) (hper : InK .u8 per) (hmost : InK .u8 most) : ∃ N, law30_ServiceCycles N d per most = some true := by
  refine ⟨60000000, ?_⟩
  obtain ⟨g, hx, hg, hlen, hlong, hC⟩ := draft30 (N := 60000000) (by decide) hd
  have hcy := hg.cyc
  obtain ⟨p, ep, p1, p5⟩ := arg_p hper
  obtain ⟨m, em, m1, m2⟩ := arg_m hmost
  have hp : 1 ≤ p ∧ p ≤ 1000 := by omega
  have hm : 84 ≤ m ∧ m ≤ 1542 := by omega
  have hL := mul_bounds hp hm
  have hY := Yl_bound hg (m * p)
  have hcp : 0 < g.Cycle * p ∧ g.Cycle * p ≤ 9600000 * 1000 := ⟨Int.mul_pos (by omega) (by omega), Int.mul_le_mul hcy.2 hp.2 (by omega) (by omega)⟩
  unfold law30_ServiceCycles
  rw [works30, hx, ep, em]
  simp only [Option.bind_some, Bool.not_true, Bool.false_eq_true, if_false]
  rw [yield_val (by decide) hg hp hm, Option.bind_some]
  obtain ⟨a1, a2⟩ := of_eq (N := 60000000) (by decide) hg hp hm rfl
  have rf := rate_facts hg (L := m * p) hp rfl
  generalize Yl g (m * p) * 1048576 / (g.Cycle * p) = q at *
  have hyt := yields_true (N := 60000000) (by decide) hg hp hm
  rcases Int.lt_or_le q 1 with w | w
  · rw [a1 w, Option.bind_some, if_neg (by simp), hyt]
    simp only [Option.bind_some, Bool.not_true, Bool.false_eq_true, if_false]
    have hq0 : q = 0 := by omega
    subst hq0
    have h4 := rf.2.2.2.1
    rw [Int.zero_add, Int.one_mul] at h4
    rw [w64_id (by omega) (by omega), w64_id (x := g.Cycle * p) (by omega) (by omega)]
    simp [h4]
  · obtain ⟨Lat, hLat, hof⟩ := a2 w
    rw [hof, Option.bind_some, if_neg (by simp), hyt]
    simp only [Option.bind_some, Bool.not_true, Bool.false_eq_true, if_false]
    have hqC : 0 ≤ q * g.Cycle ∧ q * g.Cycle ≤ 1048576 * 9600000 := ⟨Int.mul_nonneg (by omega) (by omega), Int.mul_le_mul rf.2.1 hcy.2 (by omega) (by omega)⟩
    have hqC1 : 0 ≤ (q + 1) * g.Cycle ∧ (q + 1) * g.Cycle ≤ 1048577 * 9600000 := ⟨Int.mul_nonneg (by omega) (by omega), Int.mul_le_mul (by omega) hcy.2 (by omega) (by omega)⟩
    have h1 : 0 ≤ (q + 1) * g.Cycle * p ∧ (q + 1) * g.Cycle * p ≤ 1048577 * 9600000 * 5 := ⟨Int.mul_nonneg (by omega) (by omega), Int.mul_le_mul hqC1.2 p5 (by omega) (by omega)⟩
    have h2 : 0 ≤ q * g.Cycle * p := Int.mul_nonneg (by omega) (by omega)
    have h3 := rf.2.2.1
    have h4 := rf.2.2.2.1
    rw [w64_id (x := q * g.Cycle) (by omega) (by omega), w64_id (x := q + 1) (by omega) (by omega), w64_id (x := (q + 1) * g.Cycle) (by omega) (by omega), w64_id (x := q * g.Cycle * p) (by omega) (by omega), w64_id (x := (q + 1) * g.Cycle * p) (by omega) (by omega), w64_id (by omega) (by omega)]
    simp [h3, h4]
end Go.Sh
