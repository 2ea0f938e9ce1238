/- The program's openings; yield and sends. -/
import Derived.Test.YtcbolnjnhiaiiaaSer2
namespace Go.Sh
open Go Go.Eng
set_option linter.unusedVariables false
set_option linter.unusedSimpArgs false

theorem runs_shrink {p : Int → Bool} {b c : Int} (hbc : b ≤ c) (hp : ∀ t, b ≤ t → t < c → p t = false) : ∀ {l : List (Int × Int)} {a : Int}, a ≤ b → IsRuns p c a l → IsRuns p b a l
  | [], a, hab, h => fun t u v => h t u (by omega)
  | x :: l, a, hab, ⟨h1, h2, h3, h4, h5, h6, h7⟩ => by
    have hx : x.2 ≤ b := by
      rcases Int.lt_or_le b x.2 with w | w
      · rcases Int.lt_or_le x.1 b with v | v
        · have := hp b (Int.le_refl _) (by omega); rw [h5 b (by omega) w] at this; cases this
        · have := hp x.1 v (by omega); rw [h5 x.1 (by omega) h2] at this; cases this
      · exact w
    exact ⟨h1, h2, hx, h4, h5, fun h => h6 (by omega), runs_shrink hbc hp hx h7⟩

def toOp (x : Int × Int) : service_opening := service_opening.mk x.1 (x.2 - x.1)

theorem sumW_mono {g : api_Gates} (hg : VG g) {j : Nat} : ∀ d : Nat, j + d ≤ 2 * g.Entries.length → sumW g j ≤ sumW g (j + d)
  | 0, _ => Int.le_refl _
  | d + 1, h => by
    have ih := sumW_mono hg (j := j) d (by omega)
    obtain ⟨e, e1, _, e3, _⟩ := sumW_at hg (j := j + d) (by omega)
    have := okE_iff.1 (hg.ok e (List.mem_of_getElem? e1))
    rw [show j + (d + 1) = j + d + 1 by omega, e3]
    omega

theorem sumW_cycle {g : api_Gates} (hg : VG g) {j : Nat} (hj : j ≤ g.Entries.length) (h0 : 0 < j) : sumW g (j + g.Entries.length) = sumW g j + g.Cycle := by
  unfold sumW
  rw [if_neg (by omega), if_pos hj, show j + g.Entries.length - g.Entries.length = j by omega]
  omega

/-- A round of openings: the runs in a cycle that begins at a closed tick. -/
structure Rnd (g : api_Gates) (a0 : Int) (l : List (Int × Int)) : Prop where
  lo : 0 ≤ a0
  hi : a0 < g.Cycle
  cl : op6 g a0 = false
  runs : IsRuns (op6 g) (a0 + g.Cycle) a0 l

theorem openings_fold {N : Nat} (hN : 200 ≤ N) {g : api_Gates} (hg : VG g) {c : Nat} {e : api_Entry} (h1 : g.Entries[c]? = some e) (h2 : bitB 6 e.Mask = false) (h3 : ∀ j, j < c → ∃ f, g.Entries[j]? = some f ∧ bitB 6 f.Mask = true)
    {σ : Type} {f : σ → service_opening → Option σ} (J : Nat → σ → Prop) (F : σ → service_opening → σ)
    (hf : ∀ k s x, k < 128 → J k s → 0 ≤ x.from_ → 0 < x.long → x.long ≤ g.Cycle → x.from_ + x.long ≤ 2 * g.Cycle → f s x = some (F s x) ∧ J (k + 1) (F s x)) (s0 : σ) (h0 : J 0 s0) :
    ∃ l, Rnd g (sumL (g.Entries.take c)) l ∧ service_openings_1 N (fun s x => yieldT (fun v => f v x) s) g s0 = some ((l.map toOp).foldl F s0) ∧ J l.length ((l.map toOp).foldl F s0) ∧ l.length ≤ 128 := by
  have hc := (List.getElem?_eq_some_iff.1 h1).1
  have hn := hg.2.1
  have hcy := hg.cyc
  have hs := hg.2.2.2.1
  have heo := okE_iff.1 (hg.ok e (List.mem_of_getElem? h1))
  have w0 : sumW g c = sumL (g.Entries.take c) := by unfold sumW; rw [if_pos (by omega)]
  obtain ⟨e', ee, hat0, w1, _, _⟩ := sumW_at hg (j := c) (by omega)
  rw [Nat.mod_eq_of_lt hc] at ee hat0
  have : e' = e := by rw [h1] at ee; simpa using ee.symm
  subst this
  have wlo : 0 ≤ sumW g c := by
    have := take_mono hg.ok (i := 0) (j := c) (by omega)
    simp only [List.take_zero, sumL] at this
    omega
  have wc1 : sumW g (c + 1) ≤ g.Cycle := by
    have : sumW g (c + 1) = sumL (g.Entries.take (c + 1)) := by unfold sumW; rw [if_pos (by omega)]
    have b := take_mono hg.ok (i := c + 1) (j := g.Entries.length) (by omega)
    rw [List.take_length] at b
    omega
  have wcyc := sumW_cycle hg (j := c + 1) (by omega) (by omega)
  unfold service_openings_1
  have hfirst := open_loop hN hg h1 h2 h3 (body := fun x : Int × Int => service_openings_1_L1 N g x.1 x.2) true (fun k s f hk s0 s1 => by
    have hkl := (List.getElem?_eq_some_iff.1 hk).1
    have hok := okE_iff.1 (hg.ok f (List.mem_of_getElem? hk))
    simp only [if_true]
    unfold service_openings_1_L1
    rw [if_pos (by simp; omega), idx_some hk, Option.bind_some, service_isOpen_eq N (hg.ok f (List.mem_of_getElem? hk)), Option.bind_some, Option.bind_some]
    cases bitB 6 f.Mask with
    | false => simp
    | true =>
      simp only [if_true, Option.bind_some]
      rw [w64_id (by omega) (by omega), w64_id (by omega) (by omega)]
      rfl)
  simp only [if_true] at hfirst
  rw [hfirst, Option.bind_some]
  simp only
  rw [if_neg (by simp; omega), idx_some h1, Option.bind_some, w64_id (by omega) (by omega), ← w0, ← w1]
  obtain ⟨r, r1, r2⟩ := iterF_of (body := fun x : Int × Int × Int × Int × σ => service_openings_1_L2 N (fun s x => yieldT (fun v => f v x) s) g ((c : Int), sumW g c) x.1 x.2.1 x.2.2.1 x.2.2.2.1 x.2.2.2.2)
    (fun x => ∃ (k : Nat) (done : List (Int × Int)), x.2.1 = k ∧ k ≤ g.Entries.length ∧ x.1 = sumW g (c + 1 + k) ∧ IsRuns (op6 g) x.1 (sumW g (c + 1)) (done ++ (if x.2.2.2.1 > 0 then [(x.2.2.1, x.1)] else [])) ∧ 0 ≤ x.2.2.2.1 ∧ (x.2.2.2.1 > 0 → x.2.2.1 = x.1 - x.2.2.2.1) ∧
      (x.2.2.2.1 = 0 → k = 0 ∨ op6 g (x.1 - 1) = false) ∧ x.2.2.2.2 = (done.map toOp).foldl F s0 ∧ J done.length x.2.2.2.2 ∧ done.length ≤ k ∧ (k = g.Entries.length → x.2.2.2.1 = 0))
    (fun x => g.Entries.length - x.2.1.toNat)
    (fun r => ∃ p done, r = .inl p ∧ IsRuns (op6 g) (sumW g (c + 1) + g.Cycle) (sumW g (c + 1)) done ∧ p.2.2.2.2 = (done.map toOp).foldl F s0 ∧ J done.length p.2.2.2.2 ∧ done.length ≤ 128) (fun x hx => by
      obtain ⟨t, i, nf, nl, s⟩ := x
      obtain ⟨k, done, rfl, hk, rfl, hr, hnl, hnf, hcl, hsd, hJ, hdl, hend⟩ := hx
      simp only at hr hnl hnf hcl hsd hJ hend ⊢
      unfold service_openings_1_L2
      by_cases hlt : k < g.Entries.length
      · left
        rw [if_pos (by simp; omega)]
        simp only
        obtain ⟨f1, ff, hat, wn, wl, wh⟩ := sumW_at hg (j := c + 1 + k) (by omega)
        have hok := okE_iff.1 (hg.ok f1 (List.mem_of_getElem? ff))
        have hmod : (((c : Int) + 1 + k).tmod (g.Entries.length : Int)) = (((c + 1 + k) % g.Entries.length : Nat) : Int) := by
          rw [Int.tmod_eq_emod_of_nonneg (by omega)]; simp
        have hmono := sumW_mono hg (j := c + 1) k (by omega)
        have hmono2 := sumW_mono hg (j := c + 1 + k) (g.Entries.length - k) (by omega)
        rw [show c + 1 + k + (g.Entries.length - k) = c + 1 + g.Entries.length by omega] at hmono2
        rw [w64_id (x := (c : Int) + 1) (by omega) (by omega), w64_id (x := (c : Int) + 1 + k) (by omega) (by omega), remI_pos (by omega), Option.bind_some, hmod, idx_some ff, Option.bind_some, service_isOpen_eq N (hg.ok f1 (List.mem_of_getElem? ff)), Option.bind_some]
        rw [w64_id (x := sumW g (c + 1 + k) + f1.Long) (by omega) (by omega), ← wn, w64_id (x := (k : Int) + 1) (by omega) (by omega)]
        have hop : ∀ u, sumW g (c + 1 + k) ≤ u → u < sumW g (c + 1 + k + 1) → op6 g u = bitB 6 f1.Mask := fun u u0 u1 => op6_in hg hat (by omega) (by omega)
        have hlast : op6 g (sumW g (c + 1 + k + 1) - 1) = bitB 6 f1.Mask := hop _ (by omega) (by omega)
        cases hbit : bitB 6 f1.Mask with
        | true =>
          simp only [if_true]
          have hnlb : nl ≤ g.Cycle := by
            by_cases hz : nl > 0
            · rw [if_pos hz] at hr
              have := runs_mem hr (nf, sumW g (c + 1 + k)) (by simp)
              have h9 := hnf hz
              simp only at this
              omega
            · omega
          rw [w64_id (x := nl + f1.Long) (by omega) (by omega)]
          have hne : k + 1 ≠ g.Entries.length := by
            intro hq
            have : (c + 1 + k) % g.Entries.length = c := by rw [show c + 1 + k = c + g.Entries.length by omega, Nat.add_mod_right, Nat.mod_eq_of_lt hc]
            rw [this, h1] at ff
            have : e' = f1 := by simpa using ff
            rw [this] at h2; rw [hbit] at h2; cases h2
          by_cases hz : nl = 0
          · have hz' : ¬ nl > 0 := by omega
            rw [if_pos (by simp [hz])]
            simp only [Option.bind_some]
            rw [if_neg hz'] at hr
            refine ⟨(sumW g (c + 1 + k + 1), (k : Int) + 1, sumW g (c + 1 + k), nl + f1.Long, s), rfl, ⟨k + 1, done, by simp, by omega, rfl, ?_, by simp only; omega, by simp only; omega, by simp only; omega, hsd, hJ, by omega, fun h => absurd h hne⟩, by simp only; omega⟩
            simp only
            rw [if_pos (by omega)]
            simp only [List.append_nil] at hr
            exact runs_snoc (b := sumW g (c + 1 + k)) (by omega) (fun u u0 u1 => by rw [hop u u0 u1, hbit]) hmono (by
              rcases hcl hz with h | h
              · left; subst h; rfl
              · exact .inr h) hr
          · have hz' : nl > 0 := by omega
            rw [if_neg (by simp [hz])]
            simp only [Option.bind_some]
            rw [if_pos hz'] at hr
            refine ⟨(sumW g (c + 1 + k + 1), (k : Int) + 1, nf, nl + f1.Long, s), rfl, ⟨k + 1, done, by simp, by omega, rfl, ?_, by simp only; omega, by simp only; have := hnf hz'; omega, by simp only; omega, hsd, hJ, by omega, fun h => absurd h hne⟩, by simp only; omega⟩
            simp only
            rw [if_pos (by omega)]
            exact runs_grow (by omega) (fun u u0 u1 => by rw [hop u u0 u1, hbit]) hr
        | false =>
          simp only [Bool.false_eq_true, if_false]
          by_cases hz : nl > 0
          · rw [if_pos (by simp [hz])]
            rw [if_pos hz] at hr
            have hm := runs_mem hr (nf, sumW g (c + 1 + k)) (by simp)
            have h9 := hnf hz
            simp only at hm
            obtain ⟨hF, hJ'⟩ := hf done.length s (service_opening.mk nf nl) (by omega) hJ (by simp only; omega) hz (by simp only; omega) (by simp only; omega)
            simp only [yieldT, hF, Option.map_some, Option.bind_some, Bool.not_true, Bool.false_eq_true, if_false]
            have hop1 : service_opening.mk nf nl = toOp (nf, sumW g (c + 1 + k)) := by unfold toOp; simp only [service_opening.mk.injEq, true_and]; omega
            refine ⟨(sumW g (c + 1 + k + 1), (k : Int) + 1, 0, 0, F s (service_opening.mk nf nl)), rfl, ⟨k + 1, done ++ [(nf, sumW g (c + 1 + k))], by simp, by omega, rfl, ?_, by simp, by simp, fun _ => .inr (by simp only; rw [← hbit]; exact hlast), ?_, by simpa using hJ', by simp; omega, fun _ => rfl⟩, by simp only; omega⟩
            · simp only [List.append_nil, gt_iff_lt, Int.lt_irrefl, if_false]
              exact runs_closed (by omega) (fun u u0 u1 => by rw [hop u u0 u1, hbit]) hr
            · simp only [List.map_append, List.map_cons, List.map_nil, List.foldl_append, List.foldl_cons, List.foldl_nil]
              rw [← hsd, hop1]
          · rw [if_neg (by simp [hz])]
            simp only [Option.bind_some, Bool.false_eq_true, if_false]
            rw [if_neg hz] at hr
            refine ⟨(sumW g (c + 1 + k + 1), (k : Int) + 1, 0, 0, s), rfl, ⟨k + 1, done, by simp, by omega, rfl, ?_, by simp, by simp, fun _ => .inr (by simp only; rw [← hbit]; exact hlast), hsd, hJ, by omega, fun _ => rfl⟩, by simp only; omega⟩
            simp only [List.append_nil, gt_iff_lt, Int.lt_irrefl, if_false] at hr ⊢
            exact runs_closed (by omega) (fun u u0 u1 => by rw [hop u u0 u1, hbit]) hr
      · right
        have hkn : k = g.Entries.length := by omega
        have hz := hend hkn
        rw [if_neg (by simp; omega)]
        rw [if_neg (by omega)] at hr
        simp only [List.append_nil] at hr
        rw [hkn, wcyc] at hr
        exact ⟨_, rfl, _, done, rfl, hr, hsd, hJ, by omega⟩) N (sumW g (c + 1), 0, 0, 0, s0)
    ⟨0, [], rfl, by omega, rfl, (by simp only [gt_iff_lt, Int.lt_irrefl, if_false, List.append_nil]; exact fun u u0 u1 => by omega), by simp, by simp, fun _ => .inl rfl, rfl, h0, by simp, fun h => rfl⟩ (by simp only; omega)
  obtain ⟨p, done, rfl, q1, q2, q3, q4⟩ := r2
  rw [r1, Option.bind_some]
  have hclosed : ∀ u, sumW g c ≤ u → u < sumW g (c + 1) → op6 g u = false := fun u u0 u1 => by rw [op6_in hg hat0 (by omega) (by omega), h2]
  have hclosed2 : ∀ u, sumW g c + g.Cycle ≤ u → u < sumW g (c + 1) + g.Cycle → op6 g u = false := fun u u0 u1 => by
    rw [← hclosed (u - g.Cycle) (by omega) (by omega), ← op6_period hg (u - g.Cycle), show u - g.Cycle + g.Cycle = u by omega]
  refine ⟨done, ⟨wlo, by omega, hclosed _ (Int.le_refl _) (by omega), ?_⟩, by simp only [q2], by rw [← q2]; exact q3, q4⟩
  exact runs_shrink (by omega) hclosed2 (by omega) (runs_front (by omega) hclosed q1)

theorem round_law {N : Nat} (hN : 10000000 ≤ N) {g : api_Gates} (hg : VG g) {c : Nat} {e : api_Entry} (h1 : g.Entries[c]? = some e) (h2 : bitB 6 e.Mask = false) (h3 : ∀ j, j < c → ∃ f, g.Entries[j]? = some f ∧ bitB 6 f.Mask = true) :
    ∃ out, ref30_Round N g = some out ∧ IsRuns (op6 g) (sumL (g.Entries.take c) + g.Cycle) (sumL (g.Entries.take c)) (out.map prO) := by
  have hc := (List.getElem?_eq_some_iff.1 h1).1
  have hcy := hg.cyc
  have hs := hg.2.2.2.1
  have hlen := hg.2.1
  have wlo := take_mono hg.ok (i := 0) (j := c) (by omega)
  have whi := take_mono hg.ok (i := c) (j := g.Entries.length) (by omega)
  rw [List.take_length] at whi
  simp only [List.take_zero, sumL] at wlo
  unfold ref30_Round
  have hfirst := open_loop (N := N) (by omega) hg h1 h2 h3 (body := fun x : Int × Int => ref30_Round_L1 N g x.1 x.2) false (fun k s f hk s0 s1 => by
    have hkl := (List.getElem?_eq_some_iff.1 hk).1
    have hok := okE_iff.1 (hg.ok f (List.mem_of_getElem? hk))
    simp only [Bool.false_eq_true, if_false]
    unfold ref30_Round_L1
    rw [if_pos (by simp; omega), idx_some hk, Option.bind_some, bits_ref N ⟨hok.1, hok.2.1⟩ (by omega), Option.bind_some, Option.bind_some]
    cases bitB 6 f.Mask with
    | false => simp
    | true =>
      simp only [if_true, Option.bind_some]
      rw [w64_id (by omega) (by omega), w64_id (by omega) (by omega)]
      rfl)
  simp only [Bool.false_eq_true, if_false] at hfirst
  rw [hfirst, Option.bind_some]
  simp only
  rw [w64_id (by omega) (by omega)]
  obtain ⟨out, o1, o2⟩ := openings_law (N := N) (by omega) hg (a := sumL (g.Entries.take c)) (b := sumL (g.Entries.take c) + g.Cycle) (by omega) (by omega) (by omega) (by omega) (by omega)
  exact ⟨out, by rw [o1]; rfl, o2⟩
end Go.Sh
