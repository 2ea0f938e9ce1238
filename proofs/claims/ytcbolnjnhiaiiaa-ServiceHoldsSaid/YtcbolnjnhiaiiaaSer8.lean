/- Of: the program and the reference. -/
import Derived.Test.YtcbolnjnhiaiiaaSer7
namespace Go.Sh
open Go Go.Eng
set_option linter.unusedVariables false
set_option linter.unusedSimpArgs false

theorem openings_none {N : Nat} (hN : 200 ≤ N) {g : api_Gates} (hg : VG g) (hao : aoB g = true) {σ : Type} (y : σ → service_opening → Option (σ × Bool)) (s : σ) : service_openings_1 N y g s = some s := by
  have hl := hg.2.1
  have hcy := hg.cyc
  unfold service_openings_1
  obtain ⟨r, h1, h2⟩ := iterF_of (body := fun x : Int × Int => service_openings_1_L1 N g x.1 x.2) (fun x => ∃ k : Nat, x.1 = k ∧ k ≤ g.Entries.length ∧ 0 ≤ x.2 ∧ x.2 ≤ 9600000 * k) (fun x => g.Entries.length - x.1.toNat) (fun r => r.1 = g.Entries.length) (fun x hx => by
    obtain ⟨i, a⟩ := x
    obtain ⟨k, e1, e2, e3, e4⟩ := hx
    simp only at e1 e3 e4 ⊢
    subst e1
    unfold service_openings_1_L1
    by_cases hk : k < g.Entries.length
    · left
      have hm : g.Entries[k] ∈ g.Entries := List.getElem_mem hk
      have hok := okE_iff.1 (hg.ok _ hm)
      have hb : bitB 6 g.Entries[k].Mask = true := List.all_eq_true.1 hao _ hm
      refine ⟨(((k + 1 : Nat) : Int), a + g.Entries[k].Long), ?_, ⟨k + 1, rfl, by omega, by simp only; omega, by simp only; omega⟩, by simp only; omega⟩
      rw [if_pos (by simpa using hk), idx_nat, List.getElem?_eq_getElem hk, Option.bind_some, service_isOpen_eq N (hg.ok _ hm), Option.bind_some, Option.bind_some, hb]
      simp only [if_true, Option.bind_some]
      rw [w64_id (by omega) (by omega), w64_id (by omega) (by omega)]
      rfl
    · right
      refine ⟨((k : Int), a), ?_, by simp only; omega⟩
      rw [if_neg (by simp; omega)]
      rfl) N (0, 0) ⟨0, rfl, by omega, by simp, by simp⟩ (by simp; omega)
  rw [h1, Option.bind_some, if_pos (by simp [h2])]

/-- What the latency must make up for in an interval. -/
noncomputable def Vv (g : api_Gates) (L R per t x : Int) : Int := x * R - (gets g L t x - 127 * per) * 1048576

def IsLat (g : api_Gates) (L R per Lat : Int) : Prop := (∃ t x, 0 ≤ x ∧ x ≤ 30000000 ∧ (Lat - 1) * R < Vv g L R per t x) ∧ ∀ t x, 0 ≤ x → Vv g L R per t x ≤ Lat * R

theorem IsLat_unique {g : api_Gates} {L R per a b : Int} (hR : 0 < R) (ha : IsLat g L R per a) (hb : IsLat g L R per b) : a = b := by
  have key : ∀ a b, IsLat g L R per a → IsLat g L R per b → ¬ a < b := by
    intro a b ha hb hlt
    obtain ⟨t, x, h1, _, h2⟩ := hb.1
    have h3 := ha.2 t x h1
    have h4 := Int.mul_le_mul_of_nonneg_right (show a ≤ b - 1 by omega) (show 0 ≤ R by omega)
    omega
  have h1 := key a b ha hb
  have h2 := key b a hb ha
  omega

theorem floorDiv_eq {N : Nat} {a b : Int} (ha : -1000000000000000000 ≤ a ∧ a ≤ 1000000000000000000) (hb : 0 < b ∧ b ≤ 1000000000000) : service_floorDiv N a b = some (a / b) := by
  have hd := Int.mul_ediv_add_emod a b
  have h0 := Int.emod_nonneg a (show b ≠ 0 by omega)
  have h1 := Int.emod_lt_of_pos a hb.1
  have t0 : -b < a.tmod b ∧ a.tmod b < b := by
    have := Int.tmod_lt_of_pos a hb.1
    have h2 := Int.lt_tmod_of_pos a hb.1
    omega
  unfold service_floorDiv service_mod
  rw [remI_pos (by omega), Option.bind_some, w64_id (by omega) (by omega), remI_pos (by omega), Option.bind_some, Option.bind_some, tmod_mod hb.1, w64_id (by omega) (by omega), quoI_pos (by omega), Option.bind_some]
  have hx : a - a % b = b * (a / b) := by omega
  have hq : (a - a % b).tdiv b = a / b := by rw [hx, Int.mul_tdiv_cancel_left _ (by omega)]
  rw [hq]
  have hbound : -1000000000000000000 ≤ a / b ∧ a / b ≤ 1000000000000000000 := by
    constructor
    · exact Int.le_ediv_of_mul_le hb.1 (by have := Int.mul_le_mul_of_nonneg_left (show 1 ≤ b by omega) (show (0 : Int) ≤ 1000000000000000000 by decide); omega)
    · have := Int.ediv_le_ediv hb.1 ha.2
      have h2 : (1000000000000000000 : Int) / b ≤ 1000000000000000000 := Int.ediv_le_self _ (by decide)
      omega
  exact congrArg some (w64_id (by omega) (by omega))

def keepL (R lat long S : Int) : Int := if long - S * 1048576 / R > lat then long - S * 1048576 / R else lat

theorem of1_eq {N : Nat} {q per R long S lat : Int} (hR : q * per = R) (h0 : 0 < R ∧ R ≤ 1048576) (hl : -100000000 ≤ long ∧ long ≤ 100000000) (hS : -100000000 ≤ S ∧ S ≤ 100000000) : service_Of_1 N long S lat q per = some (keepL R lat long S) := by
  unfold service_Of_1 keepL
  rw [hR, w64_id (x := S * 1048576) (by omega) (by omega), w64_id (x := R) (by omega) (by omega), floorDiv_eq (by omega) (by omega), Option.bind_some]
  have hd := Int.mul_ediv_add_emod (S * 1048576) R
  have hbound : -200000000000000 ≤ S * 1048576 / R ∧ S * 1048576 / R ≤ 200000000000000 := by
    constructor
    · exact Int.le_ediv_of_mul_le h0.1 (by have := Int.mul_le_mul_of_nonneg_left (show 1 ≤ R by omega) (show (0 : Int) ≤ 200000000000000 by decide); omega)
    · have := Int.ediv_le_ediv h0.1 (show S * 1048576 ≤ 200000000000000 by omega)
      have h2 : (200000000000000 : Int) / R ≤ 200000000000000 := Int.ediv_le_self _ (by decide)
      omega
  rw [w64_id (by omega) (by omega)]

theorem keep_ok {R lat long S : Int} (hR : 0 < R) : lat ≤ keepL R lat long S ∧ long * R - S * 1048576 ≤ keepL R lat long S * R ∧ (keepL R lat long S = lat ∨ (keepL R lat long S - 1) * R < long * R - S * 1048576) := by
  have hd := Int.mul_ediv_add_emod (S * 1048576) R
  have h0 := Int.emod_nonneg (S * 1048576) (show R ≠ 0 by omega)
  have h1 := Int.emod_lt_of_pos (S * 1048576) hR
  rw [Int.mul_comm R] at hd
  unfold keepL
  split
  · refine ⟨by omega, ?_, Or.inr ?_⟩
    · rw [Int.sub_mul]; omega
    · rw [Int.sub_mul, Int.sub_mul]; omega
  · rename_i hc
    refine ⟨Int.le_refl _, ?_, Or.inl rfl⟩
    have := Int.mul_le_mul_of_nonneg_right (show long - S * 1048576 / R ≤ lat by omega) (show 0 ≤ R by omega)
    rw [Int.sub_mul] at this
    omega

theorem div01 {m n : Nat} (h : m < 2 * n) : m / n = 0 ∨ m / n = 1 := by
  have := Nat.div_lt_of_lt_mul (show m < n * 2 by omega)
  revert this
  generalize m / n = d
  intro this
  omega

theorem Rnd.toPer {g : api_Gates} (hg : VG g) {a0 : Int} {l : List (Int × Int)} (h : Rnd g a0 l) : Per (op6 g) g.Cycle a0 l := ⟨by have := hg.cyc; omega, fun t => op6_period hg t, h.cl, h.runs⟩

theorem Rnd.bnd {g : api_Gates} (hg : VG g) {a0 : Int} {l : List (Int × Int)} (h : Rnd g a0 l) (hn : 0 < l.length) {m : Nat} (hm : m < 2 * l.length) : 0 ≤ rB l g.Cycle m ∧ rE l g.Cycle m ≤ 3 * g.Cycle := by
  have hcy := hg.cyc
  have h0 := h.lo
  have h1 := h.hi
  obtain ⟨x, e1, e2, e3, e4, e5, e6, e7⟩ := runs_get h.runs (m % l.length) (Nat.mod_lt _ hn)
  have e8 := runs_mem h.runs x (List.mem_of_getElem? e1)
  unfold rB rE
  rw [e1]
  simp only [Option.getD_some]
  rcases div01 hm with w | w
  · rw [w, Int.natCast_zero, Int.zero_mul]; omega
  · rw [w, Int.natCast_one, Int.one_mul]; omega

theorem mi_comm (a b : Int) : (if b < a then b else a) = mi a b := by unfold mi; split <;> split <;> omega

theorem mi_bnd {a b : Int} (ha : 0 ≤ a) (hb : 0 ≤ b) : 0 ≤ mi a b ∧ mi a b ≤ a ∧ mi a b ≤ b := by unfold mi; split <;> omega

theorem gaps_inner {N : Nat} (hN : 200 ≤ N) {g : api_Gates} (hg : VG g) {a0 : Int} {l : List (Int × Int)} (hr : Rnd g a0 l) (hl : l.length ≤ 128) {L : Int} (hL : 0 ≤ L ∧ L ≤ 1542000) {y : Int → Int → Int → Option Int} {Q : Int → Prop} {D : Nat → Nat → Int → Prop}
    {i : Nat} (hi : i < l.length) {x : Int × Int} (hx : l[i]? = some x)
    (hy : ∀ lat k, k < l.length → Q lat → ∃ lat', y lat (cT l g.Cycle L (i + k + 1) - cF l g.Cycle L i) (cnt (wt (op6 g) L) (rE l g.Cycle i) (rE l g.Cycle (i + k))) = some lat' ∧ Q lat' ∧ lat ≤ lat' ∧ D i k lat')
    (hD : ∀ i k a b, a ≤ b → D i k a → D i k b) (s0 : Int) (h0 : Q s0) :
    ∃ r, iterF (fun x_1 : Int × Int × Int => service_gaps_L3 N g L y (l.map toOp) i (toOp x) x_1.1 x_1.2.1 x_1.2.2) N (0, 0, s0) = some r ∧ Q r.2.2 ∧ s0 ≤ r.2.2 ∧ ∀ k, k < l.length → D i k r.2.2 := by
  have hcy := hg.cyc
  have hn : 0 < l.length := by omega
  have hp := hr.toPer hg
  have hB : rB l g.Cycle i = x.1 := by unfold rB; rw [Nat.mod_eq_of_lt hi, hx, Nat.div_eq_of_lt hi]; simp
  have hE : rE l g.Cycle i = x.2 := by unfold rE; rw [Nat.mod_eq_of_lt hi, hx, Nat.div_eq_of_lt hi]; simp
  have oi := (hp.open_ hn i).1
  have bi := hr.bnd hg hn (m := i) (by omega)
  refine iterF_of (fun z : Int × Int × Int => ∃ k : Nat, z.2.1 = (k : Int) ∧ k ≤ l.length ∧ z.1 = cnt (wt (op6 g) L) (rE l g.Cycle i) (rE l g.Cycle (i + k)) ∧ Q z.2.2 ∧ s0 ≤ z.2.2 ∧ ∀ k', k' < k → D i k' z.2.2) (fun z => l.length - z.2.1.toNat) _ (fun z hz => ?_) N (0, 0, s0) ⟨0, rfl, by omega, by simp only [Nat.add_zero]; rw [cnt_nil (Int.le_refl _)], h0, Int.le_refl _, fun k' h => by omega⟩ (by simp; omega)
  obtain ⟨sent, kk, lat⟩ := z
  obtain ⟨k, e1, e2, e3, e4, e5, e6⟩ := hz
  simp only at e1 e3 e4 e5 e6 ⊢
  subst e1
  unfold service_gaps_L3
  by_cases hk : k < l.length
  · left
    obtain ⟨lat', y1, y2, y3, y4⟩ := hy lat k hk e4
    have bj := hr.bnd hg hn (m := i + k + 1) (by omega)
    have oj := (hp.open_ hn (i + k + 1)).1
    have bik := hr.bnd hg hn (m := i + k) (by omega)
    have mo := hp.mono hn i k
    have hc0 := cnt_nonneg (wt (op6 g) L) (rE l g.Cycle i) (rE l g.Cycle (i + k))
    have hc1 := cnt_bound (q := wt (op6 g) L) mo
    have hrun := cnt_run hp hn hL.1 (i + k)
    have mo2 := hp.mono hn (i + k) 1
    have hsp := cnt_split (q := wt (op6 g) L) mo mo2
    have hfl : 0 ≤ f0 L (rE l g.Cycle (i + k + 1) - rB l g.Cycle (i + k + 1)) ∧ f0 L (rE l g.Cycle (i + k + 1) - rB l g.Cycle (i + k + 1)) ≤ rE l g.Cycle (i + k + 1) - rB l g.Cycle (i + k + 1) := by unfold f0; split <;> omega
    obtain ⟨z, z1, _⟩ := runs_get hr.runs ((i + k + 1) % l.length) (Nat.mod_lt _ hn)
    have hBj : rB l g.Cycle (i + k + 1) = z.1 + (((i + k + 1) / l.length : Nat) : Int) * g.Cycle := by unfold rB; rw [z1]; rfl
    have hEj : rE l g.Cycle (i + k + 1) = z.2 + (((i + k + 1) / l.length : Nat) : Int) * g.Cycle := by unfold rE; rw [z1]; rfl
    have hmj := mi_bnd (a := L) (b := rE l g.Cycle (i + k + 1) - rB l g.Cycle (i + k + 1)) hL.1 (by omega)
    have hmi := mi_bnd (a := L) (b := rE l g.Cycle i - rB l g.Cycle i) hL.1 (by omega)
    have hzm := runs_mem hr.runs z (List.mem_of_getElem? z1)
    have hlo := hr.lo
    have hhi := hr.hi
    have hdc : 0 ≤ (((i + k + 1) / l.length : Nat) : Int) * g.Cycle ∧ (((i + k + 1) / l.length : Nat) : Int) * g.Cycle ≤ g.Cycle := by
      rcases div01 (show i + k + 1 < 2 * l.length by omega) with w | w
      · rw [w, Int.natCast_zero, Int.zero_mul]; omega
      · rw [w, Int.natCast_one, Int.one_mul]; omega
    have hdq : 0 ≤ (((i + k + 1) / l.length : Nat) : Int) ∧ (((i + k + 1) / l.length : Nat) : Int) ≤ 1 := by
      rcases div01 (show i + k + 1 < 2 * l.length by omega) with w | w <;> rw [w] <;> simp
    refine ⟨(cnt (wt (op6 g) L) (rE l g.Cycle i) (rE l g.Cycle (i + (k + 1))), ((k + 1 : Nat) : Int), lat'), ?_, ⟨k + 1, rfl, by omega, rfl, y2, by simp only; omega, fun k' h' => ?_⟩, by simp only; omega⟩
    · have hj : w64 (w64 ((i : Int) + 1) + (k : Int)) = ((i + k + 1 : Nat) : Int) := by
        rw [w64_id (x := (i : Int) + 1) (by omega) (by omega), w64_id (by omega) (by omega)]; omega
      rw [if_pos (by simpa using hk), hj, List.length_map, remI_pos (by omega), Option.bind_some, Int.tmod_eq_emod_of_nonneg (by omega), show ((i + k + 1 : Nat) : Int) % (l.length : Int) = (((i + k + 1) % l.length : Nat) : Int) by omega, idx_nat, List.getElem?_map, z1]
      simp only [Option.map_some, Option.bind_some]
      rw [quoI_pos (by omega), Option.bind_some, Int.tdiv_eq_ediv_of_nonneg (by omega), show ((i + k + 1 : Nat) : Int) / (l.length : Int) = (((i + k + 1) / l.length : Nat) : Int) by rfl]
      have hwq : IntKind.i64.wrap ((((i + k + 1) / l.length : Nat) : Int)) = (((i + k + 1) / l.length : Nat) : Int) := w64_id (by omega) (by omega)
      rw [hwq, mi_comm L (toOp z).long, mi_comm L (toOp x).long]
      have hz1 : (toOp z).long = rE l g.Cycle (i + k + 1) - rB l g.Cycle (i + k + 1) := by show z.2 - z.1 = _; omega
      have hz2 : (toOp z).from_ = z.1 := rfl
      have hx1 : (toOp x).long = rE l g.Cycle i - rB l g.Cycle i := by show x.2 - x.1 = _; omega
      have hx2 : (toOp x).from_ = rB l g.Cycle i := by show x.1 = _; omega
      rw [hz1, hz2, hx1, hx2, w64_id (x := (((i + k + 1) / l.length : Nat) : Int) * g.Cycle) (by omega) (by omega), ← hBj, show rB l g.Cycle i + (rE l g.Cycle i - rB l g.Cycle i) = rE l g.Cycle i by omega]
      rw [w64_id (x := rB l g.Cycle (i + k + 1)) (by omega) (by omega), w64_id (x := rE l g.Cycle i) (by omega) (by omega), w64_id (x := rB l g.Cycle (i + k + 1) + _) (by omega) (by omega), w64_id (x := rE l g.Cycle i - _) (by omega) (by omega)]
      rw [show rB l g.Cycle (i + k + 1) + mi L (rE l g.Cycle (i + k + 1) - rB l g.Cycle (i + k + 1)) = cT l g.Cycle L (i + k + 1) from rfl, show rE l g.Cycle i - mi L (rE l g.Cycle i - rB l g.Cycle i) = cF l g.Cycle L i from rfl]
      have hcT : 0 ≤ cT l g.Cycle L (i + k + 1) ∧ cT l g.Cycle L (i + k + 1) ≤ 3 * g.Cycle := by unfold cT; omega
      have hcF : 0 ≤ cF l g.Cycle L i ∧ cF l g.Cycle L i ≤ 3 * g.Cycle := by unfold cF; omega
      rw [w64_id (x := cT l g.Cycle L (i + k + 1) - cF l g.Cycle L i) (by omega) (by omega), e3, y1, Option.bind_some, w64_id (x := rE l g.Cycle (i + k + 1) - rB l g.Cycle (i + k + 1) - L) (by omega) (by omega)]
      rw [show (if rE l g.Cycle (i + k + 1) - rB l g.Cycle (i + k + 1) - L > 0 then rE l g.Cycle (i + k + 1) - rB l g.Cycle (i + k + 1) - L else 0) = f0 L (rE l g.Cycle (i + k + 1) - rB l g.Cycle (i + k + 1)) from rfl, w64_id (by omega) (by omega), w64_id (x := (k : Int) + 1) (by omega) (by omega)]
      rw [show i + (k + 1) = i + k + 1 by omega, hsp, hrun]
      rfl
    · rcases Nat.lt_or_ge k' k with w | w
      · exact hD _ _ _ _ y3 (e6 k' w)
      · rw [show k' = k by omega]; exact y4
  · right
    refine ⟨(sent, (k : Int), lat), ?_, e4, e5, fun k' h' => e6 k' (by omega)⟩
    rw [if_neg (by simp; omega)]
end Go.Sh
