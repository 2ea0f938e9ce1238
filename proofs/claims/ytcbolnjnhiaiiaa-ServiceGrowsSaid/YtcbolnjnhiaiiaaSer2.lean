/- Openings of class 6: of the reference and of the program. -/
import Derived.Test.YtcbolnjnhiaiiaaSer1
namespace Go.Sh
open Go Go.Eng
set_option linter.unusedVariables false
set_option linter.unusedSimpArgs false

/-- Class 6 is open at a tick. -/
noncomputable def op6 (g : api_Gates) (t : Int) : Bool := bitB 6 (mAt g.Entries t)

theorem VG.cyc {g : api_Gates} (h : VG g) : 1 ≤ g.Cycle ∧ g.Cycle ≤ 9600000 := by
  have := (sumL_bound h.ok).1
  have h2 := h.2.2.2
  have := h.1
  omega

theorem op6_period {g : api_Gates} (hg : VG g) (t : Int) : op6 g (t + g.Cycle) = op6 g t := by
  unfold op6
  have := mAt_period hg.ok hg.1 t 1
  rw [hg.2.2.2.1, Int.one_mul] at this
  rw [this]

theorem op6_in {g : api_Gates} (hg : VG g) {t : Int} {i : Nat} {e : api_Entry} {s : Int} (ha : AtE g.Entries t i e s) {u : Int} (h0 : t - s ≤ u) (h1 : u < t - s + e.Long) : op6 g u = bitB 6 e.Mask := by
  unfold op6
  have := ticks_in hg.ok ha (k := u - t) (by omega) (by omega)
  rw [show t + (u - t) = u by omega] at this
  rw [this]

def aoB (g : api_Gates) : Bool := g.Entries.all fun e => bitB 6 e.Mask

theorem ao_open {g : api_Gates} (hg : VG g) (h : aoB g = true) (t : Int) : op6 g t = true := by
  obtain ⟨e, he, hm⟩ := mAt_mem hg.ok hg.1 t
  unfold op6
  rw [hm]
  exact List.all_eq_true.1 h e he

theorem isOpen_all : ∀ m : Fin 256, ((andI .i64 (shrT .i64 (m.val : Int) 6) 1) == 1) = bitB 6 (m.val : Int) := by decide +kernel

theorem service_isOpen_eq (N : Nat) {e : api_Entry} (h : okE e = true) : service_isOpen N e = some (bitB 6 e.Mask) := by
  have he := okE_iff.1 h
  have := isOpen_all ⟨e.Mask.toNat, by omega⟩
  simp only [Int.toNat_of_nonneg he.1] at this
  unfold service_isOpen
  rw [this]

theorem service_always_eq {N : Nat} (hN : 200 ≤ N) {g : api_Gates} (hg : VG g) : service_always N g = some (aoB g) := by
  unfold service_always gates_Open
  rw [gates_check_eq hN, errS_ok hg (by omega) (by omega) (by omega)]
  obtain ⟨r, hr⟩ := IsSt_exists hg (bitB 6) 0
  rw [Option.bind_some, if_neg (by simp), gates_open_eq hN hg (by omega) hr]
  simp only [Option.bind_some, beq_self_eq_true, Bool.true_and]
  have hc := hg.cyc
  have hs := hg.2.2.2.1
  congr 1
  rw [Bool.eq_iff_iff, beq_iff_eq]
  unfold opn aoB
  rw [List.all_eq_true]
  rcases hr with ⟨a, b⟩ | ⟨a1, a2, a3, a4⟩
  · rw [if_pos (by omega)]; exact ⟨fun _ => b, fun _ => rfl⟩
  · rw [if_neg (by omega)]
    constructor
    · intro h; omega
    · intro h
      obtain ⟨e, he, hm⟩ := mAt_mem hg.ok hg.1 (0 + r)
      rw [hm, h e he] at a4; cases a4

theorem ref30_Always_eq {N : Nat} (hN : 200 ≤ N) {g : api_Gates} (hg : VG g) : ref30_Always N g = some (aoB g) := by
  unfold ref30_Always
  have hl := hg.2.1
  have h := iterF_all (l := g.Entries) (p := fun e => bitB 6 e.Mask) (body := fun x => ref30_Always_L1 N g x) (bad := .inr false) (fin := .inl (g.Entries.length : Int)) (fun k hk => by
    have he := okE_iff.1 (hg.ok _ (List.getElem_mem hk))
    unfold ref30_Always_L1
    rw [if_pos (by simp; omega), idx_nat, List.getElem?_eq_getElem hk, Option.bind_some, bits_ref N ⟨he.1, he.2.1⟩ (by omega), Option.bind_some, w64_id (by omega) (by omega)]
    cases bitB 6 g.Entries[k].Mask <;> simp) (by unfold ref30_Always_L1; simp) g.Entries.length N 0 rfl (by simp) (by omega)
  have h' : iterF (fun x => ref30_Always_L1 N g x) N 0 = some (if aoB g = true then .inl (g.Entries.length : Int) else .inr false) := by simpa [aoB] using h
  rw [h', Option.bind_some]
  cases aoB g <;> simp

theorem appI_big {α : Type} {l m : List α} (h : l.length + m.length ≤ 2000000000) : appI 16 l m = some (l ++ m) := by
  unfold appI
  rw [if_pos ⟨by omega, by omega⟩]

def prO (o : ref30_Opening) : Int × Int := (o.Begin, o.End)

theorem runs_length {p : Int → Bool} {b : Int} : ∀ {l : List (Int × Int)} {a : Int}, a ≤ b → IsRuns p b a l → (l.length : Int) ≤ b - a
  | [], a, h, _ => by simp; omega
  | x :: l, a, h, ⟨h1, h2, h3, h4, h5, h6, h7⟩ => by
    have := runs_length h3 h7
    simp only [List.length_cons]
    omega

/-- The reference's list has the runs. -/
theorem openings_law {N : Nat} (hN : 200 ≤ N) {g : api_Gates} (hg : VG g) {a b : Int} (hab : a ≤ b) (ha : -5000000000000 ≤ a) (hb : b ≤ 5000000000000) (hd : b - a ≤ 1000000000) (hM : b - a < N) :
    ∃ out, ref30_Openings N g a b = some out ∧ IsRuns (op6 g) b a (out.map prO) := by
  unfold ref30_Openings
  obtain ⟨r, h1, h2⟩ := iterF_of (body := fun x : Bool × Int × List ref30_Opening => ref30_Openings_L1 N g b x.1 x.2.1 x.2.2)
    (fun x => a ≤ x.2.1 ∧ x.2.1 ≤ b ∧ IsRuns (op6 g) x.2.1 a (x.2.2.map prO) ∧ (x.1 = true ↔ a < x.2.1 ∧ op6 g (x.2.1 - 1) = true)) (fun x => (b - x.2.1).toNat)
    (fun r => IsRuns (op6 g) b a (r.2.2.map prO)) (fun x hx => by
      obtain ⟨o, t, out⟩ := x
      obtain ⟨x1, x2, x3, x4⟩ := hx
      simp only at x1 x2 x3 x4 ⊢
      unfold ref30_Openings_L1
      by_cases hlt : t < b
      · left
        rw [if_pos (by simp [hlt])]
        obtain ⟨i, e, s, hat⟩ := AtE_exists hg.ok hg.1 t
        have he := okE_iff.1 (hg.ok e (List.mem_of_getElem? hat.1))
        have hs0 := hat.2.1
        have hs1 := hat.2.2.1
        rw [ref27_At_eq hN hg hat, Option.bind_some, idx_some hat.1, Option.bind_some, Option.bind_some, bits_ref N ⟨he.1, he.2.1⟩ (by omega), Option.bind_some]
        rw [w64_id (x := t - s) (by omega) (by omega), w64_id (x := t - s + e.Long) (by omega) (by omega)]
        have hop : ∀ u, t ≤ u → u < t - s + e.Long → op6 g u = bitB 6 e.Mask := fun u u0 u1 => op6_in hg hat (by omega) u1
        generalize hen : (if b < t - s + e.Long then b else t - s + e.Long) = en
        have hen2 : t < en ∧ en ≤ b ∧ en ≤ t - s + e.Long := by rw [← hen]; split <;> omega
        have hlast : op6 g (en - 1) = bitB 6 e.Mask := hop _ (by omega) (by omega)
        have hlen : (out.length : Int) ≤ t - a := by have := runs_length x1 x3; simpa using this
        cases hbit : bitB 6 e.Mask with
        | false =>
          simp only [Bool.false_and, Bool.false_eq_true, if_false, Option.bind_some]
          refine ⟨(false, en, out), rfl, ?_, by show (b - en).toNat < (b - t).toNat; omega⟩
          show a ≤ en ∧ en ≤ b ∧ IsRuns (op6 g) en a (out.map prO) ∧ (false = true ↔ a < en ∧ op6 g (en - 1) = true)
          refine ⟨by omega, by omega, runs_closed (c := en) (by omega) (fun u u0 u1 => by rw [hop u u0 (by omega), hbit]) x3, ?_⟩
          simp only [hlast, hbit, Bool.false_eq_true, and_false]
        | true =>
          simp only [Bool.true_and]
          cases o with
          | true =>
            obtain ⟨y1, y2⟩ := x4.1 rfl
            obtain ⟨l', B, hl'⟩ := runs_last y1 y2 x3
            have hne : out ≠ [] := by intro h; subst h; simp at hl'
            obtain ⟨init, last, rfl⟩ : ∃ init last, out = init ++ [last] := ⟨out.dropLast, out.getLast hne, (List.dropLast_concat_getLast hne).symm⟩
            simp only [List.map_append, List.map_cons, List.map_nil] at hl' x3
            obtain ⟨e1, e2⟩ := List.append_inj' hl' rfl
            have e3 : prO last = (B, t) := by simpa using e2
            have hidx : w64 (((List.length (init ++ [last]) : Nat) : Int) - 1) = (init.length : Int) := by
              rw [w64_id (by simp) (by simp at hlen ⊢; omega)]; simp
            simp only [if_true, Bool.not_true, Bool.false_eq_true, if_false, hidx]
            rw [idx_nat, List.getElem?_append_right (Nat.le_refl _), Nat.sub_self]
            simp only [List.getElem?_cons_zero, Option.bind_some, Int.toNat_natCast]
            rw [List.set_append_right _ _ (Nat.le_refl _), Nat.sub_self]
            simp only [List.set_cons_zero]
            refine ⟨(true, en, init ++ [ref30_Opening.mk last.Begin en]), rfl, ?_, by show (b - en).toNat < (b - t).toNat; omega⟩
            show a ≤ en ∧ en ≤ b ∧ IsRuns (op6 g) en a ((init ++ [ref30_Opening.mk last.Begin en]).map prO) ∧ (true = true ↔ a < en ∧ op6 g (en - 1) = true)
            refine ⟨by omega, by omega, ?_, ?_⟩
            · simp only [List.map_append, List.map_cons, List.map_nil]
              rw [e3] at x3
              have hb1 : last.Begin = B := by have := congrArg Prod.fst e3; exact this
              have : prO (ref30_Opening.mk last.Begin en) = (B, en) := by unfold prO; rw [hb1]
              rw [this]
              exact runs_grow (by omega) (fun u u0 u1 => by rw [hop u u0 (by omega), hbit]) x3
            · simp only [hlast, hbit, and_true, true_iff]; omega
          | false =>
            simp only [Bool.false_eq_true, if_false, Option.bind_some, Bool.not_false, if_true]
            rw [appI_big (by simp only [List.length_cons, List.length_nil]; omega)]
            simp only [Option.bind_some]
            refine ⟨(true, en, out ++ [ref30_Opening.mk t en]), rfl, ?_, by show (b - en).toNat < (b - t).toNat; omega⟩
            show a ≤ en ∧ en ≤ b ∧ IsRuns (op6 g) en a ((out ++ [ref30_Opening.mk t en]).map prO) ∧ (true = true ↔ a < en ∧ op6 g (en - 1) = true)
            refine ⟨by omega, by omega, ?_, ?_⟩
            · simp only [List.map_append, List.map_cons, List.map_nil]
              rw [show prO (ref30_Opening.mk t en) = (t, en) from rfl]
              refine runs_snoc (b := t) (c := en) (by omega) (fun u u0 u1 => by rw [hop u u0 (by omega), hbit]) x1 ?_ x3
              rcases Int.lt_or_le a t with h | h
              · right
                cases hq : op6 g (t - 1) with
                | false => rfl
                | true => exact absurd (x4.2 ⟨h, hq⟩) (by simp)
              · left; omega
            · simp only [hlast, hbit, and_true, true_iff]; omega
      · right
        have : t = b := by omega
        subst this
        rw [if_neg (by simp)]
        exact ⟨_, rfl, x3⟩) N (false, a, []) ⟨by simp, hab, fun u u0 u1 => by simp only at u1; omega, by simp⟩ (by simp only; omega)
  exact ⟨r.2.2, by rw [h1]; rfl, h2⟩

theorem sumR_nonneg (L : Int) (l : List (Int × Int)) : 0 ≤ sumR L l := by
  induction l with
  | nil => exact Int.le_refl _
  | cons x l ih => unfold sumR f0; split <;> omega

theorem sumR_take (L : Int) (l : List (Int × Int)) (k : Nat) : sumR L l = sumR L (l.take k) + sumR L (l.drop k) := by
  rw [← sumR_append, List.take_append_drop]

theorem runs_mem {p : Int → Bool} {b : Int} : ∀ {l : List (Int × Int)} {a : Int}, IsRuns p b a l → ∀ x ∈ l, a ≤ x.1 ∧ x.1 < x.2 ∧ x.2 ≤ b ∧ (∀ t, x.1 ≤ t → t < x.2 → p t = true)
  | [], a, _, x, hx => by cases hx
  | y :: l, a, ⟨h1, h2, h3, h4, h5, h6, h7⟩, x, hx => by
    rcases List.mem_cons.1 hx with rfl | hx
    · exact ⟨h1, h2, h3, h5⟩
    · have := runs_mem h7 x hx
      exact ⟨by omega, this.2⟩

theorem ref30_sum_eq {N : Nat} {l : List ref30_Opening} {L : Int} (hN : l.length < N) (hl : l.length ≤ 2000000000) (hL : 0 ≤ L ∧ L ≤ 1000000000000) (hm : ∀ o ∈ l, -5000000000000 ≤ o.Begin ∧ o.Begin ≤ o.End ∧ o.End ≤ 5000000000000) (hs : sumR L (l.map prO) ≤ 1000000000000) : ref30_sum N l L = some (sumR L (l.map prO)) := by
  unfold ref30_sum
  obtain ⟨r, h1, h2⟩ := iterF_of (body := fun x : Int × Int => ref30_sum_L1 N l L x.1 x.2) (fun x => ∃ k : Nat, x.2 = k ∧ k ≤ l.length ∧ x.1 = sumR L ((l.map prO).take k)) (fun x => (l.length - x.2.toNat)) (fun r => r.1 = sumR L (l.map prO)) (fun x hx => by
    obtain ⟨s, i⟩ := x
    obtain ⟨k, rfl, hk, rfl⟩ := hx
    simp only
    unfold ref30_sum_L1
    by_cases hlt : k < l.length
    · left
      rw [if_pos (by simp; omega), idx_nat, List.getElem?_eq_getElem hlt]
      simp only [Option.bind_some]
      have hme := hm _ (List.getElem_mem hlt)
      have htk : (l.map prO).take (k + 1) = (l.map prO).take k ++ [prO l[k]] := by
        rw [List.take_succ_eq_append_getElem (by simpa using hlt)]; simp
      have e1 : sumR L ((l.map prO).take (k + 1)) = sumR L ((l.map prO).take k) + f0 L (l[k].End - l[k].Begin) := by
        rw [htk, sumR_append]; simp [sumR, prO]
      have b1 := sumR_nonneg L ((l.map prO).take k)
      have b2 := sumR_nonneg L ((l.map prO).drop (k + 1))
      have b3 := sumR_take L (l.map prO) (k + 1)
      have b4 : 0 ≤ f0 L (l[k].End - l[k].Begin) := by unfold f0; split <;> omega
      rw [w64_id (x := l[k].End - l[k].Begin) (by omega) (by omega), w64_id (x := l[k].End - l[k].Begin - L) (by omega) (by omega), show (if l[k].End - l[k].Begin - L > 0 then l[k].End - l[k].Begin - L else 0) = f0 L (l[k].End - l[k].Begin) from rfl, w64_id (by omega) (by omega), w64_id (by omega) (by omega)]
      exact ⟨_, rfl, ⟨k + 1, by simp only; omega, by omega, by simp only [e1]⟩, by simp only; omega⟩
    · right
      have : k = l.length := by omega
      subst this
      rw [if_neg (by simp)]
      exact ⟨_, rfl, by simp only; rw [show l.length = (l.map prO).length by simp, List.take_length]⟩) N (0, 0) ⟨0, rfl, by omega, rfl⟩ (by simp only; omega)
  rw [h1, Option.bind_some, h2]

/-- The first closed entry. -/
theorem closed_first {g : api_Gates} (h : aoB g = false) : ∃ (c : Nat) (e : api_Entry), g.Entries[c]? = some e ∧ bitB 6 e.Mask = false ∧ ∀ j, j < c → ∃ f, g.Entries[j]? = some f ∧ bitB 6 f.Mask = true := by
  unfold aoB at h
  have key : ∀ (l : List api_Entry), (l.all fun e => bitB 6 e.Mask) = false → ∃ (c : Nat) (e : api_Entry), l[c]? = some e ∧ bitB 6 e.Mask = false ∧ ∀ j, j < c → ∃ f, l[j]? = some f ∧ bitB 6 f.Mask = true := by
    intro l
    induction l with
    | nil => intro h; cases h
    | cons x l ih =>
      intro h
      cases hx : bitB 6 x.Mask with
      | false => exact ⟨0, x, rfl, hx, fun j hj => by omega⟩
      | true =>
        simp only [List.all_cons, hx, Bool.true_and] at h
        obtain ⟨c, e, h1, h2, h3⟩ := ih h
        refine ⟨c + 1, e, by simpa using h1, h2, fun j hj => ?_⟩
        cases j with
        | zero => exact ⟨x, rfl, hx⟩
        | succ j => obtain ⟨f, f1, f2⟩ := h3 j (by omega); exact ⟨f, by simpa using f1, f2⟩
  exact key _ h

/-- The loop that passes over the open entries at the beginning. -/
theorem open_loop {N : Nat} (hN : 200 ≤ N) {g : api_Gates} (hg : VG g) {c : Nat} {e : api_Entry} (h1 : g.Entries[c]? = some e) (h2 : bitB 6 e.Mask = false) (h3 : ∀ j, j < c → ∃ f, g.Entries[j]? = some f ∧ bitB 6 f.Mask = true)
    {body : Int × Int → Option ((Int × Int) ⊕ (Int × Int))} (fst : Bool) (hb : ∀ (k : Nat) (s : Int) (f : api_Entry), g.Entries[k]? = some f → 0 ≤ s → s ≤ 9600000 → body (if fst then ((k : Int), s) else (s, (k : Int))) = some (if bitB 6 f.Mask = true then .inl (if fst then (((k + 1 : Nat) : Int), s + f.Long) else (s + f.Long, ((k + 1 : Nat) : Int))) else .inr (if fst then ((k : Int), s) else (s, (k : Int))))) :
    iterF body N (0, 0) = some (if fst then ((c : Int), sumL (g.Entries.take c)) else (sumL (g.Entries.take c), (c : Int))) := by
  have hc := (List.getElem?_eq_some_iff.1 h1).1
  have hcy := hg.cyc
  have key : ∀ (n M k : Nat), c - k = n → k ≤ c → n < M → iterF body M (if fst then ((k : Int), sumL (g.Entries.take k)) else (sumL (g.Entries.take k), (k : Int))) = some (if fst then ((c : Int), sumL (g.Entries.take c)) else (sumL (g.Entries.take c), (c : Int))) := by
    intro n
    induction n with
    | zero =>
      intro M k hn hk hM
      have : k = c := by omega
      subst this
      cases M with
      | zero => omega
      | succ M =>
        have ht := take_mono hg.ok (i := 0) (j := k) (by omega)
        have ht2 := take_mono hg.ok (i := k) (j := g.Entries.length) (by omega)
        rw [List.take_length] at ht2
        have hs := hg.2.2.2.1
        simp only [List.take_zero, sumL] at ht
        have := hb k (sumL (g.Entries.take k)) e h1 (by omega) (by omega)
        rw [h2] at this
        simp only [Bool.false_eq_true, if_false] at this
        rw [iterF_inr this]
    | succ n ih =>
      intro M k hn hk hM
      cases M with
      | zero => omega
      | succ M =>
        obtain ⟨f, f1, f2⟩ := h3 k (by omega)
        have ht := take_mono hg.ok (i := 0) (j := k) (by omega)
        have ht2 := take_mono hg.ok (i := k) (j := g.Entries.length) (by omega)
        rw [List.take_length] at ht2
        have hs := hg.2.2.2.1
        simp only [List.take_zero, sumL] at ht
        have := hb k (sumL (g.Entries.take k)) f f1 (by omega) (by omega)
        rw [f2] at this
        simp only [if_true] at this
        rw [iterF_inl this, ← take_sum f1]
        exact ih M (k + 1) (by omega) (by omega) (by omega)
  have := key c N 0 (by omega) (by omega) (by have := hg.2.1; omega)
  simp only [List.take_zero, sumL] at this
  cases fst <;> exact this

/-- Where an entry begins, counted through two cycles. -/
def sumW (g : api_Gates) (j : Nat) : Int := if j ≤ g.Entries.length then sumL (g.Entries.take j) else g.Cycle + sumL (g.Entries.take (j - g.Entries.length))

theorem sumW_at {g : api_Gates} (hg : VG g) {j : Nat} (hj : j < 2 * g.Entries.length) : ∃ e, g.Entries[j % g.Entries.length]? = some e ∧ AtE g.Entries (sumW g j) (j % g.Entries.length) e 0 ∧ sumW g (j + 1) = sumW g j + e.Long ∧ 0 ≤ sumW g j ∧ sumW g j ≤ 2 * g.Cycle := by
  have hs := hg.2.2.2.1
  have hcy := hg.cyc
  have hn := hg.1
  have tk : ∀ k, k ≤ g.Entries.length → 0 ≤ sumL (g.Entries.take k) ∧ sumL (g.Entries.take k) ≤ g.Cycle := fun k hk => by
    have a := take_mono hg.ok (i := 0) (j := k) (by omega)
    have b := take_mono hg.ok (i := k) (j := g.Entries.length) hk
    rw [List.take_length] at b
    simp only [List.take_zero, sumL] at a
    omega
  have at0 : ∀ k, k < g.Entries.length → ∃ e, g.Entries[k]? = some e ∧ AtE g.Entries (sumL (g.Entries.take k)) k e 0 := fun k hk => by
    refine ⟨g.Entries[k], List.getElem?_eq_getElem hk, List.getElem?_eq_getElem hk, Int.le_refl _, ?_, ?_⟩
    · have := okE_iff.1 (hg.ok _ (List.getElem_mem hk)); omega
    · have h1 := take_sum (E := g.Entries) (i := k) (List.getElem?_eq_getElem hk)
      have h2 := tk (k + 1) (by omega)
      have h3 := okE_iff.1 (hg.ok _ (List.getElem_mem hk))
      rw [Int.emod_eq_of_lt (tk k (by omega)).1 (by omega)]; omega
  by_cases h : j < g.Entries.length
  · obtain ⟨e, e1, e2⟩ := at0 j h
    rw [Nat.mod_eq_of_lt h]
    have hw : sumW g j = sumL (g.Entries.take j) := by unfold sumW; rw [if_pos (by omega)]
    have hw2 : sumW g (j + 1) = sumL (g.Entries.take (j + 1)) := by unfold sumW; rw [if_pos (by omega)]
    rw [hw, hw2, take_sum e1]
    exact ⟨e, e1, e2, rfl, (tk j (by omega)).1, by have := (tk j (by omega)).2; omega⟩
  · obtain ⟨e, e1, e2⟩ := at0 (j - g.Entries.length) (by omega)
    have hm : j % g.Entries.length = j - g.Entries.length := by rw [Nat.mod_eq_sub_mod (by omega), Nat.mod_eq_of_lt (by omega)]
    rw [hm]
    have hw : sumW g j = g.Cycle + sumL (g.Entries.take (j - g.Entries.length)) := by
      unfold sumW
      split
      · have : j = g.Entries.length := by omega
        subst this
        rw [List.take_length, Nat.sub_self]; simp [sumL]; omega
      · rfl
    have hw2 : sumW g (j + 1) = g.Cycle + sumL (g.Entries.take (j - g.Entries.length + 1)) := by
      unfold sumW; rw [if_neg (by omega), show j + 1 - g.Entries.length = j - g.Entries.length + 1 by omega]
    rw [hw, hw2, take_sum e1]
    refine ⟨e, e1, ?_, by omega, by have := (tk (j - g.Entries.length) (by omega)).1; omega, by have := (tk (j - g.Entries.length) (by omega)).2; omega⟩
    have := AtE_period e2 1
    rw [hs, Int.one_mul, Int.add_comm] at this
    exact this
end Go.Sh
