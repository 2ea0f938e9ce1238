/- Residues: Cycle; the laws that compare the program with the reference. -/
import Derived.Test.YtiobnpdikleanaaRes3
namespace Go.Sh
open Go Go.Eng

/-- The least common multiple of the periods. -/
def lcmP : List api_Span → Nat
  | [] => 1
  | s :: l => Nat.lcm s.Period.toNat (lcmP l)

theorem lcmP_pos : ∀ {l : List api_Span}, (∀ s ∈ l, VSpan s) → 0 < lcmP l
  | [], _ => by decide
  | s :: l, h => by
    have h1 := (h s (by simp)).bounds
    exact Nat.lcm_pos (by omega) (lcmP_pos fun t ht => h t (by simp [ht]))

theorem lcmP_dvd_iff : ∀ {l : List api_Span} {n : Nat}, lcmP l ∣ n ↔ ∀ s ∈ l, s.Period.toNat ∣ n
  | [], n => by simp [lcmP]
  | s :: l, n => by
    simp only [lcmP, List.mem_cons, forall_eq_or_imp]
    rw [Nat.lcm_dvd_iff, lcmP_dvd_iff]

/-- The multiple that fold has reached, going on. -/
theorem residue_fold_loop {N : Nat} (hN : 2000 ≤ N) {ps : List Int} (hps : ∀ p ∈ ps, 1 ≤ p ∧ p ≤ 960) : ∀ (n M k : Nat) (m : Nat), ps.length - k = n → k ≤ ps.length → n < M → 1 ≤ m → m ≤ 960 → ps.length ≤ 1000 →
    ∃ r, iterF (fun x : Int × Int => residue_fold_L1 N 960 ps x.1 x.2) M ((m : Int), (k : Int)) = some r ∧
      (r.1 ≤ 960 → r.1 = ((ps.drop k).foldl (fun a p => Nat.lcm a p.toNat) m : Nat)) ∧ (960 < r.1 → 960 < (ps.drop k).foldl (fun a p => Nat.lcm a p.toNat) m) := by
  have mono : ∀ (l : List Int) (a : Nat), (∀ p ∈ l, 1 ≤ p) → 0 < a → a ≤ l.foldl (fun a p => Nat.lcm a p.toNat) a := by
    intro l
    induction l with
    | nil => intro a _ _; exact Nat.le_refl _
    | cons p l ih =>
      intro a hp ha
      simp only [List.foldl_cons]
      have h1 := hp p (by simp)
      have hpos : 0 < Nat.lcm a p.toNat := Nat.lcm_pos ha (by omega)
      exact Nat.le_trans (Nat.le_of_dvd hpos (Nat.dvd_lcm_left _ _)) (ih _ (fun q hq => hp q (by simp [hq])) hpos)
  intro n
  induction n with
  | zero =>
    intro M k m hn hk hM hm hm2 hl
    have : k = ps.length := by omega
    subst this
    cases M with
    | zero => omega
    | succ M =>
      refine ⟨((m : Int), (ps.length : Int)), iterF_inr (by simp only [residue_fold_L1]; rw [if_neg (by simp)]), fun _ => ?_, fun h => ?_⟩
      · simp
      · simp only at h; omega
  | succ n ih =>
    intro M k m hn hk hM hm hm2 hl
    cases M with
    | zero => omega
    | succ M =>
      have hlt : k < ps.length := by omega
      obtain ⟨p1, p2⟩ := hps ps[k] (List.getElem_mem hlt)
      have hg : 0 < Nat.gcd m ps[k].toNat := Nat.gcd_pos_of_pos_left _ (by omega)
      have hq : (m : Int).tdiv (Nat.gcd m ps[k].toNat : Int) = ((m / Nat.gcd m ps[k].toNat : Nat) : Int) := by
        rw [Int.tdiv_eq_ediv_of_nonneg (by omega)]; rfl
      have hqle : m / Nat.gcd m ps[k].toNat ≤ m := Nat.div_le_self _ _
      have hmul : ((m / Nat.gcd m ps[k].toNat : Nat) : Int) * ps[k] = (Nat.lcm m ps[k].toNat : Int) := by
        have e1 : ps[k] = (ps[k].toNat : Int) := by omega
        have e2 : Nat.lcm m ps[k].toNat = m / Nat.gcd m ps[k].toNat * ps[k].toNat := by
          rw [Nat.lcm, Nat.mul_comm m, Nat.mul_div_assoc _ (Nat.gcd_dvd_left _ _), Nat.mul_comm]
        rw [e2, Int.natCast_mul, ← e1]
      have hlcm : Nat.lcm m ps[k].toNat ≤ 960 * 960 := by
        have h1 : m / Nat.gcd m ps[k].toNat * ps[k].toNat ≤ 960 * 960 := Nat.mul_le_mul (by omega) (by omega)
        have e2 : Nat.lcm m ps[k].toNat = m / Nat.gcd m ps[k].toNat * ps[k].toNat := by
          rw [Nat.lcm, Nat.mul_comm m, Nat.mul_div_assoc _ (Nat.gcd_dvd_left _ _), Nat.mul_comm]
        omega
      have hlpos : 0 < Nat.lcm m ps[k].toNat := Nat.lcm_pos (by omega) (by omega)
      have hbody : residue_fold_L1 N 960 ps (m : Int) (k : Int) = if 960 < Nat.lcm m ps[k].toNat then some (.inr ((Nat.lcm m ps[k].toNat : Int), (k : Int))) else some (.inl ((Nat.lcm m ps[k].toNat : Int), ((k + 1 : Nat) : Int))) := by
        simp only [residue_fold_L1]
        rw [if_pos (by simpa using hlt), idx_nat, List.getElem?_eq_getElem hlt, Option.bind_some, residue_gcd_eq (by omega) (by omega) (by omega), Option.bind_some, Int.toNat_natCast, quoI_pos (by omega), Option.bind_some, hq]
        have hq0 : (0 : Int) ≤ ((m / Nat.gcd m ps[k].toNat : Nat) : Int) := Int.natCast_nonneg _
        have hq1 : ((m / Nat.gcd m ps[k].toNat : Nat) : Int) ≤ 960 := Int.ofNat_le.2 (Nat.le_trans hqle hm2)
        have e3 : IntKind.i64.wrap ((m / Nat.gcd m ps[k].toNat : Nat) : Int) = ((m / Nat.gcd m ps[k].toNat : Nat) : Int) := w64_id (Int.le_trans (by decide) hq0) (Int.le_trans hq1 (by decide))
        rw [e3, hmul, w64_id (by omega) (by omega), w64_id (by omega) (by omega)]
        by_cases hc : 960 < Nat.lcm m ps[k].toNat
        · rw [if_pos (by simp; omega), if_pos hc]
        · rw [if_neg (by simp; omega), if_neg hc]; simp
      rw [drop_cons hlt, List.foldl_cons]
      by_cases hc : 960 < Nat.lcm m ps[k].toNat
      · refine ⟨((Nat.lcm m ps[k].toNat : Int), (k : Int)), iterF_inr (by rw [hbody, if_pos hc]), fun h => ?_, fun _ => ?_⟩
        · simp only at h; omega
        · exact Nat.lt_of_lt_of_le hc (mono _ _ (fun q hq => (hps q (List.mem_of_mem_drop hq)).1) hlpos)
      · rw [iterF_inl (by rw [hbody, if_neg hc])]
        exact ih M (k + 1) _ (by omega) (by omega) (by omega) (by omega) (by omega) hl

theorem foldl_lcmP : ∀ (l : List api_Span) (m : Nat), (l.map api_Span.Period).foldl (fun a p => Nat.lcm a p.toNat) m = Nat.lcm m (lcmP l)
  | [], m => by simp [lcmP, Nat.lcm_one_right]
  | s :: l, m => by simp only [List.map_cons, List.foldl_cons, lcmP]; rw [foldl_lcmP l, Nat.lcm_assoc]

def cycleS (l : List api_Span) : Int × Int := if 32 < l.length then (0, 3) else if allV l = true then (if lcmP l ≤ 960 then ((lcmP l : Int), 0) else (0, 6)) else (0, 330)

theorem allV_mem {l : List api_Span} (h : allV l = true) : ∀ s ∈ l, VSpan s := by
  unfold allV at h
  rw [List.all_eq_true] at h
  exact fun s hs => by simpa using h s hs

theorem residue_Cycle_eq {N : Nat} (hN : 2000 ≤ N) (l : List api_Span) : residue_Cycle N l = some (cycleS l) := by
  unfold residue_Cycle cycleS
  rw [residue_checkAll_eq (by omega)]
  simp only [Option.bind_some]
  by_cases h : 32 < l.length
  · simp [h]
  · by_cases hv : allV l = true
    · simp only [h, hv, if_true, if_false, bne_self_eq_false, Bool.false_eq_true]
      have hmk : makeI 8 (l.length : Int) (l.length : Int) (0 : Int) = some (List.replicate l.length 0) := by
        unfold makeI; rw [if_pos (by omega)]; simp
      rw [hmk, Option.bind_some]
      have hloop : ∀ (n M k : Nat), l.length - k = n → k ≤ l.length → n < M → ∃ c, iterF (fun x : Int × List Int => residue_Cycle_L1 N l x.1 x.2) M ((k : Int), (l.map api_Span.Period).take k ++ List.replicate (l.length - k) 0) = some (c, l.map api_Span.Period) := by
        intro n
        induction n with
        | zero =>
          intro M k hn hk hM
          have : k = l.length := by omega
          subst this
          cases M with
          | zero => omega
          | succ M =>
            refine ⟨(l.length : Int), iterF_inr ?_⟩
            simp only [residue_Cycle_L1]
            rw [if_neg (by simp)]
            simp [List.take_of_length_le]
        | succ n ih =>
          intro M k hn hk hM
          cases M with
          | zero => omega
          | succ M =>
            have hlt : k < l.length := by omega
            obtain ⟨c, hc⟩ := ih M (k + 1) (by omega) (by omega) (by omega)
            refine ⟨c, ?_⟩
            rw [iterF_inl (y := (((k + 1 : Nat) : Int), (l.map api_Span.Period).take (k + 1) ++ List.replicate (l.length - (k + 1)) 0)), hc]
            simp only [residue_Cycle_L1]
            have hlen : ((l.map api_Span.Period).take k ++ List.replicate (l.length - k) 0).length = l.length := by simp; omega
            rw [if_pos (by simpa using hlt), idx_nat, List.getElem?_eq_getElem hlt, Option.bind_some, idx_nat, List.getElem?_eq_getElem (by omega), Option.bind_some, w64_id (by omega) (by omega)]
            have hset : List.set ((l.map api_Span.Period).take k ++ List.replicate (l.length - k) 0) k l[k].Period = (l.map api_Span.Period).take (k + 1) ++ List.replicate (l.length - (k + 1)) 0 := by
              rw [List.set_append_right _ _ (by simp; omega)]
              have e1 : k - ((l.map api_Span.Period).take k).length = 0 := by simp; omega
              rw [e1, show l.length - k = (l.length - (k + 1)) + 1 by omega, List.replicate_succ, List.set_cons_zero, List.take_succ_eq_append_getElem (by simpa using hlt)]
              simp
            simp only [Int.toNat_natCast, hset]
            rfl
      obtain ⟨c, hc⟩ := hloop l.length N 0 (by omega) (by omega) (by omega)
      simp only [List.take_zero, List.nil_append, Nat.sub_zero] at hc
      rw [show ((0 : Nat) : Int) = 0 from rfl] at hc
      rw [hc, Option.bind_some]
      have hVl := allV_mem hv
      obtain ⟨r, h1, h2, h3⟩ := residue_fold_loop hN (ps := l.map api_Span.Period) (fun p hp => by
        obtain ⟨s, hs, rfl⟩ := List.mem_map.1 hp
        have := (hVl s hs).bounds; omega) l.length N 0 1 (by simp) (by omega) (by omega) (by omega) (by omega) (by simp; omega)
      rw [List.drop_zero, foldl_lcmP, Nat.lcm_one_left] at h2 h3
      have hf : residue_fold N 960 (l.map api_Span.Period) = some r.1 := by
        unfold residue_fold
        have h1' : iterF (fun x : Int × Int => residue_fold_L1 N 960 (l.map api_Span.Period) x.1 x.2) N (1, 0) = some r := h1
        rw [h1', Option.bind_some]
      rw [hf, Option.bind_some]
      by_cases hc2 : 960 < r.1
      · rw [if_pos (by simpa using hc2), if_neg (by have := h3 hc2; omega)]
      · have := h2 (by omega)
        rw [if_neg (by simpa using hc2), if_pos (by omega), this]
    · simp [h, hv]

theorem ref23_Cycle_eq {N : Nat} (hN : 2000 ≤ N) (l : List api_Span) : ref23_Cycle N l = some (cycleS l) := by
  unfold ref23_Cycle cycleS
  rw [ref23_list_eq (by omega)]
  simp only [Option.bind_some]
  by_cases h : 32 < l.length
  · simp [h]
  · by_cases hv : allV l = true
    · simp only [h, hv, if_true, if_false, bne_self_eq_false, Bool.false_eq_true]
      have hVl := allV_mem hv
      have inner : ∀ (j : Nat), 1 ≤ j → j ≤ 1000 → ∀ (n M k : Nat) (b : Bool), l.length - k = n → k ≤ l.length → n < M → ∃ c, iterF (fun x : Bool × Int => ref23_Cycle_L2 N l (j : Int) x.1 x.2) M (b, (k : Int)) = some (b && (l.drop k).all (fun s => decide (s.Period.toNat ∣ j)), c) := by
        intro j hj1 hj2 n
        induction n with
        | zero =>
          intro M k b hn hk hM
          have : k = l.length := by omega
          subst this
          cases M with
          | zero => omega
          | succ M => exact ⟨(l.length : Int), by rw [iterF_inr (r := (b, (l.length : Int))) (by simp [ref23_Cycle_L2])]; simp⟩
        | succ n ih =>
          intro M k b hn hk hM
          cases M with
          | zero => omega
          | succ M =>
            have hlt : k < l.length := by omega
            have hV := (hVl l[k] (List.getElem_mem hlt)).bounds
            have hiff := tmod_zero_iff (a := (j : Int)) (d := l[k].Period) (by omega) (by omega)
            simp only [Int.toNat_natCast] at hiff
            obtain ⟨c, hc⟩ := ih M (k + 1) (b && decide (l[k].Period.toNat ∣ j)) (by omega) (by omega) (by omega)
            refine ⟨c, ?_⟩
            rw [iterF_inl (y := (b && decide (l[k].Period.toNat ∣ j), ((k + 1 : Nat) : Int))), hc, drop_cons hlt, List.all_cons, Bool.and_assoc]
            simp only [ref23_Cycle_L2]
            rw [if_pos (by simpa using hlt)]
            cases b with
            | false => simp only [Bool.false_eq_true, if_false, Option.bind_some, Bool.false_and]; rw [w64_id (by omega) (by omega)]; rfl
            | true =>
              simp only [if_true, Bool.true_and]
              rw [idx_nat, List.getElem?_eq_getElem hlt, Option.bind_some, remI_pos (by omega), Option.bind_some]
              by_cases hd : l[k].Period.toNat ∣ j
              · rw [if_pos (by simpa using hiff.2 hd)]
                simp only [Option.bind_some, hd, decide_true]
                rw [w64_id (by omega) (by omega)]; rfl
              · rw [if_neg (by simp only [beq_iff_eq]; exact fun e => hd (hiff.1 e))]
                simp only [Option.bind_some, hd, decide_false]
                rw [w64_id (by omega) (by omega)]; rfl
      have hq : ∀ j : Nat, (l.all fun s => decide (s.Period.toNat ∣ j)) = decide (lcmP l ∣ j) := by
        intro j
        rw [Bool.eq_iff_iff, List.all_eq_true, decide_eq_true_iff, lcmP_dvd_iff]
        simp
      have outer := iterF_first (q := fun j => decide (lcmP l ∣ j)) (P := 961) (body := fun x : Int => ref23_Cycle_L1 N l x) (bad := .inl 961) (good := fun k => .inr ((k : Int), 0)) 
      have outer' : ∀ (n M k : Nat), 961 - k = n → k ≤ 961 → 1 ≤ k → n < M → iterF (fun x : Int => ref23_Cycle_L1 N l x) M (k : Int) = some (match (List.range' k n).find? (fun j => decide (lcmP l ∣ j)) with | some j => .inr ((j : Int), 0) | none => .inl 961) := by
        intro n
        induction n with
        | zero =>
          intro M k hn hk hk1 hM
          have : k = 961 := by omega
          subst this
          cases M with
          | zero => omega
          | succ M => rw [iterF_inr (r := .inl 961) (by simp [ref23_Cycle_L1])]; simp
        | succ n ih =>
          intro M k hn hk hk1 hM
          cases M with
          | zero => omega
          | succ M =>
            obtain ⟨c, hc⟩ := inner k hk1 (by omega) l.length N 0 true (by omega) (by omega) (by omega)
            rw [show ((0 : Nat) : Int) = 0 from rfl, List.drop_zero, hq, Bool.true_and] at hc
            rw [List.range'_succ, List.find?_cons]
            have hbody : ref23_Cycle_L1 N l (k : Int) = if (decide (lcmP l ∣ k)) = true then some (.inr (.inr ((k : Int), 0))) else some (.inl ((k + 1 : Nat) : Int)) := by
              simp only [ref23_Cycle_L1]
              rw [if_pos (by simp; omega), hc, Option.bind_some, w64_id (by omega) (by omega)]
              rfl
            by_cases hp : lcmP l ∣ k
            · rw [iterF_inr (by rw [hbody, if_pos (by simpa using hp)])]; simp [hp]
            · rw [iterF_inl (by rw [hbody, if_neg (by simpa using hp)]), ih M (k + 1) (by omega) (by omega) (by omega) (by omega)]; simp [hp]
      have := outer' 960 N 1 (by omega) (by omega) (by omega) (by omega)
      rw [show ((1 : Nat) : Int) = 1 from rfl] at this
      rw [this, Option.bind_some]
      have hpos := lcmP_pos hVl
      by_cases hle : lcmP l ≤ 960
      · have hfind : (List.range' 1 960).find? (fun j => decide (lcmP l ∣ j)) = some (lcmP l) := by
          rw [List.find?_range'_eq_some]
          refine ⟨by simp, by simp [List.mem_range'_1]; omega, fun j h1 h2 => ?_⟩
          simp only [Bool.not_eq_true', decide_eq_false_iff_not]
          intro hd
          have := Nat.le_of_dvd (by omega) hd
          omega
        rw [hfind, if_pos hle]
      · have hfind : (List.range' 1 960).find? (fun j => decide (lcmP l ∣ j)) = none := by
          rw [List.find?_eq_none]
          intro j hj
          simp only [decide_eq_true_eq]
          intro hd
          rw [List.mem_range'_1] at hj
          have := Nat.le_of_dvd (by omega) hd
          omega
        rw [hfind, if_neg hle]
    · simp [h, hv]
end Go.Sh
