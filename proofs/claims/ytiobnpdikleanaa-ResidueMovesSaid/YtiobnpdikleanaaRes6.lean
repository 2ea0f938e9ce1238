/- Residues: what being apart means. -/
import Derived.Test.YtiobnpdikleanaaRes5
namespace Go.Sh
open Go Go.Eng

theorem law23_covers_eq (N : Nat) {s : api_Span} (h : VSpan s) {t : Int} (h0 : -1099511627776 ≤ t) (h1 : t ≤ 1099511627776) : law23_covers N s t = some (decide ((t - s.From) % s.Period < s.Long)) := by
  obtain ⟨b1, b2, b3, b4, b5, b6⟩ := h.bounds
  unfold law23_covers residue_Covers
  rw [residue_Check_eq, Option.bind_some, if_pos h]
  simp only [bne_self_eq_false, Bool.false_eq_true, if_false]
  rw [if_neg (by simp only [Bool.or_eq_true, decide_eq_true_eq]; omega), residue_mod_eq N (by omega) (by omega), w64_id (by omega) (by omega)]
  simp

theorem law23_apart_eq {N : Nat} (hN : 2000 ≤ N) {a b : api_Span} (ha : VSpan a) (hb : VSpan b) : law23_apart N a b = some (decide (SepD a b (b.From - a.From))) := by
  unfold law23_apart
  rw [residue_Apart_eq hN, Option.bind_some, if_pos ⟨ha, hb⟩]
  simp

theorem bezout : ∀ (b a : Nat), ∃ p q : Int, (Nat.gcd a b : Int) = a * p + b * q := by
  intro b
  induction b using Nat.strongRecOn with
  | _ b ih =>
    intro a
    by_cases hb : b = 0
    · subst hb; exact ⟨1, 0, by simp⟩
    · obtain ⟨p, q, h⟩ := ih (a % b) (Nat.mod_lt _ (Nat.pos_of_ne_zero hb)) b
      refine ⟨q, p - (a / b : Nat) * q, ?_⟩
      have e1 : Nat.gcd a b = Nat.gcd b (a % b) := by rw [Nat.gcd_comm a b, Nat.gcd_rec b a, Nat.gcd_comm]
      have e2 : ((a % b : Nat) : Int) = (a : Int) - b * (a / b : Nat) := by
        have := Nat.div_add_mod a b
        have : ((b * (a / b) + a % b : Nat) : Int) = (a : Int) := by rw [this]
        rw [Int.natCast_add, Int.natCast_mul] at this
        omega
      rw [e1, h, e2, Int.sub_mul, Int.mul_sub, Int.mul_assoc]
      omega

/-- Two residues that agree modulo the greatest common divisor have a common number. -/
theorem crt {m n : Nat} (hm : 0 < m) (hn : 0 < n) {x y : Int} (h : (y - x) % (Nat.gcd m n : Int) = 0) : ∃ z : Int, 0 ≤ z ∧ z < (m : Int) * n ∧ (z - x) % m = 0 ∧ (z - y) % n = 0 := by
  obtain ⟨p, q, hpq⟩ := bezout n m
  obtain ⟨c, hc⟩ := Int.dvd_of_emod_eq_zero h
  have hmn : 0 < (m : Int) * n := Int.mul_pos (by omega) (by omega)
  refine ⟨(x + m * (p * c)) % (m * n), Int.emod_nonneg _ (by omega), Int.emod_lt_of_pos _ hmn, ?_, ?_⟩
  · rw [Int.sub_emod, Int.emod_emod_of_dvd _ (Int.dvd_mul_right _ _), ← Int.sub_emod]
    rw [show x + (m : Int) * (p * c) - x = m * (p * c) by omega]
    exact Int.mul_emod_right _ _
  · rw [Int.sub_emod, Int.emod_emod_of_dvd _ (Int.dvd_mul_left _ _), ← Int.sub_emod]
    have : x + (m : Int) * (p * c) - y = n * (-(q * c)) := by
      have h1 : y - x = (m : Int) * p * c + n * q * c := by rw [hc, hpq, Int.add_mul]
      rw [Int.mul_neg, ← Int.mul_assoc, ← Int.mul_assoc]
      omega
    rw [this]
    exact Int.mul_emod_right _ _

theorem emod_zero_sub {a b g : Int} : (a - b) % g = 0 ↔ a % g = b % g := by
  constructor
  · intro h
    exact Int.emod_eq_emod_iff_emod_sub_eq_zero.2 h
  · intro h
    exact Int.emod_eq_emod_iff_emod_sub_eq_zero.1 h

/-- The stage's theorem: apart means that no number is covered by both. -/
theorem apart_iff {a b : api_Span} (ha : VSpan a) (hb : VSpan b) : SepD a b (b.From - a.From) ↔ ∀ x : Nat, (x : Int) < a.Period * b.Period → ¬ (((x : Int) - a.From) % a.Period < a.Long ∧ ((x : Int) - b.From) % b.Period < b.Long) := by
  obtain ⟨a1, a2, a3, a4, a5, a6⟩ := ha.bounds
  obtain ⟨b1, b2, b3, b4, b5, b6⟩ := hb.bounds
  have hg0 : 0 < gP a b := gP_pos a1
  have hga : gP a b ∣ a.Period := gP_dvd_left a1
  have hgb : gP a b ∣ b.Period := gP_dvd_right b1
  have hs := sep_iff (d := b.From - a.From) hg0 a5 b5
  unfold SepD
  rw [← hs]
  constructor
  · rintro h x _ ⟨hx1, hx2⟩
    have m0 := Int.emod_nonneg ((x : Int) - a.From) (show a.Period ≠ 0 by omega)
    have n0 := Int.emod_nonneg ((x : Int) - b.From) (show b.Period ≠ 0 by omega)
    refine h (((x : Int) - a.From) % a.Period - ((x : Int) - b.From) % b.Period) (by omega) (by omega) ?_
    obtain ⟨q1, hq1⟩ := hga
    obtain ⟨q2, hq2⟩ := hgb
    have e1 := Int.mul_ediv_add_emod ((x : Int) - a.From) a.Period
    have e2 := Int.mul_ediv_add_emod ((x : Int) - b.From) b.Period
    generalize ((x : Int) - a.From) / a.Period = k1 at e1
    generalize ((x : Int) - b.From) / b.Period = k2 at e2
    have e3 : b.From - a.From - (((x : Int) - a.From) % a.Period - ((x : Int) - b.From) % b.Period) = gP a b * (q1 * k1 - q2 * k2) := by
      have f1 : a.Period * k1 = gP a b * (q1 * k1) := by rw [← Int.mul_assoc, ← hq1]
      have f2 : b.Period * k2 = gP a b * (q2 * k2) := by rw [← Int.mul_assoc, ← hq2]
      rw [Int.mul_sub]
      omega
    rw [e3]
    exact Int.mul_emod_right _ _
  · intro h y hy1 hy2 hy
    -- u - v = y
    have hcrt : ∀ u v : Int, u - v = y → 0 ≤ u → u < a.Long → 0 ≤ v → v < b.Long → False := by
      intro u v huv u0 u1 v0 v1
      obtain ⟨z, z0, z1, z2, z3⟩ := crt (m := a.Period.toNat) (n := b.Period.toNat) (by omega) (by omega) (x := a.From + u) (y := b.From + v) (by
        rw [show b.From + v - (a.From + u) = b.From - a.From - y by omega]; exact hy)
      rw [Int.toNat_of_nonneg (by omega)] at z1 z2
      rw [Int.toNat_of_nonneg (by omega)] at z1 z3
      refine h z.toNat (by rw [Int.toNat_of_nonneg z0]; exact z1) ⟨?_, ?_⟩
      · rw [Int.toNat_of_nonneg z0]
        have : (z - a.From) % a.Period = u % a.Period := emod_zero_sub.1 (by rw [show z - a.From - u = z - (a.From + u) by omega]; exact z2)
        rw [this, Int.emod_eq_of_lt u0 (by omega)]
        exact u1
      · rw [Int.toNat_of_nonneg z0]
        have : (z - b.From) % b.Period = v % b.Period := emod_zero_sub.1 (by rw [show z - b.From - v = z - (b.From + v) by omega]; exact z3)
        rw [this, Int.emod_eq_of_lt v0 (by omega)]
        exact v1
    by_cases h0 : 0 ≤ y
    · exact hcrt y 0 (by omega) h0 hy2 (by omega) (by omega)
    · exact hcrt 0 (-y) (by omega) (by omega) (by omega) (by omega) (by omega)

def cov (s : api_Span) (x : Nat) : Bool := decide (((x : Int) - s.From) % s.Period < s.Long)

theorem means_loop {N : Nat} {a b : api_Span} (ha : Small a) (hb : Small b) : ∀ (n M k : Nat) (c : Bool), (a.Period * b.Period).toNat - k = n → (k : Int) ≤ a.Period * b.Period → n < M →
    ∃ i, iterF (fun x : Bool × Int => law23_ResidueMeans_L1 N a b x.1 x.2) M (c, (k : Int)) = some (c || (List.range' k n).any (fun x => cov a x && cov b x), i) := by
  obtain ⟨a1, a2, a3, a4, a5, a6⟩ := ha.1.bounds
  obtain ⟨b1, b2, b3, b4, b5, b6⟩ := hb.1.bounds
  have hm : a.Period * b.Period ≤ 48 * 48 := Int.mul_le_mul ha.2 hb.2 (by omega) (by omega)
  have hm0 : 0 < a.Period * b.Period := Int.mul_pos (by omega) (by omega)
  intro n
  induction n with
  | zero =>
    intro M k c hn hk hM
    cases M with
    | zero => omega
    | succ M =>
      refine ⟨(k : Int), ?_⟩
      rw [iterF_inr (r := (c, (k : Int)))]
      · simp
      · simp only [law23_ResidueMeans_L1]
        rw [w64_id (by omega) (by omega), if_neg (by simp only [decide_eq_true_eq]; omega)]
  | succ n ih =>
    intro M k c hn hk hM
    cases M with
    | zero => omega
    | succ M =>
      obtain ⟨i, hi⟩ := ih M (k + 1) (c || (cov a k && cov b k)) (by omega) (by omega) (by omega)
      refine ⟨i, ?_⟩
      rw [iterF_inl (y := (c || (cov a k && cov b k), ((k + 1 : Nat) : Int))), hi, List.range'_succ, List.any_cons, Bool.or_assoc]
      simp only [law23_ResidueMeans_L1]
      rw [w64_id (by omega) (by omega), if_pos (by simp only [decide_eq_true_eq]; omega), w64_id (by omega) (by omega)]
      cases c with
      | true => simp
      | false =>
        simp only [Bool.false_eq_true, if_false, Bool.false_or]
        rw [law23_covers_eq N ha.1 (by omega) (by omega), law23_covers_eq N hb.1 (by omega) (by omega)]
        simp only [Option.bind_some]
        unfold cov
        by_cases h1 : ((k : Int) - a.From) % a.Period < a.Long
        · by_cases h2 : ((k : Int) - b.From) % b.Period < b.Long
          · simp [h1, h2]
          · simp [h1, h2]
        · simp [h1]

theorem residueMeans_true (n : Arr6_u8) (t : Int) (hn : Rg_Arr6_u8 n) (ht : InK .i64 t) : ∃ N, law23_ResidueMeans N n t = some true := by
  refine ⟨10000, ?_⟩
  obtain ⟨n0, n1, n2, n3, n4, n5⟩ := hn
  obtain ⟨a, hxa, ha⟩ := ref23_Of_eq 10000 n0.u8 n1.u8 n2.u8
  obtain ⟨b, hxb, hb⟩ := ref23_Of_eq 10000 n3.u8 n4.u8 n5.u8
  obtain ⟨a1, a2, a3, a4, a5, a6⟩ := ha.1.bounds
  obtain ⟨b1, b2, b3, b4, b5, b6⟩ := hb.1.bounds
  have hm : a.Period * b.Period ≤ 48 * 48 := Int.mul_le_mul ha.2 hb.2 (by omega) (by omega)
  have hm0 : 0 < a.Period * b.Period := Int.mul_pos (by omega) (by omega)
  have htb := tmod_bounds (t := t) (m := 100000) (by decide)
  have hap := ha.2
  obtain ⟨i, hi⟩ := means_loop (N := 10000) ha hb (a.Period * b.Period).toNat 10000 0 false (by omega) (by omega) (by omega)
  rw [show ((0 : Nat) : Int) = 0 from rfl, Bool.false_or] at hi
  unfold law23_ResidueMeans
  rw [works23, hxa, hxb]
  simp only [Option.bind_some, Bool.not_true, Bool.false_eq_true, if_false]
  rw [hi, Option.bind_some, law23_apart_eq (by decide) ha.1 hb.1]
  have e1 : w64 (t.tmod 100000 + a.Period) = t.tmod 100000 + a.Period := w64_id (by omega) (by omega)
  have e2 : w64 (3 * a.Period) = 3 * a.Period := w64_id (by omega) (by omega)
  have e3 : w64 (t.tmod 100000 - 3 * a.Period) = t.tmod 100000 - 3 * a.Period := w64_id (by omega) (by omega)
  rw [e1, e2, e3, law23_covers_eq _ ha.1 (by omega) (by omega), law23_covers_eq _ ha.1 (by omega) (by omega), law23_covers_eq _ ha.1 (by omega) (by omega)]
  have p1 : (t.tmod 100000 + a.Period - a.From) % a.Period = (t.tmod 100000 - a.From) % a.Period := by
    rw [show t.tmod 100000 + a.Period - a.From = t.tmod 100000 - a.From + a.Period by omega, Int.add_emod_right]
  have p2 : (t.tmod 100000 - 3 * a.Period - a.From) % a.Period = (t.tmod 100000 - a.From) % a.Period := by
    rw [show t.tmod 100000 - 3 * a.Period - a.From = t.tmod 100000 - a.From + a.Period * (-3) by omega, Int.add_mul_emod_self_left]
  rw [p1, p2]
  have hkey : decide (SepD a b (b.From - a.From)) = !((List.range' 0 (a.Period * b.Period).toNat).any fun x => cov a x && cov b x) := by
    rw [Bool.eq_iff_iff, decide_eq_true_iff, apart_iff ha.1 hb.1]
    simp only [Bool.not_eq_true', List.any_eq_false, List.mem_range'_1, Nat.zero_le, true_and, Nat.zero_add, Bool.and_eq_true, cov, decide_eq_true_eq]
    constructor
    · intro h x hx; exact h x (by omega)
    · intro h x hx; exact h x (by omega)
  rw [hkey]
  simp

/- moving -/
theorem neg_emod {d g : Int} (hg : 0 < g) : (-d) % g = if d % g = 0 then 0 else g - d % g := by
  have h0 := Int.emod_nonneg d (show g ≠ 0 by omega)
  have h1 := Int.emod_lt_of_pos d hg
  have hd := Int.mul_ediv_add_emod d g
  split
  · rename_i h
    have : -d = g * (-(d / g)) := by rw [Int.mul_neg]; omega
    rw [this]; exact Int.mul_emod_right _ _
  · rename_i h
    have : -d = (g - d % g) + g * (-(d / g) - 1) := by rw [Int.mul_sub, Int.mul_neg]; omega
    rw [this, Int.add_mul_emod_self_left]
    exact Int.emod_eq_of_lt (by omega) (by omega)

theorem sep_symm {a b : api_Span} (ha : VSpan a) (hb : VSpan b) : SepD b a (a.From - b.From) ↔ SepD a b (b.From - a.From) := by
  obtain ⟨a1, a2, a3, a4, a5, a6⟩ := ha.bounds
  obtain ⟨b1, b2, b3, b4, b5, b6⟩ := hb.bounds
  have hg0 : 0 < gP a b := gP_pos a1
  have h0 := Int.emod_nonneg (b.From - a.From) (show gP a b ≠ 0 by omega)
  have h1 := Int.emod_lt_of_pos (b.From - a.From) hg0
  unfold SepD
  rw [gP_comm b a, show a.From - b.From = -(b.From - a.From) by omega, neg_emod hg0]
  split <;> omega

theorem sep_shift {a b : api_Span} (ha : VSpan a) (hb : VSpan b) (k : Int) : SepD (shift a k) (shift b k) ((shift b k).From - (shift a k).From) ↔ SepD a b (b.From - a.From) := by
  obtain ⟨a1, a2, a3, a4, a5, a6⟩ := ha.bounds
  obtain ⟨b1, b2, b3, b4, b5, b6⟩ := hb.bounds
  have hga : gP a b ∣ a.Period := gP_dvd_left a1
  have hgb : gP a b ∣ b.Period := gP_dvd_right b1
  have hg : gP (shift a k) (shift b k) = gP a b := rfl
  have hd : ((shift b k).From - (shift a k).From) % gP a b = (b.From - a.From) % gP a b := by
    show ((b.From + k) % b.Period - (a.From + k) % a.Period) % gP a b = _
    rw [Int.sub_emod, Int.emod_emod_of_dvd _ hgb, Int.emod_emod_of_dvd _ hga, ← Int.sub_emod]
    congr 1; omega
  unfold SepD
  rw [hg, hd]
  rfl

theorem dvd_tmod {p g : Int} (hg : 0 < g) (hp : 0 ≤ p) (h : g ∣ p) : p.tmod g = 0 := by
  rw [Int.tmod_eq_emod_of_nonneg hp]; exact Int.emod_eq_zero_of_dvd h

theorem residueMoves_true (n : Arr6_u8) (by_ : Int) (hn : Rg_Arr6_u8 n) (hby : InK .u8 by_) : ∃ N, law23_ResidueMoves N n by_ = some true := by
  refine ⟨10000, ?_⟩
  obtain ⟨n0, n1, n2, n3, n4, n5⟩ := hn
  obtain ⟨a, hxa, ha⟩ := ref23_Of_eq 10000 n0.u8 n1.u8 n2.u8
  obtain ⟨b, hxb, hb⟩ := ref23_Of_eq 10000 n3.u8 n4.u8 n5.u8
  obtain ⟨a1, a2, a3, a4, a5, a6⟩ := ha.1.bounds
  obtain ⟨b1, b2, b3, b4, b5, b6⟩ := hb.1.bounds
  have hbyb := hby.u8
  have hg0 : 0 < gP a b := gP_pos a1
  have hg1 : gP a b ≤ a.Period := gP_le a1
  have hga : gP a b ∣ a.Period := gP_dvd_left a1
  have hgb : gP a b ∣ b.Period := gP_dvd_right b1
  have hbp := hb.2
  unfold law23_ResidueMoves
  rw [works23, hxa, hxb]
  simp only [Option.bind_some, Bool.not_true, Bool.false_eq_true, if_false]
  rw [w64_id (by omega) (by omega), ref23_Shifted_eq _ ha.1 (by omega) (by omega), ref23_Shifted_eq _ hb.1 (by omega) (by omega)]
  simp only [Option.bind_some]
  rw [law23_apart_eq (by decide) ha.1 hb.1, law23_apart_eq (by decide) hb.1 ha.1, law23_apart_eq (by decide) (ha.1.shift by_) (hb.1.shift by_)]
  have s1 : decide (SepD b a (a.From - b.From)) = decide (SepD a b (b.From - a.From)) := decide_eq_decide.2 (sep_symm ha.1 hb.1)
  have s2 : decide (SepD (shift a by_) (shift b by_) ((shift b by_).From - (shift a by_).From)) = decide (SepD a b (b.From - a.From)) := decide_eq_decide.2 (sep_shift ha.1 hb.1 by_)
  rw [s1, s2]
  simp only [Option.bind_some, bne_self_eq_false, Bool.false_eq_true, if_false]
  rw [residue_Room_eq (by decide), if_pos ⟨ha.1, hb.1⟩, Option.bind_some]
  have hshift : ∀ k : Nat, k < b.Period.toNat → ref23_Shifted 10000 b (k : Int) = some (shift b k) := fun k hk => ref23_Shifted_eq _ hb.1 (by omega) (by omega)
  have hgs : ∀ k : Int, gP a (shift b k) = gP a b := fun k => rfl
  by_cases hc : a.Long > gP a b - b.Long
  · rw [if_pos hc]
    simp only [beq_self_eq_true, if_true]
    have := iterF_first (q := fun _ => false) (P := b.Period.toNat) (body := fun x : Int => law23_ResidueMoves_L1 10000 a b x) (bad := .inl b.Period) (good := fun _ => .inr false) (fun k hk => by
      simp only [law23_ResidueMoves_L1]
      rw [if_pos (by simp only [decide_eq_true_eq]; omega), hshift k hk, Option.bind_some, law23_apart_eq (by decide) ha.1 (hb.1.shift k), Option.bind_some]
      have hns : ¬ SepD a (shift b k) ((shift b k).From - a.From) := by
        unfold SepD
        rw [hgs]
        show ¬ (_ ∧ _ ≤ gP a b - b.Long)
        omega
      rw [if_neg (by simpa using hns), w64_id (by omega) (by omega)]
      simp) (by simp only [law23_ResidueMoves_L1]; rw [if_neg (by simp only [decide_eq_true_eq]; omega)]; simp; omega) b.Period.toNat 10000 0 (by omega) (by omega) (by omega)
    rw [show ((0 : Nat) : Int) = 0 from rfl] at this
    rw [this, Option.bind_some]
    have : (List.range' 0 b.Period.toNat).find? (fun _ => false) = none := by rw [List.find?_eq_none]; simp
    rw [this]
  · rw [if_neg hc]
    simp only [show ((0 : Int) == 4) = false from rfl, Bool.false_eq_true, if_false, bne_self_eq_false]
    rw [if_neg (by simp only [decide_eq_true_eq]; omega), remI_pos (by omega), Option.bind_some, dvd_tmod hg0 (by omega) hga]
    simp only [bne_self_eq_false, Bool.false_eq_true, if_false]
    rw [remI_pos (by omega), Option.bind_some, dvd_tmod hg0 (by omega) hgb]
    simp only [bne_self_eq_false, Bool.false_eq_true, if_false]
    rw [w64_id (by omega) (by omega), if_neg (by simp only [decide_eq_true_eq]; omega), Option.bind_some, if_neg (by simp only [decide_eq_true_eq]; omega)]
    have := iterF_first (q := fun _ => false) (P := b.Period.toNat) (body := fun x : Int => law23_ResidueMoves_L2 10000 a b (a.Long, gP a b - b.Long, gP a b, 0) x) (bad := .inl b.Period) (good := fun _ => .inr false) (fun k hk => by
      simp only [law23_ResidueMoves_L2]
      have hv := (hb.1.shift (k : Int)).bounds
      rw [if_pos (by simp only [decide_eq_true_eq]; omega), hshift k hk, Option.bind_some, w64_id (by omega) (by omega), ref23_Mod_eq _ hg0 (by omega), Option.bind_some, law23_apart_eq (by decide) ha.1 (hb.1.shift k), Option.bind_some]
      have hsep : SepD a (shift b k) ((shift b k).From - a.From) ↔ (a.Long ≤ ((shift b k).From - a.From) % gP a b ∧ ((shift b k).From - a.From) % gP a b ≤ gP a b - b.Long) := Iff.rfl
      by_cases h1 : ((shift b k).From - a.From) % gP a b ≥ a.Long
      · have e : (decide (SepD a (shift b k) ((shift b k).From - a.From))) = decide (((shift b k).From - a.From) % gP a b ≤ gP a b - b.Long) := decide_eq_decide.2 (by rw [hsep]; omega)
        rw [if_pos (by simpa using h1), e, Option.bind_some, if_neg (by simp), w64_id (by omega) (by omega)]
        simp
      · have e : (decide (SepD a (shift b k) ((shift b k).From - a.From))) = false := decide_eq_false (by rw [hsep]; omega)
        rw [if_neg (by simpa using h1), e, Option.bind_some, if_neg (by simp), w64_id (by omega) (by omega)]
        simp) (by simp only [law23_ResidueMoves_L2]; rw [if_neg (by simp only [decide_eq_true_eq]; omega)]; simp; omega) b.Period.toNat 10000 0 (by omega) (by omega) (by omega)
    rw [show ((0 : Nat) : Int) = 0 from rfl] at this
    rw [this, Option.bind_some]
    have : (List.range' 0 b.Period.toNat).find? (fun _ => false) = none := by rw [List.find?_eq_none]; simp
    rw [this]
end Go.Sh
