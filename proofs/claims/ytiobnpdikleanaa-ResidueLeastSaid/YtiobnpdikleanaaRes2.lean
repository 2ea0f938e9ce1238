/- Residues: the program agrees with the reference. -/
import Derived.Test.YtiobnpdikleanaaRes1
import Derived.Test.YtiobnpdikleanaaRd
namespace Go.Sh
open Go Go.Eng

theorem VSpan.bounds {s : api_Span} (h : VSpan s) : 1 ≤ s.Period ∧ s.Period ≤ 960 ∧ 0 ≤ s.From ∧ s.From < s.Period ∧ 1 ≤ s.Long ∧ s.Long ≤ s.Period := h

theorem gP_comm (a b : api_Span) : gP a b = gP b a := by unfold gP; rw [Nat.gcd_comm]

theorem gcd_right_le {a b : api_Span} (hb : 1 ≤ b.Period) : gP a b ≤ b.Period := by rw [gP_comm]; exact gP_le hb

/-- Separate, for spans whose starts are small. -/
theorem ref23_Separate_eq {N : Nat} (hN : 2000 ≤ N) {a b : api_Span} (ha : 1 ≤ a.Period) (ha2 : a.Period ≤ 960) (hb : 1 ≤ b.Period) (hb2 : b.Period ≤ 960) (haf : 0 ≤ a.From) (haf2 : a.From ≤ 960) (hbf : 0 ≤ b.From) (hbf2 : b.From ≤ 960)
    (hal : 1 ≤ a.Long) (hal2 : a.Long ≤ 960) (hbl : 1 ≤ b.Long) (hbl2 : b.Long ≤ 960) : ref23_Separate N a b = some (decide (SepD a b (b.From - a.From))) := by
  unfold ref23_Separate
  rw [ref23_Gcd_eq ha hb (by omega) (by omega), Option.bind_some]
  have hg0 : 0 < gP a b := gP_pos ha
  have hg1 : gP a b ≤ a.Period := gP_le ha
  have key : ∀ (n : Nat) (M : Nat) (x : Int), (a.Long - x).toNat = n → 1 - b.Long ≤ x → n < M → (∀ y, 1 - b.Long ≤ y → y < x → (b.From - a.From - y) % gP a b ≠ 0) →
      ∃ r, iterF (fun x : Int => ref23_Separate_L1 N a b (gP a b) x) M x = some r ∧ (match r with | .inl _ => true | .inr p => p) = decide (SepD a b (b.From - a.From)) := by
    intro n
    induction n with
    | zero =>
      intro M x hn hx hM hall
      cases M with
      | zero => omega
      | succ M =>
        refine ⟨.inl x, iterF_inr (by simp only [ref23_Separate_L1]; rw [if_neg (by simp; omega)]), ?_⟩
        symm
        simp only [decide_eq_true_eq]
        refine (sep_iff hg0 hal hbl).1 fun y h1 h2 => hall y h1 (by omega)
    | succ n ih =>
      intro M x hn hx hM hall
      cases M with
      | zero => omega
      | succ M =>
        have hlt : x < a.Long := by omega
        have e1 : w64 (b.From - a.From) = b.From - a.From := w64_id (by omega) (by omega)
        have e2 : w64 (b.From - a.From - x) = b.From - a.From - x := w64_id (by omega) (by omega)
        have hbody : ref23_Separate_L1 N a b (gP a b) x = if ((b.From - a.From - x) % gP a b == 0) = true then some (.inr (.inr false)) else some (.inl (w64 (x + 1))) := by
          simp only [ref23_Separate_L1]
          rw [if_pos (by simpa using hlt), e1, e2, ref23_Mod_eq N hg0 (by omega), Option.bind_some]
        by_cases h0 : (b.From - a.From - x) % gP a b = 0
        · refine ⟨.inr false, iterF_inr (by rw [hbody, if_pos (by simpa using h0)]), ?_⟩
          symm
          simp only [decide_eq_false_iff_not]
          intro hs
          exact (sep_iff hg0 hal hbl).2 hs x hx hlt h0
        · rw [iterF_inl (y := x + 1) (by rw [hbody, if_neg (by simpa using h0), w64_id (by omega) (by omega)])]
          refine ih M (x + 1) (by omega) (by omega) (by omega) fun y h1 h2 => ?_
          by_cases h3 : y = x
          · subst h3; exact h0
          · exact hall y h1 (by omega)
  rw [w64_id (by omega) (by omega)]
  obtain ⟨r, h1, h2⟩ := key (a.Long - (1 - b.Long)).toNat N (1 - b.Long) rfl (Int.le_refl _) (by omega) (fun y h1 h2 => by omega)
  show (iterF (fun x : Int => ref23_Separate_L1 N a b (gP a b) x) N (1 - b.Long)).bind _ = _
  rw [h1, Option.bind_some, ← h2]
  cases r <;> rfl

theorem VSpan.separate {N : Nat} (hN : 2000 ≤ N) {a b : api_Span} (ha : VSpan a) (hb : VSpan b) : ref23_Separate N a b = some (decide (SepD a b (b.From - a.From))) := by
  obtain ⟨a1, a2, a3, a4, a5, a6⟩ := ha
  obtain ⟨b1, b2, b3, b4, b5, b6⟩ := hb
  exact ref23_Separate_eq hN a1 a2 b1 b2 a3 (by omega) b3 (by omega) a5 (by omega) b5 (by omega)

theorem residue_room_eq {N : Nat} (hN : 2000 ≤ N) {a b : api_Span} (ha : VSpan a) (hb : VSpan b) : residue_room N a b = some (a.Long, gP a b - b.Long, gP a b) := by
  obtain ⟨a1, a2, a3, a4, a5, a6⟩ := ha
  obtain ⟨b1, b2, b3, b4, b5, b6⟩ := hb
  have hg0 : 0 < gP a b := gP_pos a1
  have hg1 : gP a b ≤ a.Period := gP_le a1
  unfold residue_room
  rw [residue_gcd_eq (by omega) (by omega) (by omega), Option.bind_some]
  show some (a.Long, w64 (gP a b - b.Long), gP a b) = _
  rw [w64_id (by omega) (by omega)]

theorem residue_apart_eq {N : Nat} (hN : 2000 ≤ N) {a b : api_Span} (ha : VSpan a) (hb : VSpan b) : residue_apart N a b = some (decide (SepD a b (b.From - a.From))) := by
  have hr := residue_room_eq hN ha hb
  obtain ⟨a1, a2, a3, a4, a5, a6⟩ := ha
  obtain ⟨b1, b2, b3, b4, b5, b6⟩ := hb
  have hg0 : 0 < gP a b := gP_pos a1
  have hg1 : gP a b ≤ a.Period := gP_le a1
  unfold residue_apart
  by_cases h : ((a.Period == b.Period) && ((a.From == b.From) && ((a.Long == b.Long) && true))) = true
  · rw [if_pos h]
    simp only [Bool.and_eq_true, beq_iff_eq, and_true] at h
    symm
    simp only [Option.some.injEq, decide_eq_false_iff_not]
    unfold SepD
    rw [h.2.1, Int.sub_self, Int.zero_emod]
    omega
  · rw [if_neg h, hr]
    simp only [Option.bind_some]
    rw [w64_id (by omega) (by omega), residue_mod_eq N hg0 (by omega)]
    simp only [Option.bind_some, Option.some.injEq]
    rw [Bool.eq_iff_iff, decide_eq_true_iff]
    simp only [Bool.and_eq_true, decide_eq_true_eq, SepD]

theorem residue_Apart_eq {N : Nat} (hN : 2000 ≤ N) (a b : api_Span) : residue_Apart N a b = some (if VSpan a ∧ VSpan b then (decide (SepD a b (b.From - a.From)), 0) else (false, 330)) := by
  unfold residue_Apart
  rw [residue_Check_eq, residue_Check_eq]
  simp only [Option.bind_some]
  by_cases ha : VSpan a
  · by_cases hb : VSpan b
    · simp only [ha, hb, if_true, and_self, bne_self_eq_false, Bool.false_eq_true, if_false, residue_apart_eq hN ha hb, Option.bind_some]
    · simp [ha, hb]
  · simp [ha]

theorem ref23_Apart_eq {N : Nat} (hN : 2000 ≤ N) (a b : api_Span) : ref23_Apart N a b = some (if VSpan a ∧ VSpan b then (decide (SepD a b (b.From - a.From)), 0) else (false, 330)) := by
  unfold ref23_Apart
  rw [ref23_Right_eq, ref23_Right_eq]
  by_cases ha : VSpan a
  · by_cases hb : VSpan b
    · simp [ha, hb, VSpan.separate hN ha hb]
    · simp [ha, hb]
  · simp [ha]

theorem residue_Room_eq {N : Nat} (hN : 2000 ≤ N) (a b : api_Span) : residue_Room N a b = some (if VSpan a ∧ VSpan b then (if a.Long > gP a b - b.Long then (0, 0, 0, 4) else (a.Long, gP a b - b.Long, gP a b, 0)) else (0, 0, 0, 330)) := by
  unfold residue_Room
  rw [residue_Check_eq, residue_Check_eq]
  simp only [Option.bind_some]
  by_cases ha : VSpan a
  · by_cases hb : VSpan b
    · simp only [ha, hb, if_true, and_self, bne_self_eq_false, Bool.false_eq_true, if_false, residue_room_eq hN ha hb, Option.bind_some, decide_eq_true_eq]
      split <;> rfl
    · simp [ha, hb]
  · simp [ha]

theorem emod_emod_dvd' {a m g : Int} (h : g ∣ m) : (a % m) % g = a % g := Int.emod_emod_of_dvd a h

theorem ref23_Room_eq {N : Nat} (hN : 2000 ≤ N) (a b : api_Span) : ref23_Room N a b = some (if VSpan a ∧ VSpan b then (if a.Long > gP a b - b.Long then (0, 0, 0, 4) else (a.Long, gP a b - b.Long, gP a b, 0)) else (0, 0, 0, 330)) := by
  unfold ref23_Room
  rw [ref23_Right_eq, ref23_Right_eq]
  by_cases ha : VSpan a
  · by_cases hb : VSpan b
    · simp only [ha, hb, decide_true, Bool.not_true, Bool.false_eq_true, if_false, Option.bind_some, and_self, if_true]
      obtain ⟨a1, a2, a3, a4, a5, a6⟩ := ha
      obtain ⟨b1, b2, b3, b4, b5, b6⟩ := hb
      have hg0 : 0 < gP a b := gP_pos a1
      have hg1 : gP a b ≤ a.Period := gP_le a1
      have hgb : gP a b ∣ b.Period := gP_dvd_right b1
      rw [ref23_Gcd_eq a1 b1 (by omega) (by omega), Option.bind_some]
      show (iterF (fun x : Int × Int × Int × Int => ref23_Room_L1 N a b (gP a b) x.1 x.2.1 x.2.2.1 x.2.2.2) N (gP a b, (-1), 0, b.From)).bind _ = _
      have hsep : ∀ d : Int, 0 ≤ d → d < gP a b → ref23_Separate N a (api_Span.mk b.Period ((a.From + d) % b.Period) b.Long) = some (decide (a.Long ≤ d ∧ d ≤ gP a b - b.Long)) := by
        intro d h0 h1
        have hm0 := Int.emod_nonneg (a.From + d) (show b.Period ≠ 0 by omega)
        have hm1 := Int.emod_lt_of_pos (a.From + d) (show 0 < b.Period by omega)
        rw [ref23_Separate_eq (b := api_Span.mk b.Period ((a.From + d) % b.Period) b.Long) hN a1 a2 b1 b2 a3 (by omega) hm0 (by simp only; omega) a5 (by omega) b5 (by simp only; omega)]
        have hgg : gP a (api_Span.mk b.Period ((a.From + d) % b.Period) b.Long) = gP a b := rfl
        congr 1
        rw [decide_eq_decide]
        unfold SepD
        rw [hgg]
        have : ((a.From + d) % b.Period - a.From) % gP a b = d := by
          rw [Int.sub_emod, Int.emod_emod_of_dvd _ hgb, ← Int.sub_emod, show a.From + d - a.From = d by omega]
          exact Int.emod_eq_of_lt h0 h1
        simp only [this]
      have key : ∀ (n M : Nat) (d f t c : Int), (gP a b - d).toNat = n → 0 ≤ d → n < M → d ≤ gP a b →
          f = (if d ≤ a.Long ∨ gP a b - b.Long < a.Long then gP a b else a.Long) → t = (if d ≤ a.Long ∨ gP a b - b.Long < a.Long then -1 else (if d - 1 ≤ gP a b - b.Long then d - 1 else gP a b - b.Long)) →
          ∃ r, iterF (fun x : Int × Int × Int × Int => ref23_Room_L1 N a b (gP a b) x.1 x.2.1 x.2.2.1 x.2.2.2) M (f, t, d, c) = some r ∧ r.1 = (if gP a b - b.Long < a.Long then gP a b else a.Long) ∧ r.2.1 = (if gP a b - b.Long < a.Long then -1 else gP a b - b.Long) := by
        intro n
        induction n with
        | zero =>
          intro M d f t c hn h0 hM hle hf ht
          cases M with
          | zero => omega
          | succ M =>
            refine ⟨(f, t, d, c), iterF_inr (by simp only [ref23_Room_L1]; rw [if_neg (by simp; omega)]), ?_, ?_⟩
            · simp only; rw [hf]; split <;> split <;> omega
            · simp only; rw [ht]; split <;> split <;> (try split) <;> omega
        | succ n ih =>
          intro M d f t c hn h0 hM hle hf ht
          cases M with
          | zero => omega
          | succ M =>
            have hlt : d < gP a b := by omega
            rw [iterF_inl (y := ((if a.Long ≤ d ∧ d ≤ gP a b - b.Long then (if d < f then d else f) else f), (if a.Long ≤ d ∧ d ≤ gP a b - b.Long then d else t), d + 1, (a.From + d) % b.Period))]
            · refine ih M (d + 1) _ _ _ (by omega) (by omega) (by omega) (by omega) ?_ ?_
              · subst hf
                split <;> split <;> (try split) <;> (try split) <;> omega
              · subst ht
                split <;> split <;> (try split) <;> (try split) <;> omega
            · simp only [ref23_Room_L1]
              rw [if_pos (by simpa using hlt), w64_id (by omega) (by omega), ref23_Mod_eq N (by omega) (by omega)]
              simp only [Option.bind_some]
              rw [hsep d h0 hlt, Option.bind_some]
              by_cases hc : a.Long ≤ d ∧ d ≤ gP a b - b.Long
              · simp only [hc, decide_true, if_true, Option.bind_some, and_self]
                rw [w64_id (by omega) (by omega)]
              · simp only [hc, decide_false, Bool.false_eq_true, if_false, Option.bind_some]
                rw [w64_id (by omega) (by omega)]
      obtain ⟨r, h1, h2, h3⟩ := key (gP a b).toNat N 0 (gP a b) (-1) b.From (by omega) (Int.le_refl _) (by omega) (by omega) (by rw [if_pos (by omega)]) (by rw [if_pos (by omega)])
      rw [h1, Option.bind_some]
      by_cases hc : gP a b - b.Long < a.Long
      · rw [if_pos (by rw [h3, if_pos hc]; decide), if_pos (by omega)]
      · rw [if_neg (by rw [h3, if_neg hc]; simp; omega), if_neg (by omega), h2, h3, if_neg hc, if_neg hc]
        rfl
    · simp [ha, hb]
  · simp [ha]
end Go.Sh
