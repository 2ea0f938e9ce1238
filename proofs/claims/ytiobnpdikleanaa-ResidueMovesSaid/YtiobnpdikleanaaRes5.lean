/- Residues: the laws that compare the program with the reference return true. -/
import Derived.Test.YtiobnpdikleanaaRes4
import Derived.KernelRfl
namespace Go.Sh
open Go Go.Eng

theorem works23 : law23_works 10000 = some true := by kernel_rfl

theorem tmod_bounds {t m : Int} (hm : 0 < m) : -m < t.tmod m ∧ t.tmod m < m := ⟨Int.lt_tmod_of_pos t hm, Int.tmod_lt_of_pos t hm⟩

theorem residueChecks_true (s : api_Span) (n : Arr3_u8) (t : Int) (hs : Rg_api_Span s) (hn : Rg_Arr3_u8 n) (ht : InK .i64 t) : ∃ N, law23_ResidueChecks N s n t = some true := by
  refine ⟨10000, ?_⟩
  obtain ⟨n0, n1, n2⟩ := hn
  obtain ⟨x, hx, _⟩ := ref23_Of_eq 10000 n0.u8 n1.u8 n2.u8
  have hcov : ∀ (s : api_Span) (t : Int), ∃ r, residue_Covers 10000 s t = some r ∧ ref23_Covers 10000 s t = some r := by
    intro s t
    have : ∃ r, ref23_Covers 10000 s t = some r := by
      unfold ref23_Covers
      rw [ref23_Right_eq, Option.bind_some]
      by_cases h : VSpan s
      · simp only [h, decide_true, Bool.not_true, Bool.false_eq_true, if_false]
        split
        · exact ⟨_, rfl⟩
        · rw [ref23_Mod_eq _ (by have := h.bounds; omega) (by have := h.bounds; omega)]; exact ⟨_, rfl⟩
      · simp [h]
    obtain ⟨r, hr⟩ := this
    exact ⟨r, by rw [residue_Covers_eq, hr], hr⟩
  unfold law23_ResidueChecks
  rw [hx, Option.bind_some]
  obtain ⟨r1, a1, b1⟩ := hcov s t
  obtain ⟨r2, a2, b2⟩ := hcov s (Int.tmod t 100)
  obtain ⟨r3, a3, b3⟩ := hcov s (w64 (-Int.tmod t 1000))
  obtain ⟨r4, a4, b4⟩ := hcov x t
  obtain ⟨r5, a5, b5⟩ := hcov x (Int.tmod t 100)
  obtain ⟨r6, a6, b6⟩ := hcov x (w64 (-Int.tmod t 1000))
  simp [a1, b1, a2, b2, a3, b3, a4, b4, a5, b5, a6, b6, residue_Check_eq, ref23_Check_eq, works23]

theorem residueAparts_true (a b : api_Span) (n : Arr6_u8) (ha : Rg_api_Span a) (hb : Rg_api_Span b) (hn : Rg_Arr6_u8 n) : ∃ N, law23_ResidueAparts N a b n = some true := by
  refine ⟨10000, ?_⟩
  obtain ⟨n0, n1, n2, n3, n4, n5⟩ := hn
  obtain ⟨x, hx, _⟩ := ref23_Of_eq 10000 n0.u8 n1.u8 n2.u8
  obtain ⟨y, hy, _⟩ := ref23_Of_eq 10000 n3.u8 n4.u8 n5.u8
  unfold law23_ResidueAparts
  simp [hx, hy, residue_Apart_eq, ref23_Apart_eq, residue_Room_eq, ref23_Room_eq, works23]

theorem residueNexts_true (l : List Arr3_u8) (odd : api_Span) (at_ : Int) (b : api_Span) (n : Arr3_u8) (hl : l.length ≤ maxLen ∧ ∀ x ∈ l, Rg_Arr3_u8 x) (ho : Rg_api_Span odd) (ha : InK .u8 at_) (hb : Rg_api_Span b) (hn : Rg_Arr3_u8 n) :
    ∃ N, law23_ResidueNexts N l odd at_ b n = some true := by
  refine ⟨10000, ?_⟩
  obtain ⟨n0, n1, n2⟩ := hn
  obtain ⟨x, hx, _⟩ := ref23_Of_eq 10000 n0.u8 n1.u8 n2.u8
  obtain ⟨r, hr, _, hlen⟩ := law23_drafts_eq (N := 10000) (by decide) hl.2 (most := 34) (by decide) (by decide)
  have ha := ha.u8
  unfold law23_ResidueNexts
  rw [hr, Option.bind_some, appI_small (by simp; omega) (by decide), Option.bind_some, List.nil_append]
  have hbent : ∃ bent, (if (decide (((List.length r : Nat) : Int) > 0)) = true then ((remI (w64 (at_)) ((List.length r : Nat) : Int)).bind fun m => ((idx r m).bind fun e => (some (List.set r (Int.toNat m) odd)))) else (some r)) = some bent := by
    by_cases h : r.length = 0
    · exact ⟨r, by rw [if_neg (by simp only [decide_eq_true_eq]; omega)]⟩
    · rw [if_pos (by simp only [decide_eq_true_eq]; omega), w64_id (by omega) (by omega), remI_pos (by omega), Option.bind_some, Int.tmod_eq_emod_of_nonneg (by omega)]
      have m0 := Int.emod_nonneg at_ (show ((r.length : Nat) : Int) ≠ 0 by omega)
      have m1 := Int.emod_lt_of_pos at_ (show (0 : Int) < (r.length : Nat) by omega)
      rw [idx_lt m0 (by omega), Option.bind_some]
      exact ⟨_, rfl⟩
  obtain ⟨bent, hbent⟩ := hbent
  rw [hbent, Option.bind_some, hx]
  simp [residue_Next_eq, ref23_Next_eq, residue_Cycle_eq, ref23_Cycle_eq, works23]
end Go.Sh
