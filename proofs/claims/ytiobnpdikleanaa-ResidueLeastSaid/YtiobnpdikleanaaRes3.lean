/- Residues: drafts, Next, Cycle. -/
import Derived.Test.YtiobnpdikleanaaRes2
namespace Go.Sh
open Go Go.Eng

/-- A small valid span. -/
def Small (s : api_Span) : Prop := VSpan s ∧ s.Period ≤ 48

theorem ref23_Of_eq (N : Nat) {p f l : Int} (hp : 0 ≤ p ∧ p ≤ 255) (hf : 0 ≤ f ∧ f ≤ 255) (hl : 0 ≤ l ∧ l ≤ 255) : ∃ s, ref23_Of N p f l = some s ∧ Small s := by
  have h1 : p.tmod 48 = p % 48 := Int.tmod_eq_emod_of_nonneg hp.1
  have h2 := Int.emod_nonneg p (show (48 : Int) ≠ 0 by decide)
  have h3 := Int.emod_lt_of_pos p (show (0 : Int) < 48 by decide)
  have e1 : w64 (p.tmod 48) = p % 48 := by rw [h1]; exact w64_id (by omega) (by omega)
  have e2 : w64 (1 + p % 48) = 1 + p % 48 := w64_id (by omega) (by omega)
  have e3 : w64 f = f := w64_id (by omega) (by omega)
  have e4 : w64 l = l := w64_id (by omega) (by omega)
  have f0 := Int.emod_nonneg f (show 1 + p % 48 ≠ 0 by omega)
  have f1 := Int.emod_lt_of_pos f (show 0 < 1 + p % 48 by omega)
  have l0 := Int.emod_nonneg l (show 1 + p % 48 ≠ 0 by omega)
  have l1 := Int.emod_lt_of_pos l (show 0 < 1 + p % 48 by omega)
  refine ⟨⟨1 + p % 48, f % (1 + p % 48), 1 + l % (1 + p % 48)⟩, ?_, ?_⟩
  · unfold ref23_Of
    rw [e1, e2, e3, e4, remI_pos (by omega), remI_pos (by omega), Option.bind_some, Option.bind_some, Int.tmod_eq_emod_of_nonneg hf.1, Int.tmod_eq_emod_of_nonneg hl.1]
    rw [w64_id (by omega) (by omega)]
  · unfold Small VSpan
    simp only
    omega

theorem appI_small {α : Type} {b : Nat} {l m : List α} (h : l.length + m.length ≤ 100000) (hb : b ≤ 100000) : appI b l m = some (l ++ m) := by
  unfold appI
  rw [if_pos]
  have : (l.length + m.length) * b ≤ 100000 * 100000 := Nat.mul_le_mul h hb
  omega

theorem law23_drafts_eq {N : Nat} (hN : 100 ≤ N) {l : List Arr3_u8} (hl : ∀ x ∈ l, Rg_Arr3_u8 x) {most : Int} (hm : 0 ≤ most) (hm2 : most ≤ 40) : ∃ r, law23_drafts N l most = some r ∧ (∀ s ∈ r, Small s) ∧ (r.length : Int) ≤ most := by
  unfold law23_drafts
  obtain ⟨r, h1, h2⟩ := iterF_of (body := fun x : Int × List api_Span => law23_drafts_L1 N l most x.1 x.2) (fun x => ∃ k : Nat, x.1 = k ∧ x.2.length = k ∧ (k : Int) ≤ most ∧ ∀ s ∈ x.2, Small s) (fun x => (40 - x.1).toNat)
    (fun r => (∀ s ∈ r.2, Small s) ∧ (r.2.length : Int) ≤ most) (fun x hx => by
      obtain ⟨i, acc⟩ := x
      obtain ⟨k, e1, e2, e3, e4⟩ := hx
      simp only at e1 e2 e3 e4 ⊢
      subst e1
      by_cases hc : k < l.length ∧ (k : Int) < most
      · left
        have hx := hl l[k] (List.getElem_mem hc.1)
        obtain ⟨g0, g1, g2⟩ := hx
        obtain ⟨s, hs1, hs2⟩ := ref23_Of_eq N g0.u8 g1.u8 g2.u8
        refine ⟨(((k + 1 : Nat) : Int), acc ++ [s]), ?_, ⟨k + 1, rfl, by simp [e2], by omega, ?_⟩, by omega⟩
        · simp only [law23_drafts_L1]
          rw [if_pos (by simp; omega), idx_nat, List.getElem?_eq_getElem hc.1]
          simp only [Option.bind_some]
          rw [hs1, Option.bind_some, appI_small (by simp; omega) (by omega), Option.bind_some, w64_id (by omega) (by omega)]
          simp
        · intro t ht
          rcases List.mem_append.1 ht with ht | ht
          · exact e4 t ht
          · simp at ht; subst ht; exact hs2
      · right
        refine ⟨((k : Int), acc), ?_, e4, by show (acc.length : Int) ≤ most; omega⟩
        simp only [law23_drafts_L1]
        rw [if_neg (by simp; omega)]) N (0, []) ⟨0, rfl, rfl, by simpa using hm, by simp⟩ (by omega)
  rw [h1, Option.bind_some]
  exact ⟨r.2, rfl, h2⟩

def allV (l : List api_Span) : Bool := l.all fun s => decide (VSpan s)

theorem residue_checkAll_eq {N : Nat} (hN : 100 ≤ N) (l : List api_Span) : residue_checkAll N l = some (if 32 < l.length then 3 else if allV l then 0 else 330) := by
  unfold residue_checkAll
  by_cases h : 32 < l.length
  · rw [if_pos (by simp; omega), if_pos h]
  · rw [if_neg (by simp; omega), if_neg h]
    have := iterF_all (l := l) (p := fun s => decide (VSpan s)) (body := fun x : Int => residue_checkAll_L1 N l x) (bad := .inr 330) (fin := .inl (l.length : Int)) (fun k hk => by
      simp only [residue_checkAll_L1]
      rw [if_pos (by simpa using hk), idx_nat, List.getElem?_eq_getElem hk, Option.bind_some, residue_Check_eq, Option.bind_some]
      by_cases hv : VSpan l[k]
      · simp only [hv, if_true, bne_self_eq_false, Bool.false_eq_true, if_false, decide_true]
        rw [w64_id (by omega) (by omega)]; simp
      · simp [hv]) (by simp [residue_checkAll_L1]) l.length N 0 (by omega) (by omega) (by omega)
    rw [show ((0 : Nat) : Int) = 0 from rfl] at this
    rw [this, Option.bind_some, List.drop_zero]
    have e : (l.all fun s => decide (VSpan s)) = allV l := rfl
    rw [e]
    cases allV l <;> rfl

theorem ref23_list_eq {N : Nat} (hN : 100 ≤ N) (l : List api_Span) : ref23_list N l = some (if 32 < l.length then 3 else if allV l then 0 else 330) := by
  unfold ref23_list
  by_cases h : 32 < l.length
  · rw [if_pos (by simp; omega), if_pos h]
  · rw [if_neg (by simp; omega), if_neg h]
    have := iterF_all (l := l) (p := fun s => decide (VSpan s)) (body := fun x : Int => ref23_list_L1 N l x) (bad := .inr 330) (fin := .inl (l.length : Int)) (fun k hk => by
      simp only [ref23_list_L1]
      rw [if_pos (by simpa using hk), idx_nat, List.getElem?_eq_getElem hk, Option.bind_some, ref23_Right_eq, Option.bind_some]
      by_cases hv : VSpan l[k]
      · simp only [hv, decide_true, Bool.not_true, Bool.false_eq_true, if_false, if_true]
        rw [w64_id (by omega) (by omega)]; simp
      · simp [hv]) (by simp [ref23_list_L1]) l.length N 0 (by omega) (by omega) (by omega)
    rw [show ((0 : Nat) : Int) = 0 from rfl] at this
    rw [this, Option.bind_some, List.drop_zero]
    have e : (l.all fun s => decide (VSpan s)) = allV l := rfl
    rw [e]
    cases allV l <;> rfl

/-- The span, shifted. -/
def shift (b : api_Span) (k : Int) : api_Span := ⟨b.Period, (b.From + k) % b.Period, b.Long⟩

theorem VSpan.shift {b : api_Span} (h : VSpan b) (k : Int) : VSpan (shift b k) := by
  obtain ⟨b1, b2, b3, b4, b5, b6⟩ := h
  have m0 := Int.emod_nonneg (b.From + k) (show b.Period ≠ 0 by omega)
  have m1 := Int.emod_lt_of_pos (b.From + k) (show 0 < b.Period by omega)
  unfold Go.Sh.shift VSpan
  simp only
  omega

theorem residue_shifted_eq (N : Nat) {b : api_Span} (h : VSpan b) {k : Int} (h0 : 0 ≤ k) (h1 : k ≤ 1000000) : residue_shifted N b k = some (shift b k) := by
  obtain ⟨b1, b2, b3, b4, b5, b6⟩ := h
  unfold residue_shifted shift
  rw [w64_id (by omega) (by omega), remI_pos (by omega), Option.bind_some, Int.tmod_eq_emod_of_nonneg (by omega)]

theorem ref23_Shifted_eq (N : Nat) {b : api_Span} (h : VSpan b) {k : Int} (h0 : 0 ≤ k) (h1 : k ≤ 1000000) : ref23_Shifted N b k = some (shift b k) := by
  obtain ⟨b1, b2, b3, b4, b5, b6⟩ := h
  unfold ref23_Shifted shift
  rw [w64_id (by omega) (by omega), remI_pos (by omega), Option.bind_some, Int.tmod_eq_emod_of_nonneg (by omega)]

/-- All of l are apart from b shifted by k. -/
def clearAt (l : List api_Span) (b : api_Span) (k : Nat) : Bool := l.all fun s => decide (SepD s (shift b k) ((shift b k).From - s.From))

theorem allV_get {l : List api_Span} (h : allV l = true) {k : Nat} (hk : k < l.length) : VSpan l[k] := by
  unfold allV at h
  rw [List.all_eq_true] at h
  simpa using h l[k] (List.getElem_mem hk)

def nextS (l : List api_Span) (b : api_Span) : Int × Int :=
  if 32 < l.length then (0, 3) else if allV l = true then (if VSpan b then (match (List.range' 0 b.Period.toNat).find? (clearAt l b) with
    | some k => ((k : Int), 0)
    | none => (0, 4)) else (0, 330)) else (0, 330)

theorem residue_Next_eq {N : Nat} (hN : 2000 ≤ N) (l : List api_Span) (b : api_Span) :
    residue_Next N l b = some (nextS l b) := by
  unfold residue_Next nextS
  rw [residue_checkAll_eq (by omega), residue_Check_eq]
  simp only [Option.bind_some]
  by_cases h : 32 < l.length
  · simp [h]
  · by_cases hv : allV l = true
    · by_cases hb : VSpan b
      · simp only [h, hv, hb, if_true, if_false, bne_self_eq_false, Bool.false_eq_true]
        have hb' := hb.bounds
        have inner : ∀ k : Nat, k < b.Period.toNat → iterF (fun x : Int => residue_Next_L2 N l b (k : Int) x) N 0 = some (if clearAt l b k then .inr (l.length : Int) else .inl ()) := by
          intro k hk
          have := iterF_all (l := l) (p := fun s => decide (SepD s (shift b k) ((shift b k).From - s.From))) (body := fun x : Int => residue_Next_L2 N l b (k : Int) x) (bad := .inl ()) (fin := .inr (l.length : Int)) (fun j hj => by
            simp only [residue_Next_L2]
            rw [if_pos (by simpa using hj), idx_nat, List.getElem?_eq_getElem hj, Option.bind_some, residue_shifted_eq N hb (by omega) (by omega), Option.bind_some, residue_apart_eq hN (allV_get hv hj) (hb.shift k), Option.bind_some]
            by_cases hs : SepD l[j] (shift b k) ((shift b k).From - l[j].From)
            · simp only [hs, decide_true, Bool.not_true, Bool.false_eq_true, if_false, if_true]
              rw [w64_id (by omega) (by omega)]; simp
            · simp [hs]) (by simp [residue_Next_L2]) l.length N 0 (by omega) (by omega) (by omega)
          rw [show ((0 : Nat) : Int) = 0 from rfl, List.drop_zero] at this
          exact this
        have outer := iterF_first (q := clearAt l b) (P := b.Period.toNat) (body := fun x : Int => residue_Next_L1 N l b x) (bad := .inl b.Period) (good := fun k => .inr ((k : Int), 0)) (fun k hk => by
          simp only [residue_Next_L1]
          rw [if_pos (by simp; omega), inner k hk, Option.bind_some]
          by_cases hc : clearAt l b k = true
          · simp [hc]
          · simp only [hc, Bool.false_eq_true, if_false]
            rw [w64_id (by omega) (by omega)]; simp) (by simp only [residue_Next_L1]; rw [if_neg (by simp; omega)]; simp; omega) b.Period.toNat N 0 (by omega) (by omega) (by omega)
        rw [show ((0 : Nat) : Int) = 0 from rfl] at outer
        rw [outer, Option.bind_some]
        cases (List.range' 0 b.Period.toNat).find? (clearAt l b) <;> rfl
      · simp [h, hv, hb]
    · simp [h, hv]

theorem ref23_Next_eq {N : Nat} (hN : 2000 ≤ N) (l : List api_Span) (b : api_Span) :
    ref23_Next N l b = some (nextS l b) := by
  unfold ref23_Next nextS
  rw [ref23_list_eq (by omega), ref23_Check_eq]
  simp only [Option.bind_some]
  by_cases h : 32 < l.length
  · simp [h]
  · by_cases hv : allV l = true
    · by_cases hb : VSpan b
      · simp only [h, hv, hb, if_true, if_false, bne_self_eq_false, Bool.false_eq_true, beq_self_eq_true, Option.bind_some]
        have hb' := hb.bounds
        have inner : ∀ k : Nat, k < b.Period.toNat → ref23_Clear N l (shift b k) = some (clearAt l b k) := by
          intro k hk
          unfold ref23_Clear
          have := iterF_all (l := l) (p := fun s => decide (SepD s (shift b k) ((shift b k).From - s.From))) (body := fun x : Int => ref23_Clear_L1 N l (shift b k) x) (bad := .inr false) (fin := .inl (l.length : Int)) (fun j hj => by
            simp only [ref23_Clear_L1]
            rw [if_pos (by simpa using hj), idx_nat, List.getElem?_eq_getElem hj, Option.bind_some, VSpan.separate hN (allV_get hv hj) (hb.shift k), Option.bind_some]
            by_cases hs : SepD l[j] (shift b k) ((shift b k).From - l[j].From)
            · simp only [hs, decide_true, Bool.not_true, Bool.false_eq_true, if_false, if_true]
              rw [w64_id (by omega) (by omega)]; simp
            · simp [hs]) (by simp [ref23_Clear_L1]) l.length N 0 (by omega) (by omega) (by omega)
          rw [show ((0 : Nat) : Int) = 0 from rfl, List.drop_zero] at this
          rw [this, Option.bind_some]
          have e : (l.all fun s => decide (SepD s (shift b k) ((shift b k).From - s.From))) = clearAt l b k := rfl
          rw [e]
          cases clearAt l b k <;> rfl
        have outer := iterF_first (q := clearAt l b) (P := b.Period.toNat) (body := fun x : Int => ref23_Next_L1 N l b x) (bad := .inl b.Period) (good := fun k => .inr ((k : Int), 0)) (fun k hk => by
          simp only [ref23_Next_L1]
          rw [if_pos (by simp; omega), ref23_Shifted_eq N hb (by omega) (by omega), Option.bind_some, inner k hk, Option.bind_some]
          by_cases hc : clearAt l b k = true
          · simp [hc]
          · simp only [hc, Bool.false_eq_true, if_false]
            rw [w64_id (by omega) (by omega)]; simp) (by simp only [ref23_Next_L1]; rw [if_neg (by simp; omega)]; simp; omega) b.Period.toNat N 0 (by omega) (by omega) (by omega)
        rw [show ((0 : Nat) : Int) = 0 from rfl] at outer
        rw [outer, Option.bind_some]
        cases (List.range' 0 b.Period.toNat).find? (clearAt l b) <;> rfl
      · simp [h, hv, hb]
    · simp [h, hv]
end Go.Sh
