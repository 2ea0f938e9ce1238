/- Residues: Next returns the least shift. -/
import Derived.Test.YtiobnpdikleanaaRes6
namespace Go.Sh
open Go Go.Eng

theorem least_inner {N : Nat} (hN : 2000 ≤ N) {l : List api_Span} (hl : ∀ s ∈ l, Small s) {b : api_Span} (hb : Small b) {i : Nat} (hi : i < b.Period.toNat) (hlen : l.length ≤ 12)
    (body : Bool → Int → Option ((Bool × Int) ⊕ (Bool × Int)))
    (hbody : ∀ c j, body c j = (if (decide (j < ((List.length l : Nat) : Int))) then (((if c then ((idx l j).bind fun e => ((ref23_Shifted N b i).bind fun r => ((law23_apart N e r).bind fun q => (if q then (some true) else (some false))))) else (some false))).bind fun (d : Bool) =>
 (some (.inl (d, (w64 (j + 1)))))) else (some (.inr (c, j))))) :
    ∀ (n M k : Nat) (c : Bool), l.length - k = n → k ≤ l.length → n < M → ∃ z, iterF (fun x : Bool × Int => body x.1 x.2) M (c, (k : Int)) = some (c && (l.drop k).all (fun s => decide (SepD s (shift b i) ((shift b i).From - s.From))), z) := by
  have hbb := hb.1.bounds
  intro n
  induction n with
  | zero =>
    intro M k c hn hk hM
    have : k = l.length := by omega
    subst this
    cases M with
    | zero => omega
    | succ M => exact ⟨(l.length : Int), by rw [iterF_inr (r := (c, (l.length : Int))) (by simp [hbody])]; simp⟩
  | succ n ih =>
    intro M k c hn hk hM
    cases M with
    | zero => omega
    | succ M =>
      have hlt : k < l.length := by omega
      obtain ⟨z, hz⟩ := ih M (k + 1) (c && decide (SepD l[k] (shift b i) ((shift b i).From - l[k].From))) (by omega) (by omega) (by omega)
      refine ⟨z, ?_⟩
      rw [iterF_inl (y := (c && decide (SepD l[k] (shift b i) ((shift b i).From - l[k].From)), ((k + 1 : Nat) : Int))), hz, drop_cons hlt, List.all_cons, Bool.and_assoc]
      simp only [hbody]
      rw [if_pos (by simpa using hlt), w64_id (by omega) (by omega)]
      cases c with
      | false => simp
      | true =>
        simp only [if_true, Bool.true_and]
        rw [idx_nat, List.getElem?_eq_getElem hlt, Option.bind_some, ref23_Shifted_eq _ hb.1 (by omega) (by omega), Option.bind_some, law23_apart_eq hN (hl _ (List.getElem_mem hlt)).1 (hb.1.shift i), Option.bind_some]
        by_cases hs : SepD l[k] (shift b i) ((shift b i).From - l[k].From)
        · simp [hs]
        · simp [hs]

theorem residueLeast_true (l : List Arr3_u8) (n : Arr3_u8) (hl : l.length ≤ maxLen ∧ ∀ x ∈ l, Rg_Arr3_u8 x) (hn : Rg_Arr3_u8 n) : ∃ N, law23_ResidueLeast N l n = some true := by
  refine ⟨10000, ?_⟩
  obtain ⟨n0, n1, n2⟩ := hn
  obtain ⟨b, hxb, hb⟩ := ref23_Of_eq 10000 n0.u8 n1.u8 n2.u8
  obtain ⟨r, hr, hsm, hlen⟩ := law23_drafts_eq (N := 10000) (by decide) hl.2 (most := 12) (by decide) (by decide)
  obtain ⟨b1, b2, b3, b4, b5, b6⟩ := hb.1.bounds
  have hbp := hb.2
  have hallV : allV r = true := by
    unfold allV
    rw [List.all_eq_true]
    exact fun s hs => by simpa using (hsm s hs).1
  unfold law23_ResidueLeast
  rw [works23, hr, hxb]
  simp only [Option.bind_some, Bool.not_true, Bool.false_eq_true, if_false]
  rw [residue_Next_eq (by decide), Option.bind_some]
  have hns : nextS r b = (match (List.range' 0 b.Period.toNat).find? (clearAt r b) with | some k => ((k : Int), (0 : Int)) | none => (0, 4)) := by
    unfold nextS
    rw [if_neg (by omega), if_pos hallV, if_pos hb.1]
    rfl
  rw [hns]
  cases hf : (List.range' 0 b.Period.toNat).find? (clearAt r b) with
  | none =>
    simp only [beq_self_eq_true, if_true]
    rw [List.find?_eq_none] at hf
    have := iterF_first (q := fun _ => false) (P := b.Period.toNat) (body := fun x : Int => law23_ResidueLeast_L1 10000 r b (0, 4) x) (bad := .inl b.Period) (good := fun _ => .inr false) (fun k hk => by
      obtain ⟨z, hz⟩ := least_inner (N := 10000) (by decide) hsm hb hk (by omega) (fun c j => law23_ResidueLeast_L2 10000 r b (k : Int) c j) (fun c j => rfl) r.length 10000 0 true (by omega) (by omega) (by omega)
      simp only [law23_ResidueLeast_L1]
      rw [show ((0 : Nat) : Int) = 0 from rfl, List.drop_zero, Bool.true_and] at hz
      have hcl : (r.all fun s => decide (SepD s (shift b k) ((shift b k).From - s.From))) = false := by
        have h1 := hf k (by simp [List.mem_range'_1]; omega)
        have e : (r.all fun s => decide (SepD s (shift b k) ((shift b k).From - s.From))) = clearAt r b k := rfl
        rw [e]
        simpa using h1
      rw [if_pos (by simp only [Bool.and_eq_true, decide_eq_true_eq]; omega), hz, Option.bind_some, hcl, w64_id (by omega) (by omega)]
      simp) (by simp only [law23_ResidueLeast_L1]; rw [if_neg (by simp only [Bool.and_eq_true, decide_eq_true_eq]; omega)]; simp; omega) b.Period.toNat 10000 0 (by omega) (by omega) (by omega)
    rw [show ((0 : Nat) : Int) = 0 from rfl] at this
    rw [this, Option.bind_some]
    have : (List.range' 0 b.Period.toNat).find? (fun _ => false) = none := by rw [List.find?_eq_none]; simp
    rw [this]
  | some m =>
    simp only [show ((0 : Int) == 4) = false from rfl, Bool.false_eq_true, if_false]
    rw [List.find?_range'_eq_some] at hf
    obtain ⟨hm1, hm2, hm3⟩ := hf
    rw [List.mem_range'_1] at hm2
    rw [if_neg (by simp only [bne_self_eq_false, Bool.false_or, Bool.or_eq_true, decide_eq_true_eq]; omega)]
    have := iterF_first (q := fun _ => false) (P := m + 1) (body := fun x : Int => law23_ResidueLeast_L3 10000 r b ((m : Int), 0) x) (bad := .inl ((m + 1 : Nat) : Int)) (good := fun _ => .inr false) (fun k hk => by
      obtain ⟨z, hz⟩ := least_inner (N := 10000) (by decide) hsm hb (show k < b.Period.toNat by omega) (by omega) (fun c j => law23_ResidueLeast_L4 10000 r b (k : Int) c j) (fun c j => rfl) r.length 10000 0 true (by omega) (by omega) (by omega)
      simp only [law23_ResidueLeast_L3]
      rw [show ((0 : Nat) : Int) = 0 from rfl, List.drop_zero, Bool.true_and] at hz
      have hcl : (r.all fun s => decide (SepD s (shift b k) ((shift b k).From - s.From))) = decide (k = m) := by
        have e : (r.all fun s => decide (SepD s (shift b k) ((shift b k).From - s.From))) = clearAt r b k := rfl
        rw [e]
        by_cases hkm : k = m
        · subst hkm; simp [hm1]
        · have := hm3 k (by omega) (by omega)
          simp only [Bool.not_eq_true'] at this
          simp [this, hkm]
      have hdec : ((k : Int) == (m : Int)) = decide (k = m) := by
        rw [Bool.eq_iff_iff]; simp only [beq_iff_eq, decide_eq_true_eq]; omega
      rw [if_pos (by simp only [Bool.and_eq_true, decide_eq_true_eq]; omega), hz, Option.bind_some, hcl, w64_id (by omega) (by omega), hdec]
      simp) (by simp only [law23_ResidueLeast_L3]; rw [if_neg (by simp only [Bool.and_eq_true, decide_eq_true_eq]; omega)]) (m + 1) 10000 0 (by omega) (by omega) (by omega)
    rw [show ((0 : Nat) : Int) = 0 from rfl] at this
    rw [this, Option.bind_some]
    have : (List.range' 0 (m + 1)).find? (fun _ => false) = none := by rw [List.find?_eq_none]; simp
    rw [this]
end Go.Sh
