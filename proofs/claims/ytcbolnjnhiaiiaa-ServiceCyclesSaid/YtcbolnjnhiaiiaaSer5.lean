/- Drafts; the laws that compare yield and sends. -/
import Derived.Test.YtcbolnjnhiaiiaaSer4
import Derived.KernelRfl
namespace Go.Sh
open Go Go.Eng
set_option linter.unusedVariables false
set_option linter.unusedSimpArgs false

theorem draft30 {N : Nat} (hN : 200 ≤ N) {d : ref30_Draft} (hd : Rg_ref30_Draft d) : ∃ g, ref30_Draft_Gates N d = some g ∧ VG g ∧ g.Entries.length ≤ 10 ∧ (∀ e ∈ g.Entries, e.Long ≤ 1021) ∧ g.Cycle ≤ 10210 := by
  obtain ⟨⟨_, hm⟩, ⟨_, hL⟩⟩ := hd
  let K : Nat := max 1 (min d.Masks.length 10)
  have hK : (if (if 10 < ((List.length d.Masks : Nat) : Int) then 10 else ((List.length d.Masks : Nat) : Int)) > 1 then (if 10 < ((List.length d.Masks : Nat) : Int) then 10 else ((List.length d.Masks : Nat) : Int)) else 1) = (K : Int) := by
    show _ = ((max 1 (min d.Masks.length 10) : Nat) : Int)
    split <;> split <;> omega
  have hK1 : 1 ≤ K ∧ K ≤ 10 := by show 1 ≤ max 1 (min d.Masks.length 10) ∧ max 1 (min d.Masks.length 10) ≤ 10; omega
  unfold ref30_Draft_Gates
  obtain ⟨r, h1, h2⟩ := iterF_of (body := fun x : Int × Int × List api_Entry => ref30_Draft_Gates_L1 N d x.1 x.2.1 x.2.2) (fun x => ∃ k : Nat, x.1 = k ∧ k ≤ K ∧ x.2.2.length = k ∧ x.2.1 = sumL x.2.2 ∧ ∀ e ∈ x.2.2, okE e = true ∧ e.Long ≤ 1021) (fun x => (10 - x.1).toNat)
    (fun r => r.2.2.length = K ∧ r.2.1 = sumL r.2.2 ∧ ∀ e ∈ r.2.2, okE e = true ∧ e.Long ≤ 1021) (fun x hx => by
      obtain ⟨i, s, acc⟩ := x
      obtain ⟨k, e1, e2, e3, e4, e5⟩ := hx
      simp only at e1 e2 e3 e4 e5 ⊢
      subst e1 e4
      have hsb := sumL_bound (l := acc) fun e he => (e5 e he).1
      by_cases hc : k < K
      · left
        have hmask : ∃ mk : Int, (if (decide ((k : Int) < ((List.length d.Masks : Nat) : Int))) = true then ((idx d.Masks (k : Int)).bind fun e => ((idx ([128, 127, 127, 64, 255, 63] : List Int) (Int.tmod e 6)).bind fun e1 => (some e1))) else (some 127)) = some mk ∧ 0 ≤ mk ∧ mk ≤ 255 := by
          by_cases h : k < d.Masks.length
          · have := (hm d.Masks[k] (List.getElem_mem h)).u8
            have t1 : d.Masks[k].tmod 6 = d.Masks[k] % 6 := Int.tmod_eq_emod_of_nonneg this.1
            have t2 := Int.emod_nonneg d.Masks[k] (show (6 : Int) ≠ 0 by decide)
            have t3 := Int.emod_lt_of_pos d.Masks[k] (show (0 : Int) < 6 by decide)
            rw [if_pos (by simpa using h), idx_nat, List.getElem?_eq_getElem h, Option.bind_some, t1]
            generalize d.Masks[k] % 6 = z at *
            have hz : z = 0 ∨ z = 1 ∨ z = 2 ∨ z = 3 ∨ z = 4 ∨ z = 5 := by omega
            rcases hz with rfl | rfl | rfl | rfl | rfl | rfl <;> exact ⟨_, rfl, by decide, by decide⟩
          · rw [if_neg (by simp; omega)]
            exact ⟨127, rfl, by decide, by decide⟩
        have hlong : ∃ lg, (if (decide ((k : Int) < ((List.length d.Longs : Nat) : Int))) = true then ((idx d.Longs (k : Int)).bind fun e => (some (w64 (1 + (w64 (4 * (w64 (e)))))))) else (some 1)) = some lg ∧ 1 ≤ lg ∧ lg ≤ 1021 := by
          by_cases h : k < d.Longs.length
          · have := (hL d.Longs[k] (List.getElem_mem h)).u8
            rw [if_pos (by simpa using h), idx_nat, List.getElem?_eq_getElem h, Option.bind_some, w64_id (x := d.Longs[k]) (by omega) (by omega), w64_id (x := 4 * d.Longs[k]) (by omega) (by omega), w64_id (by omega) (by omega)]
            exact ⟨_, rfl, by omega, by omega⟩
          · rw [if_neg (by simp; omega)]
            exact ⟨1, rfl, by decide, by decide⟩
        obtain ⟨mk, hmk, hmk1⟩ := hmask
        obtain ⟨lg, hlg, hlg1⟩ := hlong
        refine ⟨(((k + 1 : Nat) : Int), sumL (acc ++ [⟨mk, lg⟩]), acc ++ [⟨mk, lg⟩]), ?_, ⟨k + 1, rfl, by omega, by simp [e3], rfl, ?_⟩, by omega⟩
        · simp only [ref30_Draft_Gates_L1]
          rw [hK, if_pos (by simp only [decide_eq_true_eq]; omega), hmk, Option.bind_some, hlg, Option.bind_some, appI_small (by simp; omega) (by decide), Option.bind_some, w64_id (by omega) (by omega), w64_id (by omega) (by omega), sumL_append]
          simp [sumL]
        · intro e he
          rcases List.mem_append.1 he with he | he
          · exact e5 e he
          · simp at he; subst he; exact ⟨okE_iff.2 (by simp only; omega), hlg1.2⟩
      · right
        refine ⟨((k : Int), sumL acc, acc), ?_, by show acc.length = K; omega, rfl, e5⟩
        simp only [ref30_Draft_Gates_L1]
        rw [hK, if_neg (by simp only [decide_eq_true_eq]; omega)]) N (0, 0, []) ⟨0, rfl, by omega, rfl, rfl, by simp⟩ (by simp only; omega)
  obtain ⟨h3, h4, h5⟩ := h2
  rw [h1, Option.bind_some]
  have hs : ∀ l : List api_Entry, (∀ e ∈ l, e.Long ≤ 1021) → sumL l ≤ 1021 * l.length := by
    intro l
    induction l with
    | nil => intro _; simp [sumL]
    | cons e l ih =>
      intro h
      have := h e (by simp)
      have := ih fun x hx => h x (by simp [hx])
      simp only [sumL, List.length_cons]
      omega
  have hs1 := hs r.2.2 fun e he => (h5 e he).2
  refine ⟨⟨r.2.2, r.2.1⟩, rfl, ⟨by simp only; omega, by simp only; omega, ?_, h4.symm, by simp only; omega⟩, by simp only; omega, fun e he => (h5 e he).2, by simp only; omega⟩
  rw [List.all_eq_true]; exact fun e he => (h5 e he).1

theorem few_ex (N : Nat) (g : api_Gates) : ∃ r, law30_few N g = some r := by
  unfold law30_few subI
  rw [if_pos (by split <;> omega)]
  exact ⟨_, rfl⟩

set_option maxRecDepth 1000000 in
theorem works30 : law30_works 60000000 = some true := by kernel_rfl

theorem pick5 {α β δ ε ζ : Type} {γ : Type} {f g : α → β → δ → ε → ζ → Option γ} (h : ∀ a b c d e, ∃ r, f a b c d e = some r ∧ g a b c d e = some r) : ∃ F : α → β → δ → ε → ζ → γ, ∀ a b c d e, f a b c d e = some (F a b c d e) ∧ g a b c d e = some (F a b c d e) :=
  ⟨fun a b c d e => Classical.choose (h a b c d e), fun a b c d e => Classical.choose_spec (h a b c d e)⟩

theorem serviceYields_true (d : ref30_Draft) (g : api_Gates) (per most : Int) (hd : Rg_ref30_Draft d) (hg : Rg_api_Gates g) (hp : InK .i64 per) (hm : InK .i64 most) : ∃ N, law30_ServiceYields N d g per most = some true := by
  refine ⟨60000000, ?_⟩
  obtain ⟨x, hx, _⟩ := draft30 (N := 60000000) (by decide) hd
  obtain ⟨y, hy⟩ := few_ex 60000000 g
  obtain ⟨Y, hY⟩ := pick3 (f := service_Yield 60000000) (g := ref30_Yield 60000000) fun g p m => yield_same (by decide) g p m
  unfold law30_ServiceYields
  simp only [hx, hy, fun g p m => (hY g p m).1, fun g p m => (hY g p m).2, Option.bind_some, bne_self_eq_false, Bool.or_self, Bool.false_eq_true, if_false, works30]

theorem serviceSends_true (d : ref30_Draft) (g : api_Gates) (per most : Int) (n : Arr2_i64) (hd : Rg_ref30_Draft d) (hg : Rg_api_Gates g) (hp : InK .i64 per) (hm : InK .i64 most) (hn : Rg_Arr2_i64 n) : ∃ N, law30_ServiceSends N d g per most n = some true := by
  refine ⟨60000000, ?_⟩
  obtain ⟨x, hx, _⟩ := draft30 (N := 60000000) (by decide) hd
  obtain ⟨y, hy⟩ := few_ex 60000000 g
  obtain ⟨Y, hY⟩ := pick5 (f := service_Sends 60000000) (g := ref30_Sends 60000000) fun g p m t l => sends_same (by decide) g p m t l
  unfold law30_ServiceSends
  simp only [hx, hy, fun g p m t l => (hY g p m t l).1, fun g p m t l => (hY g p m t l).2, Option.bind_some, bne_self_eq_false, Bool.or_self, Bool.false_eq_true, if_false, works30]
end Go.Sh
