/- Gate lists: the laws that compare the program with the reference return true. -/
import Derived.Test.YtjmcikjcknddbaaGat3
import Derived.KernelRfl
namespace Go.Sh
open Go Go.Eng

set_option maxRecDepth 1000000 in
theorem works27 : law27_works 30000000 = some true := by kernel_rfl

theorem pick2 {α β : Type} {γ : Type} {f g : α → β → Option γ} (h : ∀ a b, ∃ r, f a b = some r ∧ g a b = some r) : ∃ F : α → β → γ, ∀ a b, f a b = some (F a b) ∧ g a b = some (F a b) :=
  ⟨fun a b => Classical.choose (h a b), fun a b => Classical.choose_spec (h a b)⟩
theorem pick3 {α β δ : Type} {γ : Type} {f g : α → β → δ → Option γ} (h : ∀ a b c, ∃ r, f a b c = some r ∧ g a b c = some r) : ∃ F : α → β → δ → γ, ∀ a b c, f a b c = some (F a b c) ∧ g a b c = some (F a b c) :=
  ⟨fun a b c => Classical.choose (h a b c), fun a b c => Classical.choose_spec (h a b c)⟩
theorem pick4 {α β δ ε : Type} {γ : Type} {f g : α → β → δ → ε → Option γ} (h : ∀ a b c d, ∃ r, f a b c d = some r ∧ g a b c d = some r) : ∃ F : α → β → δ → ε → γ, ∀ a b c d, f a b c d = some (F a b c d) ∧ g a b c d = some (F a b c d) :=
  ⟨fun a b c d => Classical.choose (h a b c d), fun a b c d => Classical.choose_spec (h a b c d)⟩

theorem gatesChecks_true (d : ref27_Draft) (g : api_Gates) (at_ t : Int) (hd : Rg_ref27_Draft d) (hg : Rg_api_Gates g) (ha : InK .u8 at_) (ht : InK .i64 t) : ∃ N, law27_GatesChecks N d g at_ t = some true := by
  refine ⟨30000000, ?_⟩
  obtain ⟨r, hr⟩ := law27_lists_ex (N := 30000000) (by decide) hd g ha.u8
  obtain ⟨M, hM⟩ := pick2 (f := gates_Mask 30000000) (g := ref27_Mask 30000000) fun g t => ⟨_, gates_Mask_eq (by decide) g t, ref27_Mask_eq (by decide) g t⟩
  obtain ⟨T, hT⟩ := pick2 (f := gates_Turn 30000000) (g := ref27_Turn 30000000) fun g t => let ⟨r, h1, h2, _⟩ := turn_same (N := 30000000) (by decide) g t; ⟨r, h1, h2⟩
  unfold law27_GatesChecks
  rw [hr, Option.bind_some]
  have hC : ∀ g, gates_Check 30000000 g = some (if VG g then 0 else 370) := fun g => gates_Check_eq (by decide) g
  have hC' : ∀ g, ref27_Check 30000000 g = some (if VG g then 0 else 370) := fun g => ref27_Check_eq (by decide) g
  simp only [fun g t => (hM g t).1, fun g t => (hM g t).2, fun g t => (hT g t).1, fun g t => (hT g t).2, hC, hC', Option.bind_some, bne_self_eq_false, Bool.or_self, Bool.false_eq_true, if_false, works27]

theorem gatesOpens_true (d : ref27_Draft) (g : api_Gates) (at_ : Int) (n : Arr3_i64) (hd : Rg_ref27_Draft d) (hg : Rg_api_Gates g) (ha : InK .u8 at_) (hn : Rg_Arr3_i64 n) : ∃ N, law27_GatesOpens N d g at_ n = some true := by
  refine ⟨30000000, ?_⟩
  obtain ⟨r, hr⟩ := law27_lists_ex (N := 30000000) (by decide) hd g ha.u8
  obtain ⟨O, hO⟩ := pick3 (f := gates_Open 30000000) (g := ref27_Open 30000000) fun g c t => open_same (by decide) g c t
  obtain ⟨F, hF⟩ := pick4 (f := gates_Fits 30000000) (g := ref27_Fits 30000000) fun g c t l => fits_same (by decide) g c t l
  unfold law27_GatesOpens
  rw [hr, Option.bind_some]
  simp only [fun g c t => (hO g c t).1, fun g c t => (hO g c t).2, fun g c t l => (hF g c t l).1, fun g c t l => (hF g c t l).2, Option.bind_some, bne_self_eq_false, Bool.or_self, Bool.false_eq_true, if_false, works27]

theorem gatesFinds_true (d : ref27_Draft) (g : api_Gates) (at_ : Int) (n : Arr3_i64) (hd : Rg_ref27_Draft d) (hg : Rg_api_Gates g) (ha : InK .u8 at_) (hn : Rg_Arr3_i64 n) : ∃ N, law27_GatesFinds N d g at_ n = some true := by
  refine ⟨30000000, ?_⟩
  obtain ⟨r, hr⟩ := law27_lists_ex (N := 30000000) (by decide) hd g ha.u8
  obtain ⟨F, hF⟩ := pick4 (f := gates_Fit 30000000) (g := ref27_Fit 30000000) fun g c t l => fit_same (by decide) g c t l
  unfold law27_GatesFinds
  rw [hr, Option.bind_some]
  simp only [fun g c t l => (hF g c t l).1, fun g c t l => (hF g c t l).2, Option.bind_some, bne_self_eq_false, Bool.or_self, Bool.false_eq_true, if_false, works27]
end Go.Sh
