/- Gate lists: the laws that compare the program with the reference return true. -/
import Derived.Test.YtcbolnjnhiaiiaaGat3
import Derived.KernelRfl
namespace Go.Sh
open Go Go.Eng

theorem pick2 {α β : Type} {γ : Type} {f g : α → β → Option γ} (h : ∀ a b, ∃ r, f a b = some r ∧ g a b = some r) : ∃ F : α → β → γ, ∀ a b, f a b = some (F a b) ∧ g a b = some (F a b) :=
  ⟨fun a b => Classical.choose (h a b), fun a b => Classical.choose_spec (h a b)⟩
theorem pick3 {α β δ : Type} {γ : Type} {f g : α → β → δ → Option γ} (h : ∀ a b c, ∃ r, f a b c = some r ∧ g a b c = some r) : ∃ F : α → β → δ → γ, ∀ a b c, f a b c = some (F a b c) ∧ g a b c = some (F a b c) :=
  ⟨fun a b c => Classical.choose (h a b c), fun a b c => Classical.choose_spec (h a b c)⟩
theorem pick4 {α β δ ε : Type} {γ : Type} {f g : α → β → δ → ε → Option γ} (h : ∀ a b c d, ∃ r, f a b c d = some r ∧ g a b c d = some r) : ∃ F : α → β → δ → ε → γ, ∀ a b c d, f a b c d = some (F a b c d) ∧ g a b c d = some (F a b c d) :=
  ⟨fun a b c d => Classical.choose (h a b c d), fun a b c d => Classical.choose_spec (h a b c d)⟩

end Go.Sh