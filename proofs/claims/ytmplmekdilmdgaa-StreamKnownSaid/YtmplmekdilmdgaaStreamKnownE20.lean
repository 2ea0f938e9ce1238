/- Part of the proof; written by a program out of the texts in wip/. -/
import Derived.Test.YtmplmekdilmdgaaStreamKnownE19
import Derived.DataReads
set_option linter.unusedVariables false
set_option linter.unusedSimpArgs false
namespace Go.Eng
open Go
def RdL (ok : Addr → Prop) (w : World) : List PC → List Value → Prop
  | [], vs => vs = []
  | x :: xs, vs => ∃ u us, vs = u :: us ∧ PR ok w x u ∧ RdL ok w xs us
theorem RdL.append {ok : Addr → Prop} {w : World} : ∀ {xs ys : List PC} {us vs : List Value}, RdL ok w xs us → RdL ok w ys vs → RdL ok w (xs ++ ys) (us ++ vs)
  | [], ys, us, vs, h1, h2 => by simp only [RdL] at h1; subst h1; exact h2
  | x :: xs, ys, us, vs, h1, h2 => by
    obtain ⟨u, us', rfl, h3, h4⟩ := h1
    exact ⟨u, us' ++ vs, rfl, h3, h4.append h2⟩
section
variable {P : Program} {w : World} {ok : Addr → Prop}
end
end Go.Eng

