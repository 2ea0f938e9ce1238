/- Part of the proof; written by a program out of the texts in wip/. -/
import Derived.Test.YtoboapnbbcedbaaRouteTurnsE28
import Derived.Laws.StructEq
set_option linter.unusedVariables false
set_option linter.unusedSimpArgs false
namespace Go.Eng
open Go Go.MapKept
section
variable {P : Program} {k : K0} {n : Nat} {g : G} {s : St} {a : Act} {w : World}
class KeyE (κ : Type) (kn : Nat) (ke : κ → List Int) : Prop where
  len : ∀ x, (ke x).length = klen kn
  inj : ∀ x y, ke x = ke y → x = y
def ke1 (x : Int) : List Int := [x]
instance : KeyE Int 0 ke1 := ⟨fun _ => rfl, fun x y h => by simpa [ke1] using h⟩
end
section
variable {H H0 : List HO} {f0 items : List Thing}
end
end Go.Eng

