/- Part of the proof; written by a program out of the texts in wip/. -/
import Derived.Test.YtmplmekdilmdgaaStreamKnownE20
import Derived.Carry
import Derived.OpenShut
set_option linter.unusedVariables false
set_option linter.unusedSimpArgs false
namespace Go.Eng
open Go Go.RowKit Go.ChangeShapes
def cx0 (w : World) : Cx := cx (k0 (fun _ => True) [] [] w) ⟨[], noB⟩ [] w
theorem ok0 {w : World} (a : Addr) : (cx0 w).ok a := ⟨.inl trivial, fun t e => (by cases e), fun id e => by simp at e⟩
def InK (k : IntKind) (n : Int) : Prop := (Lit.int k n).wf = true
theorem InK.i64 {n : Int} (h : InK .i64 n) : -9223372036854775808 ≤ n ∧ n ≤ 9223372036854775807 := by
  simpa [InK, Lit.wf, IntKind.min, IntKind.max, IntKind.signed, IntKind.bits] using h
theorem InK.u8 {n : Int} (h : InK .u8 n) : 0 ≤ n ∧ n ≤ 255 := by
  simpa [InK, Lit.wf, IntKind.min, IntKind.max, IntKind.signed, IntKind.bits] using h
theorem InK.i16 {n : Int} (h : InK .i16 n) : -32768 ≤ n ∧ n ≤ 32767 := by
  simpa [InK, Lit.wf, IntKind.min, IntKind.max, IntKind.signed, IntKind.bits] using h
theorem InK.i8 {n : Int} (h : InK .i8 n) : -128 ≤ n ∧ n ≤ 127 := by
  simpa [InK, Lit.wf, IntKind.min, IntKind.max, IntKind.signed, IntKind.bits] using h
theorem InK.i32 {n : Int} (h : InK .i32 n) : -2147483648 ≤ n ∧ n ≤ 2147483647 := by
  simpa [InK, Lit.wf, IntKind.min, IntKind.max, IntKind.signed, IntKind.bits] using h
end Go.Eng

