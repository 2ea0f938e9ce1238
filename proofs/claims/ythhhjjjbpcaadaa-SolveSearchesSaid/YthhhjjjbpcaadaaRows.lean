/-
  No cell of these rows narrows 'for every input' (looked for: loops, veiled, ifaces, maps, wideKeys, modest, calm, conditions, laid).
  DERIVED. THE GIVEN ROWS OF THIS SEAT. 5 by the template 'for every input the law returns true; each argument reads behind the call as it read before'; 0 by the template 'total and deterministic' (their statements: YthhhjjjbpcaadaaTotals.lean).
  GIVEN WITH THE SEED: the statements are not yours to turn. If you find one false, say at which input.
  Laid BY PROGRAM, IN A SANDBOX (cutbox-rows.mjs): the forced cells as the released guide's own fill.sh prints them over the translation 045f3070ca64c15a… (all of the seat's roots in one cut). By AI agents, Wed Nov 11 2026. No macro, syntax, notation, axiom, sorry.
-/
import Derived.Test.YthhhjjjbpcaadaaChecked
import GoSem.Claim
import GoSem.ClaimJoined
import GoSem.ClaimMapViews
import Derived.JoinedTies
import Derived.KernelRfl
namespace Go.Proofs.Ythhhjjjbpcaadaa
/- THE CELL 'sum', in the pinned program and in every row, IS THE sha256 OF THE DUMP (.gsa) THAT YthhhjjjbpcaadaaProg.lean LOADS. Nothing in Lean hashes anything: it is a label: what it is worth is what the hold of that sum in a sandbox is worth. -/
noncomputable def Try.pinned : Pinned := { name := "ythhhjjjbpcaadaa", sum := "045f3070ca64c15a6cb5aa26b098fa12067a435daa3e529efee415c618a731b9", checked := Try.checked }
namespace Rows
def none {H : Type} : Left H := { results := [], args := [] }

/-- 'isochronlaw26.SolveSearches': WHATEVER THE INPUT: true; the input reads as it did. -/
def solveSearchesSpec : ChangeSpec := { name := "solveSearches", fn := fun _ => fun
  | [d1, d2, d3] => { results := [.lit (.bool true)], args := [d1, d2, d3] }
  | _ => none }
def solveSearchesRow : OpenClaim := { program := "ythhhjjjbpcaadaa", sum := "045f3070ca64c15a6cb5aa26b098fa12067a435daa3e529efee415c618a731b9", func := "isochron/isochronlaw26.SolveSearches", spec := "solveSearches", unfollowed := true, recurses := true, plainKeys := false, apart := false }
def SolveSearchesSaid : Prop := solveSearchesRow.holds Try.pinned (OpenSpec.ofChange solveSearchesSpec)

/-- ITS FALSE NEIGHBOUR: 'it returns false'. Refute it at one input. -/
def solveSearchesWrong : ChangeSpec := { name := "solveSearches", fn := fun _ => fun
  | [d1, d2, d3] => { results := [.lit (.bool false)], args := [d1, d2, d3] }
  | _ => none }
def SolveSearchesWrongFalsely : Prop := solveSearchesRow.holds Try.pinned (OpenSpec.ofChange solveSearchesWrong)

/-- 'isochronlaw26.SolveMore': WHATEVER THE INPUT: true; the input reads as it did. -/
def solveMoreSpec : ChangeSpec := { name := "solveMore", fn := fun _ => fun
  | [d1, d2, d3] => { results := [.lit (.bool true)], args := [d1, d2, d3] }
  | _ => none }
def solveMoreRow : OpenClaim := { program := "ythhhjjjbpcaadaa", sum := "045f3070ca64c15a6cb5aa26b098fa12067a435daa3e529efee415c618a731b9", func := "isochron/isochronlaw26.SolveMore", spec := "solveMore", unfollowed := true, recurses := true, plainKeys := false, apart := false }
def SolveMoreSaid : Prop := solveMoreRow.holds Try.pinned (OpenSpec.ofChange solveMoreSpec)

/-- ITS FALSE NEIGHBOUR: 'it returns false'. Refute it at one input. -/
def solveMoreWrong : ChangeSpec := { name := "solveMore", fn := fun _ => fun
  | [d1, d2, d3] => { results := [.lit (.bool false)], args := [d1, d2, d3] }
  | _ => none }
def SolveMoreWrongFalsely : Prop := solveMoreRow.holds Try.pinned (OpenSpec.ofChange solveMoreWrong)

/-- 'isochronlaw26.SolveKnown': WHATEVER THE INPUT: true; the input reads as it did. -/
def solveKnownSpec : ChangeSpec := { name := "solveKnown", fn := fun _ => fun
  | [] => { results := [.lit (.bool true)], args := [] }
  | _ => none }
def solveKnownRow : OpenClaim := { program := "ythhhjjjbpcaadaa", sum := "045f3070ca64c15a6cb5aa26b098fa12067a435daa3e529efee415c618a731b9", func := "isochron/isochronlaw26.SolveKnown", spec := "solveKnown", unfollowed := true, recurses := true, plainKeys := false, apart := false }
def SolveKnownSaid : Prop := solveKnownRow.holds Try.pinned (OpenSpec.ofChange solveKnownSpec)

/-- ITS FALSE NEIGHBOUR: 'it returns false'. Refute it at one input. -/
def solveKnownWrong : ChangeSpec := { name := "solveKnown", fn := fun _ => fun
  | [] => { results := [.lit (.bool false)], args := [] }
  | _ => none }
def SolveKnownWrongFalsely : Prop := solveKnownRow.holds Try.pinned (OpenSpec.ofChange solveKnownWrong)

/-- 'isochronlaw26.SolveLeast': WHATEVER THE INPUT: true; the input reads as it did. -/
def solveLeastSpec : ChangeSpec := { name := "solveLeast", fn := fun _ => fun
  | [d1, d2] => { results := [.lit (.bool true)], args := [d1, d2] }
  | _ => none }
def solveLeastRow : OpenClaim := { program := "ythhhjjjbpcaadaa", sum := "045f3070ca64c15a6cb5aa26b098fa12067a435daa3e529efee415c618a731b9", func := "isochron/isochronlaw26.SolveLeast", spec := "solveLeast", unfollowed := true, recurses := true, plainKeys := false, apart := false }
def SolveLeastSaid : Prop := solveLeastRow.holds Try.pinned (OpenSpec.ofChange solveLeastSpec)

/-- ITS FALSE NEIGHBOUR: 'it returns false'. Refute it at one input. -/
def solveLeastWrong : ChangeSpec := { name := "solveLeast", fn := fun _ => fun
  | [d1, d2] => { results := [.lit (.bool false)], args := [d1, d2] }
  | _ => none }
def SolveLeastWrongFalsely : Prop := solveLeastRow.holds Try.pinned (OpenSpec.ofChange solveLeastWrong)

/-- 'isochronlaw26.SolveTells': WHATEVER THE INPUT: true; the input reads as it did. -/
def solveTellsSpec : ChangeSpec := { name := "solveTells", fn := fun _ => fun
  | [d1, d2, d3] => { results := [.lit (.bool true)], args := [d1, d2, d3] }
  | _ => none }
def solveTellsRow : OpenClaim := { program := "ythhhjjjbpcaadaa", sum := "045f3070ca64c15a6cb5aa26b098fa12067a435daa3e529efee415c618a731b9", func := "isochron/isochronlaw26.SolveTells", spec := "solveTells", unfollowed := true, recurses := true, plainKeys := false, apart := false }
def SolveTellsSaid : Prop := solveTellsRow.holds Try.pinned (OpenSpec.ofChange solveTellsSpec)

/-- ITS FALSE NEIGHBOUR: 'it returns false'. Refute it at one input. -/
def solveTellsWrong : ChangeSpec := { name := "solveTells", fn := fun _ => fun
  | [d1, d2, d3] => { results := [.lit (.bool false)], args := [d1, d2, d3] }
  | _ => none }
def SolveTellsWrongFalsely : Prop := solveTellsRow.holds Try.pinned (OpenSpec.ofChange solveTellsWrong)

/- THE SECOND FORM. 'bulk': how many values and letters a reading holds, each counted each time it is reached (what is shared counts as often as it is met; a slice's spare places count too). A statement '..UptoSaid' is the law's where the arguments, and the package variables that the reading takes, are together of bulk at most 1048576: NARROWER than '..Said'. Prove '..Said' where nothing that the law and all that it calls make is longer than what came in: it says more and counts as full. Else prove '..UptoSaid'. A law counts once. -/
mutual
def uptoBulk {H : Type} : DataW H → Nat
  | .lit (.string bytes) => bytes.length + 1
  | .lit _ => 1
  | .nil => 1
  | .ptr d => uptoBulk d + 1
  | .slice elems spare => uptoBulkAll elems + uptoBulkAll spare + 1
  | .agg parts => uptoBulkAll parts + 1
  | .iface _ d => uptoBulk d + 1
  | .map entries => uptoBulkEntries entries + 1
  | .held _ => 1
def uptoBulkAll {H : Type} : List (DataW H) → Nat
  | [] => 0
  | d :: r => uptoBulk d + uptoBulkAll r
def uptoBulkEntries {H : Type} : List (Lit × DataW H) → Nat
  | [] => 0
  | x :: r => uptoBulkEntry x + uptoBulkEntries r
def uptoBulkEntry {H : Type} : Lit × DataW H → Nat
  | (.string bytes, d) => bytes.length + uptoBulk d + 1
  | (_, d) => uptoBulk d + 1
 end
def uptoSmall : (H : Type) → List (DataW H) → Bool := fun _ ds => decide (uptoBulkAll ds ≤ 1048576)
def OpenSpec.upto (s : _root_.Go.ChangeSpec) : _root_.Go.OpenSpec := { _root_.Go.OpenSpec.ofChange s with cond := some uptoSmall }

/-- 'isochronlaw26.SolveSearches', WHERE WHAT IT READS IS OF BULK AT MOST 1048576: true; the input reads as it did. -/
def solveSearchesUptoRow : OpenClaim := { program := "ythhhjjjbpcaadaa", sum := "045f3070ca64c15a6cb5aa26b098fa12067a435daa3e529efee415c618a731b9", func := "isochron/isochronlaw26.SolveSearches", spec := "solveSearches", unfollowed := true, recurses := true, plainKeys := false, apart := false, narrowed := true }
def SolveSearchesUptoSaid : Prop := solveSearchesUptoRow.holds Try.pinned (OpenSpec.upto solveSearchesSpec)

/-- 'isochronlaw26.SolveMore', WHERE WHAT IT READS IS OF BULK AT MOST 1048576: true; the input reads as it did. -/
def solveMoreUptoRow : OpenClaim := { program := "ythhhjjjbpcaadaa", sum := "045f3070ca64c15a6cb5aa26b098fa12067a435daa3e529efee415c618a731b9", func := "isochron/isochronlaw26.SolveMore", spec := "solveMore", unfollowed := true, recurses := true, plainKeys := false, apart := false, narrowed := true }
def SolveMoreUptoSaid : Prop := solveMoreUptoRow.holds Try.pinned (OpenSpec.upto solveMoreSpec)

/-- 'isochronlaw26.SolveKnown', WHERE WHAT IT READS IS OF BULK AT MOST 1048576: true; the input reads as it did. -/
def solveKnownUptoRow : OpenClaim := { program := "ythhhjjjbpcaadaa", sum := "045f3070ca64c15a6cb5aa26b098fa12067a435daa3e529efee415c618a731b9", func := "isochron/isochronlaw26.SolveKnown", spec := "solveKnown", unfollowed := true, recurses := true, plainKeys := false, apart := false, narrowed := true }
def SolveKnownUptoSaid : Prop := solveKnownUptoRow.holds Try.pinned (OpenSpec.upto solveKnownSpec)

/-- 'isochronlaw26.SolveLeast', WHERE WHAT IT READS IS OF BULK AT MOST 1048576: true; the input reads as it did. -/
def solveLeastUptoRow : OpenClaim := { program := "ythhhjjjbpcaadaa", sum := "045f3070ca64c15a6cb5aa26b098fa12067a435daa3e529efee415c618a731b9", func := "isochron/isochronlaw26.SolveLeast", spec := "solveLeast", unfollowed := true, recurses := true, plainKeys := false, apart := false, narrowed := true }
def SolveLeastUptoSaid : Prop := solveLeastUptoRow.holds Try.pinned (OpenSpec.upto solveLeastSpec)

/-- 'isochronlaw26.SolveTells', WHERE WHAT IT READS IS OF BULK AT MOST 1048576: true; the input reads as it did. -/
def solveTellsUptoRow : OpenClaim := { program := "ythhhjjjbpcaadaa", sum := "045f3070ca64c15a6cb5aa26b098fa12067a435daa3e529efee415c618a731b9", func := "isochron/isochronlaw26.SolveTells", spec := "solveTells", unfollowed := true, recurses := true, plainKeys := false, apart := false, narrowed := true }
def SolveTellsUptoSaid : Prop := solveTellsUptoRow.holds Try.pinned (OpenSpec.upto solveTellsSpec)

end Rows
end Go.Proofs.Ythhhjjjbpcaadaa
