/-
  No cell of these rows narrows 'for every input' (looked for: loops, veiled, ifaces, maps, wideKeys, modest, calm, conditions, laid).
  DERIVED. THE GIVEN ROWS OF THIS SEAT. 6 by the template 'for every input the law returns true; each argument reads behind the call as it read before'; 0 by the template 'total and deterministic' (their statements: YtpadgoejolfllaaTotals.lean).
  GIVEN WITH THE SEED: the statements are not yours to turn. If you find one false, say at which input.
  Laid BY PROGRAM, IN A SANDBOX (cutbox-rows.mjs): the forced cells as the released guide's own fill.sh prints them over the translation 70834adf1b1241af… (all of the seat's roots in one cut). By AI agents, Wed Nov 11 2026. No macro, syntax, notation, axiom, sorry.
-/
import Derived.Test.YtpadgoejolfllaaChecked
import GoSem.Claim
import GoSem.ClaimJoined
import GoSem.ClaimMapViews
import Derived.JoinedTies
import Derived.KernelRfl
namespace Go.Proofs.Ytpadgoejolfllaa
/- THE CELL 'sum', in the pinned program and in every row, IS THE sha256 OF THE DUMP (.gsa) THAT YtpadgoejolfllaaProg.lean LOADS. Nothing in Lean hashes anything: it is a label: what it is worth is what the hold of that sum in a sandbox is worth. -/
noncomputable def Try.pinned : Pinned := { name := "ytpadgoejolfllaa", sum := "70834adf1b1241af6d9e3de0283a145158a3847ba739de37d825a09c67fb8bca", checked := Try.checked }
namespace Rows
def none {H : Type} : Left H := { results := [], args := [] }

/-- 'isochronlaw29.SwapChecks': WHATEVER THE INPUT: true; the input reads as it did. -/
def swapChecksSpec : ChangeSpec := { name := "swapChecks", fn := fun _ => fun
  | [d1, d2, d3] => { results := [.lit (.bool true)], args := [d1, d2, d3] }
  | _ => none }
def swapChecksRow : OpenClaim := { program := "ytpadgoejolfllaa", sum := "70834adf1b1241af6d9e3de0283a145158a3847ba739de37d825a09c67fb8bca", func := "isochron/isochronlaw29.SwapChecks", spec := "swapChecks", unfollowed := true, recurses := true, apart := false }
def SwapChecksSaid : Prop := swapChecksRow.holds Try.pinned (OpenSpec.ofChange swapChecksSpec)

/-- ITS FALSE NEIGHBOUR: 'it returns false'. Refute it at one input. -/
def swapChecksWrong : ChangeSpec := { name := "swapChecks", fn := fun _ => fun
  | [d1, d2, d3] => { results := [.lit (.bool false)], args := [d1, d2, d3] }
  | _ => none }
def SwapChecksWrongFalsely : Prop := swapChecksRow.holds Try.pinned (OpenSpec.ofChange swapChecksWrong)

/-- 'isochronlaw29.SwapSets': WHATEVER THE INPUT: true; the input reads as it did. -/
def swapSetsSpec : ChangeSpec := { name := "swapSets", fn := fun _ => fun
  | [d1, d2, d3, d4, d5] => { results := [.lit (.bool true)], args := [d1, d2, d3, d4, d5] }
  | _ => none }
def swapSetsRow : OpenClaim := { program := "ytpadgoejolfllaa", sum := "70834adf1b1241af6d9e3de0283a145158a3847ba739de37d825a09c67fb8bca", func := "isochron/isochronlaw29.SwapSets", spec := "swapSets", unfollowed := true, recurses := true, apart := false }
def SwapSetsSaid : Prop := swapSetsRow.holds Try.pinned (OpenSpec.ofChange swapSetsSpec)

/-- ITS FALSE NEIGHBOUR: 'it returns false'. Refute it at one input. -/
def swapSetsWrong : ChangeSpec := { name := "swapSets", fn := fun _ => fun
  | [d1, d2, d3, d4, d5] => { results := [.lit (.bool false)], args := [d1, d2, d3, d4, d5] }
  | _ => none }
def SwapSetsWrongFalsely : Prop := swapSetsRow.holds Try.pinned (OpenSpec.ofChange swapSetsWrong)

/-- 'isochronlaw29.SwapFits': WHATEVER THE INPUT: true; the input reads as it did. -/
def swapFitsSpec : ChangeSpec := { name := "swapFits", fn := fun _ => fun
  | [d1, d2, d3, d4, d5] => { results := [.lit (.bool true)], args := [d1, d2, d3, d4, d5] }
  | _ => none }
def swapFitsRow : OpenClaim := { program := "ytpadgoejolfllaa", sum := "70834adf1b1241af6d9e3de0283a145158a3847ba739de37d825a09c67fb8bca", func := "isochron/isochronlaw29.SwapFits", spec := "swapFits", unfollowed := true, recurses := true, apart := false }
def SwapFitsSaid : Prop := swapFitsRow.holds Try.pinned (OpenSpec.ofChange swapFitsSpec)

/-- ITS FALSE NEIGHBOUR: 'it returns false'. Refute it at one input. -/
def swapFitsWrong : ChangeSpec := { name := "swapFits", fn := fun _ => fun
  | [d1, d2, d3, d4, d5] => { results := [.lit (.bool false)], args := [d1, d2, d3, d4, d5] }
  | _ => none }
def SwapFitsWrongFalsely : Prop := swapFitsRow.holds Try.pinned (OpenSpec.ofChange swapFitsWrong)

/-- 'isochronlaw29.SwapKeeps': WHATEVER THE INPUT: true; the input reads as it did. -/
def swapKeepsSpec : ChangeSpec := { name := "swapKeeps", fn := fun _ => fun
  | [d1, d2, d3, d4, d5] => { results := [.lit (.bool true)], args := [d1, d2, d3, d4, d5] }
  | _ => none }
def swapKeepsRow : OpenClaim := { program := "ytpadgoejolfllaa", sum := "70834adf1b1241af6d9e3de0283a145158a3847ba739de37d825a09c67fb8bca", func := "isochron/isochronlaw29.SwapKeeps", spec := "swapKeeps", unfollowed := true, recurses := true, apart := false }
def SwapKeepsSaid : Prop := swapKeepsRow.holds Try.pinned (OpenSpec.ofChange swapKeepsSpec)

/-- ITS FALSE NEIGHBOUR: 'it returns false'. Refute it at one input. -/
def swapKeepsWrong : ChangeSpec := { name := "swapKeeps", fn := fun _ => fun
  | [d1, d2, d3, d4, d5] => { results := [.lit (.bool false)], args := [d1, d2, d3, d4, d5] }
  | _ => none }
def SwapKeepsWrongFalsely : Prop := swapKeepsRow.holds Try.pinned (OpenSpec.ofChange swapKeepsWrong)

/-- 'isochronlaw29.SwapMeans': WHATEVER THE INPUT: true; the input reads as it did. -/
def swapMeansSpec : ChangeSpec := { name := "swapMeans", fn := fun _ => fun
  | [d1, d2, d3, d4, d5] => { results := [.lit (.bool true)], args := [d1, d2, d3, d4, d5] }
  | _ => none }
def swapMeansRow : OpenClaim := { program := "ytpadgoejolfllaa", sum := "70834adf1b1241af6d9e3de0283a145158a3847ba739de37d825a09c67fb8bca", func := "isochron/isochronlaw29.SwapMeans", spec := "swapMeans", unfollowed := true, recurses := true, apart := false }
def SwapMeansSaid : Prop := swapMeansRow.holds Try.pinned (OpenSpec.ofChange swapMeansSpec)

/-- ITS FALSE NEIGHBOUR: 'it returns false'. Refute it at one input. -/
def swapMeansWrong : ChangeSpec := { name := "swapMeans", fn := fun _ => fun
  | [d1, d2, d3, d4, d5] => { results := [.lit (.bool false)], args := [d1, d2, d3, d4, d5] }
  | _ => none }
def SwapMeansWrongFalsely : Prop := swapMeansRow.holds Try.pinned (OpenSpec.ofChange swapMeansWrong)

/-- 'isochronlaw29.SwapKnown': WHATEVER THE INPUT: true; the input reads as it did. -/
def swapKnownSpec : ChangeSpec := { name := "swapKnown", fn := fun _ => fun
  | [] => { results := [.lit (.bool true)], args := [] }
  | _ => none }
def swapKnownRow : OpenClaim := { program := "ytpadgoejolfllaa", sum := "70834adf1b1241af6d9e3de0283a145158a3847ba739de37d825a09c67fb8bca", func := "isochron/isochronlaw29.SwapKnown", spec := "swapKnown", unfollowed := true, recurses := true, apart := false }
def SwapKnownSaid : Prop := swapKnownRow.holds Try.pinned (OpenSpec.ofChange swapKnownSpec)

/-- ITS FALSE NEIGHBOUR: 'it returns false'. Refute it at one input. -/
def swapKnownWrong : ChangeSpec := { name := "swapKnown", fn := fun _ => fun
  | [] => { results := [.lit (.bool false)], args := [] }
  | _ => none }
def SwapKnownWrongFalsely : Prop := swapKnownRow.holds Try.pinned (OpenSpec.ofChange swapKnownWrong)

/- THE SECOND FORM. 'bulk': how many values and letters a reading holds, each counted each time it is reached (what is shared counts as often as it is met; a slice's spare places count too). A statement '..UptoSaid' is the law's where the arguments, and the package variables that the reading takes, are together of bulk at most 1048576: NARROWER than '..Said'. Prove '..Said' where nothing that the law and all that it calls make is longer than what came in: it says more and counts as full. Else prove '..UptoSaid'. A law counts once. -/
mutual
def uptoBulk {H : Type} : DataW H → Nat
  | .lit (.string bytes) => bytes.length + 1
  | .lit _ => 1
  | .nil => 1
  | .ptr d => uptoBulk d + 1
  | .slice elems spare => uptoBulkAll elems + uptoBulkAll spare + 1
  | .agg parts => uptoBulkAll parts + 1
  | .iface _ d => uptoBulk d + 1
  | .map entries => uptoBulkEntries entries + 1
  | .held _ => 1
def uptoBulkAll {H : Type} : List (DataW H) → Nat
  | [] => 0
  | d :: r => uptoBulk d + uptoBulkAll r
def uptoBulkEntries {H : Type} : List (Lit × DataW H) → Nat
  | [] => 0
  | x :: r => uptoBulkEntry x + uptoBulkEntries r
def uptoBulkEntry {H : Type} : Lit × DataW H → Nat
  | (.string bytes, d) => bytes.length + uptoBulk d + 1
  | (_, d) => uptoBulk d + 1
 end
def uptoSmall : (H : Type) → List (DataW H) → Bool := fun _ ds => decide (uptoBulkAll ds ≤ 1048576)
def OpenSpec.upto (s : _root_.Go.ChangeSpec) : _root_.Go.OpenSpec := { _root_.Go.OpenSpec.ofChange s with cond := some uptoSmall }

/-- 'isochronlaw29.SwapChecks', WHERE WHAT IT READS IS OF BULK AT MOST 1048576: true; the input reads as it did. -/
def swapChecksUptoRow : OpenClaim := { program := "ytpadgoejolfllaa", sum := "70834adf1b1241af6d9e3de0283a145158a3847ba739de37d825a09c67fb8bca", func := "isochron/isochronlaw29.SwapChecks", spec := "swapChecks", unfollowed := true, recurses := true, apart := false, narrowed := true }
def SwapChecksUptoSaid : Prop := swapChecksUptoRow.holds Try.pinned (OpenSpec.upto swapChecksSpec)

/-- 'isochronlaw29.SwapSets', WHERE WHAT IT READS IS OF BULK AT MOST 1048576: true; the input reads as it did. -/
def swapSetsUptoRow : OpenClaim := { program := "ytpadgoejolfllaa", sum := "70834adf1b1241af6d9e3de0283a145158a3847ba739de37d825a09c67fb8bca", func := "isochron/isochronlaw29.SwapSets", spec := "swapSets", unfollowed := true, recurses := true, apart := false, narrowed := true }
def SwapSetsUptoSaid : Prop := swapSetsUptoRow.holds Try.pinned (OpenSpec.upto swapSetsSpec)

/-- 'isochronlaw29.SwapFits', WHERE WHAT IT READS IS OF BULK AT MOST 1048576: true; the input reads as it did. -/
def swapFitsUptoRow : OpenClaim := { program := "ytpadgoejolfllaa", sum := "70834adf1b1241af6d9e3de0283a145158a3847ba739de37d825a09c67fb8bca", func := "isochron/isochronlaw29.SwapFits", spec := "swapFits", unfollowed := true, recurses := true, apart := false, narrowed := true }
def SwapFitsUptoSaid : Prop := swapFitsUptoRow.holds Try.pinned (OpenSpec.upto swapFitsSpec)

/-- 'isochronlaw29.SwapKeeps', WHERE WHAT IT READS IS OF BULK AT MOST 1048576: true; the input reads as it did. -/
def swapKeepsUptoRow : OpenClaim := { program := "ytpadgoejolfllaa", sum := "70834adf1b1241af6d9e3de0283a145158a3847ba739de37d825a09c67fb8bca", func := "isochron/isochronlaw29.SwapKeeps", spec := "swapKeeps", unfollowed := true, recurses := true, apart := false, narrowed := true }
def SwapKeepsUptoSaid : Prop := swapKeepsUptoRow.holds Try.pinned (OpenSpec.upto swapKeepsSpec)

/-- 'isochronlaw29.SwapMeans', WHERE WHAT IT READS IS OF BULK AT MOST 1048576: true; the input reads as it did. -/
def swapMeansUptoRow : OpenClaim := { program := "ytpadgoejolfllaa", sum := "70834adf1b1241af6d9e3de0283a145158a3847ba739de37d825a09c67fb8bca", func := "isochron/isochronlaw29.SwapMeans", spec := "swapMeans", unfollowed := true, recurses := true, apart := false, narrowed := true }
def SwapMeansUptoSaid : Prop := swapMeansUptoRow.holds Try.pinned (OpenSpec.upto swapMeansSpec)

/-- 'isochronlaw29.SwapKnown', WHERE WHAT IT READS IS OF BULK AT MOST 1048576: true; the input reads as it did. -/
def swapKnownUptoRow : OpenClaim := { program := "ytpadgoejolfllaa", sum := "70834adf1b1241af6d9e3de0283a145158a3847ba739de37d825a09c67fb8bca", func := "isochron/isochronlaw29.SwapKnown", spec := "swapKnown", unfollowed := true, recurses := true, apart := false, narrowed := true }
def SwapKnownUptoSaid : Prop := swapKnownUptoRow.holds Try.pinned (OpenSpec.upto swapKnownSpec)

end Rows
end Go.Proofs.Ytpadgoejolfllaa
