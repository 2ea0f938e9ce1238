/-
  No cell of these rows narrows 'for every input' (looked for: loops, veiled, ifaces, maps, wideKeys, modest, calm, conditions, laid).
  DERIVED. THE GIVEN ROWS OF THIS SEAT. 5 by the template 'for every input the law returns true; each argument reads behind the call as it read before'; 0 by the template 'total and deterministic' (their statements: YtmplmekdilmdgaaTotals.lean).
  GIVEN WITH THE SEED: the statements are not yours to turn. If you find one false, say at which input.
  Laid BY PROGRAM, IN A SANDBOX (cutbox-rows.mjs): the forced cells as the released guide's own fill.sh prints them over the translation 152ea23c94e7ed60… (all of the seat's roots in one cut). By AI agents, Wed Nov 11 2026. No macro, syntax, notation, axiom, sorry.
-/
import Derived.Test.YtmplmekdilmdgaaChecked
import GoSem.Claim
import GoSem.ClaimJoined
import GoSem.ClaimMapViews
import Derived.JoinedTies
import Derived.KernelRfl
namespace Go.Proofs.Ytmplmekdilmdgaa
/- THE CELL 'sum', in the pinned program and in every row, IS THE sha256 OF THE DUMP (.gsa) THAT YtmplmekdilmdgaaProg.lean LOADS. Nothing in Lean hashes anything: it is a label: what it is worth is what the hold of that sum in a sandbox is worth. -/
noncomputable def Try.pinned : Pinned := { name := "ytmplmekdilmdgaa", sum := "152ea23c94e7ed6088c2cf7f006bd0bcec033678be758c8915fa8caab0df5f82", checked := Try.checked }
namespace Rows
def none {H : Type} : Left H := { results := [], args := [] }

/-- 'isochronlaw22.StreamHops': WHATEVER THE INPUT: true; the input reads as it did. -/
def streamHopsSpec : ChangeSpec := { name := "streamHops", fn := fun _ => fun
  | [d1, d2] => { results := [.lit (.bool true)], args := [d1, d2] }
  | _ => none }
def streamHopsRow : OpenClaim := { program := "ytmplmekdilmdgaa", sum := "152ea23c94e7ed6088c2cf7f006bd0bcec033678be758c8915fa8caab0df5f82", func := "isochron/isochronlaw22.StreamHops", spec := "streamHops", unfollowed := true, recurses := true, apart := false }
def StreamHopsSaid : Prop := streamHopsRow.holds Try.pinned (OpenSpec.ofChange streamHopsSpec)

/-- ITS FALSE NEIGHBOUR: 'it returns false'. Refute it at one input. -/
def streamHopsWrong : ChangeSpec := { name := "streamHops", fn := fun _ => fun
  | [d1, d2] => { results := [.lit (.bool false)], args := [d1, d2] }
  | _ => none }
def StreamHopsWrongFalsely : Prop := streamHopsRow.holds Try.pinned (OpenSpec.ofChange streamHopsWrong)

/-- 'isochronlaw22.StreamArrives': WHATEVER THE INPUT: true; the input reads as it did. -/
def streamArrivesSpec : ChangeSpec := { name := "streamArrives", fn := fun _ => fun
  | [d1, d2] => { results := [.lit (.bool true)], args := [d1, d2] }
  | _ => none }
def streamArrivesRow : OpenClaim := { program := "ytmplmekdilmdgaa", sum := "152ea23c94e7ed6088c2cf7f006bd0bcec033678be758c8915fa8caab0df5f82", func := "isochron/isochronlaw22.StreamArrives", spec := "streamArrives", unfollowed := true, recurses := true, apart := false }
def StreamArrivesSaid : Prop := streamArrivesRow.holds Try.pinned (OpenSpec.ofChange streamArrivesSpec)

/-- ITS FALSE NEIGHBOUR: 'it returns false'. Refute it at one input. -/
def streamArrivesWrong : ChangeSpec := { name := "streamArrives", fn := fun _ => fun
  | [d1, d2] => { results := [.lit (.bool false)], args := [d1, d2] }
  | _ => none }
def StreamArrivesWrongFalsely : Prop := streamArrivesRow.holds Try.pinned (OpenSpec.ofChange streamArrivesWrong)

/-- 'isochronlaw22.StreamGrids': WHATEVER THE INPUT: true; the input reads as it did. -/
def streamGridsSpec : ChangeSpec := { name := "streamGrids", fn := fun _ => fun
  | [d] => { results := [.lit (.bool true)], args := [d] }
  | _ => none }
def streamGridsRow : OpenClaim := { program := "ytmplmekdilmdgaa", sum := "152ea23c94e7ed6088c2cf7f006bd0bcec033678be758c8915fa8caab0df5f82", func := "isochron/isochronlaw22.StreamGrids", spec := "streamGrids", unfollowed := true, recurses := true, apart := false }
def StreamGridsSaid : Prop := streamGridsRow.holds Try.pinned (OpenSpec.ofChange streamGridsSpec)

/-- ITS FALSE NEIGHBOUR: 'it returns false'. Refute it at one input. -/
def streamGridsWrong : ChangeSpec := { name := "streamGrids", fn := fun _ => fun
  | [d] => { results := [.lit (.bool false)], args := [d] }
  | _ => none }
def StreamGridsWrongFalsely : Prop := streamGridsRow.holds Try.pinned (OpenSpec.ofChange streamGridsWrong)

/-- 'isochronlaw22.StreamChecks': WHATEVER THE INPUT: true; the input reads as it did. -/
def streamChecksSpec : ChangeSpec := { name := "streamChecks", fn := fun _ => fun
  | [d1, d2, d3] => { results := [.lit (.bool true)], args := [d1, d2, d3] }
  | _ => none }
def streamChecksRow : OpenClaim := { program := "ytmplmekdilmdgaa", sum := "152ea23c94e7ed6088c2cf7f006bd0bcec033678be758c8915fa8caab0df5f82", func := "isochron/isochronlaw22.StreamChecks", spec := "streamChecks", unfollowed := true, recurses := true, apart := false }
def StreamChecksSaid : Prop := streamChecksRow.holds Try.pinned (OpenSpec.ofChange streamChecksSpec)

/-- ITS FALSE NEIGHBOUR: 'it returns false'. Refute it at one input. -/
def streamChecksWrong : ChangeSpec := { name := "streamChecks", fn := fun _ => fun
  | [d1, d2, d3] => { results := [.lit (.bool false)], args := [d1, d2, d3] }
  | _ => none }
def StreamChecksWrongFalsely : Prop := streamChecksRow.holds Try.pinned (OpenSpec.ofChange streamChecksWrong)

/-- 'isochronlaw22.StreamKnown': WHATEVER THE INPUT: true; the input reads as it did. -/
def streamKnownSpec : ChangeSpec := { name := "streamKnown", fn := fun _ => fun
  | [] => { results := [.lit (.bool true)], args := [] }
  | _ => none }
def streamKnownRow : OpenClaim := { program := "ytmplmekdilmdgaa", sum := "152ea23c94e7ed6088c2cf7f006bd0bcec033678be758c8915fa8caab0df5f82", func := "isochron/isochronlaw22.StreamKnown", spec := "streamKnown", unfollowed := true, recurses := true, apart := false }
def StreamKnownSaid : Prop := streamKnownRow.holds Try.pinned (OpenSpec.ofChange streamKnownSpec)

/-- ITS FALSE NEIGHBOUR: 'it returns false'. Refute it at one input. -/
def streamKnownWrong : ChangeSpec := { name := "streamKnown", fn := fun _ => fun
  | [] => { results := [.lit (.bool false)], args := [] }
  | _ => none }
def StreamKnownWrongFalsely : Prop := streamKnownRow.holds Try.pinned (OpenSpec.ofChange streamKnownWrong)

/- THE SECOND FORM. 'bulk': how many values and letters a reading holds, each counted each time it is reached (what is shared counts as often as it is met; a slice's spare places count too). A statement '..UptoSaid' is the law's where the arguments, and the package variables that the reading takes, are together of bulk at most 1048576: NARROWER than '..Said'. Prove '..Said' where nothing that the law and all that it calls make is longer than what came in: it says more and counts as full. Else prove '..UptoSaid'. A law counts once. -/
mutual
def uptoBulk {H : Type} : DataW H → Nat
  | .lit (.string bytes) => bytes.length + 1
  | .lit _ => 1
  | .nil => 1
  | .ptr d => uptoBulk d + 1
  | .slice elems spare => uptoBulkAll elems + uptoBulkAll spare + 1
  | .agg parts => uptoBulkAll parts + 1
  | .iface _ d => uptoBulk d + 1
  | .map entries => uptoBulkEntries entries + 1
  | .held _ => 1
def uptoBulkAll {H : Type} : List (DataW H) → Nat
  | [] => 0
  | d :: r => uptoBulk d + uptoBulkAll r
def uptoBulkEntries {H : Type} : List (Lit × DataW H) → Nat
  | [] => 0
  | x :: r => uptoBulkEntry x + uptoBulkEntries r
def uptoBulkEntry {H : Type} : Lit × DataW H → Nat
  | (.string bytes, d) => bytes.length + uptoBulk d + 1
  | (_, d) => uptoBulk d + 1
 end
def uptoSmall : (H : Type) → List (DataW H) → Bool := fun _ ds => decide (uptoBulkAll ds ≤ 1048576)
def OpenSpec.upto (s : _root_.Go.ChangeSpec) : _root_.Go.OpenSpec := { _root_.Go.OpenSpec.ofChange s with cond := some uptoSmall }

/-- 'isochronlaw22.StreamHops', WHERE WHAT IT READS IS OF BULK AT MOST 1048576: true; the input reads as it did. -/
def streamHopsUptoRow : OpenClaim := { program := "ytmplmekdilmdgaa", sum := "152ea23c94e7ed6088c2cf7f006bd0bcec033678be758c8915fa8caab0df5f82", func := "isochron/isochronlaw22.StreamHops", spec := "streamHops", unfollowed := true, recurses := true, apart := false, narrowed := true }
def StreamHopsUptoSaid : Prop := streamHopsUptoRow.holds Try.pinned (OpenSpec.upto streamHopsSpec)

/-- 'isochronlaw22.StreamArrives', WHERE WHAT IT READS IS OF BULK AT MOST 1048576: true; the input reads as it did. -/
def streamArrivesUptoRow : OpenClaim := { program := "ytmplmekdilmdgaa", sum := "152ea23c94e7ed6088c2cf7f006bd0bcec033678be758c8915fa8caab0df5f82", func := "isochron/isochronlaw22.StreamArrives", spec := "streamArrives", unfollowed := true, recurses := true, apart := false, narrowed := true }
def StreamArrivesUptoSaid : Prop := streamArrivesUptoRow.holds Try.pinned (OpenSpec.upto streamArrivesSpec)

/-- 'isochronlaw22.StreamGrids', WHERE WHAT IT READS IS OF BULK AT MOST 1048576: true; the input reads as it did. -/
def streamGridsUptoRow : OpenClaim := { program := "ytmplmekdilmdgaa", sum := "152ea23c94e7ed6088c2cf7f006bd0bcec033678be758c8915fa8caab0df5f82", func := "isochron/isochronlaw22.StreamGrids", spec := "streamGrids", unfollowed := true, recurses := true, apart := false, narrowed := true }
def StreamGridsUptoSaid : Prop := streamGridsUptoRow.holds Try.pinned (OpenSpec.upto streamGridsSpec)

/-- 'isochronlaw22.StreamChecks', WHERE WHAT IT READS IS OF BULK AT MOST 1048576: true; the input reads as it did. -/
def streamChecksUptoRow : OpenClaim := { program := "ytmplmekdilmdgaa", sum := "152ea23c94e7ed6088c2cf7f006bd0bcec033678be758c8915fa8caab0df5f82", func := "isochron/isochronlaw22.StreamChecks", spec := "streamChecks", unfollowed := true, recurses := true, apart := false, narrowed := true }
def StreamChecksUptoSaid : Prop := streamChecksUptoRow.holds Try.pinned (OpenSpec.upto streamChecksSpec)

/-- 'isochronlaw22.StreamKnown', WHERE WHAT IT READS IS OF BULK AT MOST 1048576: true; the input reads as it did. -/
def streamKnownUptoRow : OpenClaim := { program := "ytmplmekdilmdgaa", sum := "152ea23c94e7ed6088c2cf7f006bd0bcec033678be758c8915fa8caab0df5f82", func := "isochron/isochronlaw22.StreamKnown", spec := "streamKnown", unfollowed := true, recurses := true, apart := false, narrowed := true }
def StreamKnownUptoSaid : Prop := streamKnownUptoRow.holds Try.pinned (OpenSpec.upto streamKnownSpec)

end Rows
end Go.Proofs.Ytmplmekdilmdgaa
