/-
  No cell of these rows narrows 'for every input' (looked for: loops, veiled, ifaces, maps, wideKeys, modest, calm, conditions, laid).
  DERIVED. THE GIVEN ROWS OF THIS SEAT. 5 by the template 'for every input the law returns true; each argument reads behind the call as it read before'; 0 by the template 'total and deterministic' (their statements: YtddgnfnfojoljaaTotals.lean).
  GIVEN WITH THE SEED: the statements are not yours to turn. If you find one false, say at which input.
  Laid BY PROGRAM, IN A SANDBOX (cutbox-rows.mjs): the forced cells as the released guide's own fill.sh prints them over the translation eab98968932f68e1… (all of the seat's roots in one cut). By AI agents, Wed Nov 11 2026. No macro, syntax, notation, axiom, sorry.
-/
import Derived.Test.YtddgnfnfojoljaaChecked
import GoSem.Claim
import GoSem.ClaimJoined
import GoSem.ClaimMapViews
import Derived.JoinedTies
import Derived.KernelRfl
namespace Go.Proofs.Ytddgnfnfojoljaa
/- THE CELL 'sum', in the pinned program and in every row, IS THE sha256 OF THE DUMP (.gsa) THAT YtddgnfnfojoljaaProg.lean LOADS. Nothing in Lean hashes anything: it is a label: what it is worth is what the hold of that sum in a sandbox is worth. -/
noncomputable def Try.pinned : Pinned := { name := "ytddgnfnfojoljaa", sum := "eab98968932f68e107250a6aabc9b6d77688324bb88fe053feac8a943b155251", checked := Try.checked }
namespace Rows
def none {H : Type} : Left H := { results := [], args := [] }

/-- 'isochronlaw25.ProofChecks': WHATEVER THE INPUT: true; the input reads as it did. -/
def proofChecksSpec : ChangeSpec := { name := "proofChecks", fn := fun _ => fun
  | [d1, d2, d3, d4, d5] => { results := [.lit (.bool true)], args := [d1, d2, d3, d4, d5] }
  | _ => none }
def proofChecksRow : OpenClaim := { program := "ytddgnfnfojoljaa", sum := "eab98968932f68e107250a6aabc9b6d77688324bb88fe053feac8a943b155251", func := "isochron/isochronlaw25.ProofChecks", spec := "proofChecks", unfollowed := true, recurses := true, plainKeys := false, apart := false }
def ProofChecksSaid : Prop := proofChecksRow.holds Try.pinned (OpenSpec.ofChange proofChecksSpec)

/-- ITS FALSE NEIGHBOUR: 'it returns false'. Refute it at one input. -/
def proofChecksWrong : ChangeSpec := { name := "proofChecks", fn := fun _ => fun
  | [d1, d2, d3, d4, d5] => { results := [.lit (.bool false)], args := [d1, d2, d3, d4, d5] }
  | _ => none }
def ProofChecksWrongFalsely : Prop := proofChecksRow.holds Try.pinned (OpenSpec.ofChange proofChecksWrong)

/-- 'isochronlaw25.ProofReasons': WHATEVER THE INPUT: true; the input reads as it did. -/
def proofReasonsSpec : ChangeSpec := { name := "proofReasons", fn := fun _ => fun
  | [d1, d2, d3, d4, d5] => { results := [.lit (.bool true)], args := [d1, d2, d3, d4, d5] }
  | _ => none }
def proofReasonsRow : OpenClaim := { program := "ytddgnfnfojoljaa", sum := "eab98968932f68e107250a6aabc9b6d77688324bb88fe053feac8a943b155251", func := "isochron/isochronlaw25.ProofReasons", spec := "proofReasons", unfollowed := true, recurses := true, plainKeys := false, apart := false }
def ProofReasonsSaid : Prop := proofReasonsRow.holds Try.pinned (OpenSpec.ofChange proofReasonsSpec)

/-- ITS FALSE NEIGHBOUR: 'it returns false'. Refute it at one input. -/
def proofReasonsWrong : ChangeSpec := { name := "proofReasons", fn := fun _ => fun
  | [d1, d2, d3, d4, d5] => { results := [.lit (.bool false)], args := [d1, d2, d3, d4, d5] }
  | _ => none }
def ProofReasonsWrongFalsely : Prop := proofReasonsRow.holds Try.pinned (OpenSpec.ofChange proofReasonsWrong)

/-- 'isochronlaw25.ProofMade': WHATEVER THE INPUT: true; the input reads as it did. -/
def proofMadeSpec : ChangeSpec := { name := "proofMade", fn := fun _ => fun
  | [d1, d2, d3] => { results := [.lit (.bool true)], args := [d1, d2, d3] }
  | _ => none }
def proofMadeRow : OpenClaim := { program := "ytddgnfnfojoljaa", sum := "eab98968932f68e107250a6aabc9b6d77688324bb88fe053feac8a943b155251", func := "isochron/isochronlaw25.ProofMade", spec := "proofMade", unfollowed := true, recurses := true, plainKeys := false, apart := false }
def ProofMadeSaid : Prop := proofMadeRow.holds Try.pinned (OpenSpec.ofChange proofMadeSpec)

/-- ITS FALSE NEIGHBOUR: 'it returns false'. Refute it at one input. -/
def proofMadeWrong : ChangeSpec := { name := "proofMade", fn := fun _ => fun
  | [d1, d2, d3] => { results := [.lit (.bool false)], args := [d1, d2, d3] }
  | _ => none }
def ProofMadeWrongFalsely : Prop := proofMadeRow.holds Try.pinned (OpenSpec.ofChange proofMadeWrong)

/-- 'isochronlaw25.ProofKnown': WHATEVER THE INPUT: true; the input reads as it did. -/
def proofKnownSpec : ChangeSpec := { name := "proofKnown", fn := fun _ => fun
  | [] => { results := [.lit (.bool true)], args := [] }
  | _ => none }
def proofKnownRow : OpenClaim := { program := "ytddgnfnfojoljaa", sum := "eab98968932f68e107250a6aabc9b6d77688324bb88fe053feac8a943b155251", func := "isochron/isochronlaw25.ProofKnown", spec := "proofKnown", unfollowed := true, recurses := true, plainKeys := false, apart := false }
def ProofKnownSaid : Prop := proofKnownRow.holds Try.pinned (OpenSpec.ofChange proofKnownSpec)

/-- ITS FALSE NEIGHBOUR: 'it returns false'. Refute it at one input. -/
def proofKnownWrong : ChangeSpec := { name := "proofKnown", fn := fun _ => fun
  | [] => { results := [.lit (.bool false)], args := [] }
  | _ => none }
def ProofKnownWrongFalsely : Prop := proofKnownRow.holds Try.pinned (OpenSpec.ofChange proofKnownWrong)

/-- 'isochronlaw25.ProofSound': WHATEVER THE INPUT: true; the input reads as it did. -/
def proofSoundSpec : ChangeSpec := { name := "proofSound", fn := fun _ => fun
  | [d1, d2, d3, d4] => { results := [.lit (.bool true)], args := [d1, d2, d3, d4] }
  | _ => none }
def proofSoundRow : OpenClaim := { program := "ytddgnfnfojoljaa", sum := "eab98968932f68e107250a6aabc9b6d77688324bb88fe053feac8a943b155251", func := "isochron/isochronlaw25.ProofSound", spec := "proofSound", unfollowed := true, recurses := true, plainKeys := false, apart := false }
def ProofSoundSaid : Prop := proofSoundRow.holds Try.pinned (OpenSpec.ofChange proofSoundSpec)

/-- ITS FALSE NEIGHBOUR: 'it returns false'. Refute it at one input. -/
def proofSoundWrong : ChangeSpec := { name := "proofSound", fn := fun _ => fun
  | [d1, d2, d3, d4] => { results := [.lit (.bool false)], args := [d1, d2, d3, d4] }
  | _ => none }
def ProofSoundWrongFalsely : Prop := proofSoundRow.holds Try.pinned (OpenSpec.ofChange proofSoundWrong)

/- THE SECOND FORM. 'bulk': how many values and letters a reading holds, each counted each time it is reached (what is shared counts as often as it is met; a slice's spare places count too). A statement '..UptoSaid' is the law's where the arguments, and the package variables that the reading takes, are together of bulk at most 1048576: NARROWER than '..Said'. Prove '..Said' where nothing that the law and all that it calls make is longer than what came in: it says more and counts as full. Else prove '..UptoSaid'. A law counts once. -/
mutual
def uptoBulk {H : Type} : DataW H → Nat
  | .lit (.string bytes) => bytes.length + 1
  | .lit _ => 1
  | .nil => 1
  | .ptr d => uptoBulk d + 1
  | .slice elems spare => uptoBulkAll elems + uptoBulkAll spare + 1
  | .agg parts => uptoBulkAll parts + 1
  | .iface _ d => uptoBulk d + 1
  | .map entries => uptoBulkEntries entries + 1
  | .held _ => 1
def uptoBulkAll {H : Type} : List (DataW H) → Nat
  | [] => 0
  | d :: r => uptoBulk d + uptoBulkAll r
def uptoBulkEntries {H : Type} : List (Lit × DataW H) → Nat
  | [] => 0
  | x :: r => uptoBulkEntry x + uptoBulkEntries r
def uptoBulkEntry {H : Type} : Lit × DataW H → Nat
  | (.string bytes, d) => bytes.length + uptoBulk d + 1
  | (_, d) => uptoBulk d + 1
 end
def uptoSmall : (H : Type) → List (DataW H) → Bool := fun _ ds => decide (uptoBulkAll ds ≤ 1048576)
def OpenSpec.upto (s : _root_.Go.ChangeSpec) : _root_.Go.OpenSpec := { _root_.Go.OpenSpec.ofChange s with cond := some uptoSmall }

/-- 'isochronlaw25.ProofChecks', WHERE WHAT IT READS IS OF BULK AT MOST 1048576: true; the input reads as it did. -/
def proofChecksUptoRow : OpenClaim := { program := "ytddgnfnfojoljaa", sum := "eab98968932f68e107250a6aabc9b6d77688324bb88fe053feac8a943b155251", func := "isochron/isochronlaw25.ProofChecks", spec := "proofChecks", unfollowed := true, recurses := true, plainKeys := false, apart := false, narrowed := true }
def ProofChecksUptoSaid : Prop := proofChecksUptoRow.holds Try.pinned (OpenSpec.upto proofChecksSpec)

/-- 'isochronlaw25.ProofReasons', WHERE WHAT IT READS IS OF BULK AT MOST 1048576: true; the input reads as it did. -/
def proofReasonsUptoRow : OpenClaim := { program := "ytddgnfnfojoljaa", sum := "eab98968932f68e107250a6aabc9b6d77688324bb88fe053feac8a943b155251", func := "isochron/isochronlaw25.ProofReasons", spec := "proofReasons", unfollowed := true, recurses := true, plainKeys := false, apart := false, narrowed := true }
def ProofReasonsUptoSaid : Prop := proofReasonsUptoRow.holds Try.pinned (OpenSpec.upto proofReasonsSpec)

/-- 'isochronlaw25.ProofMade', WHERE WHAT IT READS IS OF BULK AT MOST 1048576: true; the input reads as it did. -/
def proofMadeUptoRow : OpenClaim := { program := "ytddgnfnfojoljaa", sum := "eab98968932f68e107250a6aabc9b6d77688324bb88fe053feac8a943b155251", func := "isochron/isochronlaw25.ProofMade", spec := "proofMade", unfollowed := true, recurses := true, plainKeys := false, apart := false, narrowed := true }
def ProofMadeUptoSaid : Prop := proofMadeUptoRow.holds Try.pinned (OpenSpec.upto proofMadeSpec)

/-- 'isochronlaw25.ProofKnown', WHERE WHAT IT READS IS OF BULK AT MOST 1048576: true; the input reads as it did. -/
def proofKnownUptoRow : OpenClaim := { program := "ytddgnfnfojoljaa", sum := "eab98968932f68e107250a6aabc9b6d77688324bb88fe053feac8a943b155251", func := "isochron/isochronlaw25.ProofKnown", spec := "proofKnown", unfollowed := true, recurses := true, plainKeys := false, apart := false, narrowed := true }
def ProofKnownUptoSaid : Prop := proofKnownUptoRow.holds Try.pinned (OpenSpec.upto proofKnownSpec)

/-- 'isochronlaw25.ProofSound', WHERE WHAT IT READS IS OF BULK AT MOST 1048576: true; the input reads as it did. -/
def proofSoundUptoRow : OpenClaim := { program := "ytddgnfnfojoljaa", sum := "eab98968932f68e107250a6aabc9b6d77688324bb88fe053feac8a943b155251", func := "isochron/isochronlaw25.ProofSound", spec := "proofSound", unfollowed := true, recurses := true, plainKeys := false, apart := false, narrowed := true }
def ProofSoundUptoSaid : Prop := proofSoundUptoRow.holds Try.pinned (OpenSpec.upto proofSoundSpec)

end Rows
end Go.Proofs.Ytddgnfnfojoljaa
