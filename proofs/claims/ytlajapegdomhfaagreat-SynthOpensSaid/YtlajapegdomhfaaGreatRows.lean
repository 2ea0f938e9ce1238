/-
  No cell of these rows narrows 'for every input' (looked for: loops, veiled, ifaces, maps, wideKeys, modest, calm, conditions, laid).
  DERIVED. THE GIVEN ROWS OF THIS SEAT. 4 by the template 'for every input the law returns true; each argument reads behind the call as it read before'; 0 by the template 'total and deterministic' (their statements: YtlajapegdomhfaaGreatTotals.lean).
  GIVEN WITH THE SEED: the statements are not yours to turn. If you find one false, say at which input.
  Laid BY PROGRAM, IN A SANDBOX (cutbox-rows.mjs): the forced cells as the released guide's own fill.sh prints them over the translation 0bd6639dd80653ab… (all of the seat's roots in one cut). By AI agents, Wed Nov 11 2026. No macro, syntax, notation, axiom, sorry.
-/
import Derived.Test.YtlajapegdomhfaaGreatChecked
import GoSem.Claim
import GoSem.ClaimJoined
import GoSem.ClaimMapViews
import Derived.JoinedTies
import Derived.KernelRfl
namespace Go.Proofs.YtlajapegdomhfaaGreat
/- THE CELL 'sum', in the pinned program and in every row, IS THE sha256 OF THE DUMP (.gsa) THAT YtlajapegdomhfaaGreatProg.lean LOADS. Nothing in Lean hashes anything: it is a label: what it is worth is what the hold of that sum in a sandbox is worth. -/
noncomputable def Tryz.pinned : Pinned := { name := "ytlajapegdomhfaagreat", sum := "0bd6639dd80653ab790b673ddc4dee6654ad60561f87103e6e6a62b5598456aa", checked := Tryz.checked }
namespace Rows
def none {H : Type} : Left H := { results := [], args := [] }

/-- 'isochronlaw28.SynthLists': WHATEVER THE INPUT: true; the input reads as it did. -/
def synthListsSpec : ChangeSpec := { name := "synthLists", fn := fun _ => fun
  | [d1, d2, d3] => { results := [.lit (.bool true)], args := [d1, d2, d3] }
  | _ => none }
def synthListsRow : OpenClaim := { program := "ytlajapegdomhfaagreat", sum := "0bd6639dd80653ab790b673ddc4dee6654ad60561f87103e6e6a62b5598456aa", func := "isochron/isochronlaw28.SynthLists", spec := "synthLists", unfollowed := true, recurses := true, apart := false }
def SynthListsSaid : Prop := synthListsRow.holds Tryz.pinned (OpenSpec.ofChange synthListsSpec)

/-- ITS FALSE NEIGHBOUR: 'it returns false'. Refute it at one input. -/
def synthListsWrong : ChangeSpec := { name := "synthLists", fn := fun _ => fun
  | [d1, d2, d3] => { results := [.lit (.bool false)], args := [d1, d2, d3] }
  | _ => none }
def SynthListsWrongFalsely : Prop := synthListsRow.holds Tryz.pinned (OpenSpec.ofChange synthListsWrong)

/-- 'isochronlaw28.SynthHolds': WHATEVER THE INPUT: true; the input reads as it did. -/
def synthHoldsSpec : ChangeSpec := { name := "synthHolds", fn := fun _ => fun
  | [d1, d2, d3, d4, d5] => { results := [.lit (.bool true)], args := [d1, d2, d3, d4, d5] }
  | _ => none }
def synthHoldsRow : OpenClaim := { program := "ytlajapegdomhfaagreat", sum := "0bd6639dd80653ab790b673ddc4dee6654ad60561f87103e6e6a62b5598456aa", func := "isochron/isochronlaw28.SynthHolds", spec := "synthHolds", unfollowed := true, recurses := true, apart := false }
def SynthHoldsSaid : Prop := synthHoldsRow.holds Tryz.pinned (OpenSpec.ofChange synthHoldsSpec)

/-- ITS FALSE NEIGHBOUR: 'it returns false'. Refute it at one input. -/
def synthHoldsWrong : ChangeSpec := { name := "synthHolds", fn := fun _ => fun
  | [d1, d2, d3, d4, d5] => { results := [.lit (.bool false)], args := [d1, d2, d3, d4, d5] }
  | _ => none }
def SynthHoldsWrongFalsely : Prop := synthHoldsRow.holds Tryz.pinned (OpenSpec.ofChange synthHoldsWrong)

/-- 'isochronlaw28.SynthOpens': WHATEVER THE INPUT: true; the input reads as it did. -/
def synthOpensSpec : ChangeSpec := { name := "synthOpens", fn := fun _ => fun
  | [d] => { results := [.lit (.bool true)], args := [d] }
  | _ => none }
def synthOpensRow : OpenClaim := { program := "ytlajapegdomhfaagreat", sum := "0bd6639dd80653ab790b673ddc4dee6654ad60561f87103e6e6a62b5598456aa", func := "isochron/isochronlaw28.SynthOpens", spec := "synthOpens", unfollowed := true, recurses := true, apart := false }
def SynthOpensSaid : Prop := synthOpensRow.holds Tryz.pinned (OpenSpec.ofChange synthOpensSpec)

/-- ITS FALSE NEIGHBOUR: 'it returns false'. Refute it at one input. -/
def synthOpensWrong : ChangeSpec := { name := "synthOpens", fn := fun _ => fun
  | [d] => { results := [.lit (.bool false)], args := [d] }
  | _ => none }
def SynthOpensWrongFalsely : Prop := synthOpensRow.holds Tryz.pinned (OpenSpec.ofChange synthOpensWrong)

/-- 'isochronlaw28.SynthRoom': WHATEVER THE INPUT: true; the input reads as it did. -/
def synthRoomSpec : ChangeSpec := { name := "synthRoom", fn := fun _ => fun
  | [d1, d2] => { results := [.lit (.bool true)], args := [d1, d2] }
  | _ => none }
def synthRoomRow : OpenClaim := { program := "ytlajapegdomhfaagreat", sum := "0bd6639dd80653ab790b673ddc4dee6654ad60561f87103e6e6a62b5598456aa", func := "isochron/isochronlaw28.SynthRoom", spec := "synthRoom", unfollowed := true, recurses := true, apart := false }
def SynthRoomSaid : Prop := synthRoomRow.holds Tryz.pinned (OpenSpec.ofChange synthRoomSpec)

/-- ITS FALSE NEIGHBOUR: 'it returns false'. Refute it at one input. -/
def synthRoomWrong : ChangeSpec := { name := "synthRoom", fn := fun _ => fun
  | [d1, d2] => { results := [.lit (.bool false)], args := [d1, d2] }
  | _ => none }
def SynthRoomWrongFalsely : Prop := synthRoomRow.holds Tryz.pinned (OpenSpec.ofChange synthRoomWrong)

/- THE SECOND FORM. 'bulk': how many values and letters a reading holds, each counted each time it is reached (what is shared counts as often as it is met; a slice's spare places count too). A statement '..UptoSaid' is the law's where the arguments, and the package variables that the reading takes, are together of bulk at most 1048576: NARROWER than '..Said'. Prove '..Said' where nothing that the law and all that it calls make is longer than what came in: it says more and counts as full. Else prove '..UptoSaid'. A law counts once. -/
mutual
def uptoBulk {H : Type} : DataW H → Nat
  | .lit (.string bytes) => bytes.length + 1
  | .lit _ => 1
  | .nil => 1
  | .ptr d => uptoBulk d + 1
  | .slice elems spare => uptoBulkAll elems + uptoBulkAll spare + 1
  | .agg parts => uptoBulkAll parts + 1
  | .iface _ d => uptoBulk d + 1
  | .map entries => uptoBulkEntries entries + 1
  | .held _ => 1
def uptoBulkAll {H : Type} : List (DataW H) → Nat
  | [] => 0
  | d :: r => uptoBulk d + uptoBulkAll r
def uptoBulkEntries {H : Type} : List (Lit × DataW H) → Nat
  | [] => 0
  | x :: r => uptoBulkEntry x + uptoBulkEntries r
def uptoBulkEntry {H : Type} : Lit × DataW H → Nat
  | (.string bytes, d) => bytes.length + uptoBulk d + 1
  | (_, d) => uptoBulk d + 1
 end
def uptoSmall : (H : Type) → List (DataW H) → Bool := fun _ ds => decide (uptoBulkAll ds ≤ 1048576)
def OpenSpec.upto (s : _root_.Go.ChangeSpec) : _root_.Go.OpenSpec := { _root_.Go.OpenSpec.ofChange s with cond := some uptoSmall }

/-- 'isochronlaw28.SynthLists', WHERE WHAT IT READS IS OF BULK AT MOST 1048576: true; the input reads as it did. -/
def synthListsUptoRow : OpenClaim := { program := "ytlajapegdomhfaagreat", sum := "0bd6639dd80653ab790b673ddc4dee6654ad60561f87103e6e6a62b5598456aa", func := "isochron/isochronlaw28.SynthLists", spec := "synthLists", unfollowed := true, recurses := true, apart := false, narrowed := true }
def SynthListsUptoSaid : Prop := synthListsUptoRow.holds Tryz.pinned (OpenSpec.upto synthListsSpec)

/-- 'isochronlaw28.SynthHolds', WHERE WHAT IT READS IS OF BULK AT MOST 1048576: true; the input reads as it did. -/
def synthHoldsUptoRow : OpenClaim := { program := "ytlajapegdomhfaagreat", sum := "0bd6639dd80653ab790b673ddc4dee6654ad60561f87103e6e6a62b5598456aa", func := "isochron/isochronlaw28.SynthHolds", spec := "synthHolds", unfollowed := true, recurses := true, apart := false, narrowed := true }
def SynthHoldsUptoSaid : Prop := synthHoldsUptoRow.holds Tryz.pinned (OpenSpec.upto synthHoldsSpec)

/-- 'isochronlaw28.SynthOpens', WHERE WHAT IT READS IS OF BULK AT MOST 1048576: true; the input reads as it did. -/
def synthOpensUptoRow : OpenClaim := { program := "ytlajapegdomhfaagreat", sum := "0bd6639dd80653ab790b673ddc4dee6654ad60561f87103e6e6a62b5598456aa", func := "isochron/isochronlaw28.SynthOpens", spec := "synthOpens", unfollowed := true, recurses := true, apart := false, narrowed := true }
def SynthOpensUptoSaid : Prop := synthOpensUptoRow.holds Tryz.pinned (OpenSpec.upto synthOpensSpec)

/-- 'isochronlaw28.SynthRoom', WHERE WHAT IT READS IS OF BULK AT MOST 1048576: true; the input reads as it did. -/
def synthRoomUptoRow : OpenClaim := { program := "ytlajapegdomhfaagreat", sum := "0bd6639dd80653ab790b673ddc4dee6654ad60561f87103e6e6a62b5598456aa", func := "isochron/isochronlaw28.SynthRoom", spec := "synthRoom", unfollowed := true, recurses := true, apart := false, narrowed := true }
def SynthRoomUptoSaid : Prop := synthRoomUptoRow.holds Tryz.pinned (OpenSpec.upto synthRoomSpec)

end Rows
end Go.Proofs.YtlajapegdomhfaaGreat
