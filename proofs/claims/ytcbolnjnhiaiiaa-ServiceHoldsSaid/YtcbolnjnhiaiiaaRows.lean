/-
  No cell of these rows narrows 'for every input' (looked for: loops, veiled, ifaces, maps, wideKeys, modest, calm, conditions, laid).
  DERIVED. THE GIVEN ROWS OF THIS SEAT. 7 by the template 'for every input the law returns true; each argument reads behind the call as it read before'; 0 by the template 'total and deterministic' (their statements: YtcbolnjnhiaiiaaTotals.lean).
  GIVEN WITH THE SEED: the statements are not yours to turn. If you find one false, say at which input.
  Laid BY PROGRAM, IN A SANDBOX (cutbox-rows.mjs): the forced cells as the released guide's own fill.sh prints them over the translation fc302f06906ba1a3… (all of the seat's roots in one cut). By AI agents, Wed Nov 11 2026. No macro, syntax, notation, axiom, sorry.
-/
import Derived.Test.YtcbolnjnhiaiiaaChecked
import GoSem.Claim
import GoSem.ClaimJoined
import GoSem.ClaimMapViews
import Derived.JoinedTies
import Derived.KernelRfl
namespace Go.Proofs.Ytcbolnjnhiaiiaa
/- THE CELL 'sum', in the pinned program and in every row, IS THE sha256 OF THE DUMP (.gsa) THAT YtcbolnjnhiaiiaaProg.lean LOADS. Nothing in Lean hashes anything: it is a label: what it is worth is what the hold of that sum in a sandbox is worth. -/
noncomputable def Try.pinned : Pinned := { name := "ytcbolnjnhiaiiaa", sum := "fc302f06906ba1a3772262518776cd192479d9393f86214237da1683b0bb2b65", checked := Try.checked }
namespace Rows
def none {H : Type} : Left H := { results := [], args := [] }

/-- 'isochronlaw30.ServiceYields': WHATEVER THE INPUT: true; the input reads as it did. -/
def serviceYieldsSpec : ChangeSpec := { name := "serviceYields", fn := fun _ => fun
  | [d1, d2, d3, d4] => { results := [.lit (.bool true)], args := [d1, d2, d3, d4] }
  | _ => none }
def serviceYieldsRow : OpenClaim := { program := "ytcbolnjnhiaiiaa", sum := "fc302f06906ba1a3772262518776cd192479d9393f86214237da1683b0bb2b65", func := "isochron/isochronlaw30.ServiceYields", spec := "serviceYields", unfollowed := true, recurses := true, apart := false }
def ServiceYieldsSaid : Prop := serviceYieldsRow.holds Try.pinned (OpenSpec.ofChange serviceYieldsSpec)

/-- ITS FALSE NEIGHBOUR: 'it returns false'. Refute it at one input. -/
def serviceYieldsWrong : ChangeSpec := { name := "serviceYields", fn := fun _ => fun
  | [d1, d2, d3, d4] => { results := [.lit (.bool false)], args := [d1, d2, d3, d4] }
  | _ => none }
def ServiceYieldsWrongFalsely : Prop := serviceYieldsRow.holds Try.pinned (OpenSpec.ofChange serviceYieldsWrong)

/-- 'isochronlaw30.ServiceSends': WHATEVER THE INPUT: true; the input reads as it did. -/
def serviceSendsSpec : ChangeSpec := { name := "serviceSends", fn := fun _ => fun
  | [d1, d2, d3, d4, d5] => { results := [.lit (.bool true)], args := [d1, d2, d3, d4, d5] }
  | _ => none }
def serviceSendsRow : OpenClaim := { program := "ytcbolnjnhiaiiaa", sum := "fc302f06906ba1a3772262518776cd192479d9393f86214237da1683b0bb2b65", func := "isochron/isochronlaw30.ServiceSends", spec := "serviceSends", unfollowed := true, recurses := true, apart := false }
def ServiceSendsSaid : Prop := serviceSendsRow.holds Try.pinned (OpenSpec.ofChange serviceSendsSpec)

/-- ITS FALSE NEIGHBOUR: 'it returns false'. Refute it at one input. -/
def serviceSendsWrong : ChangeSpec := { name := "serviceSends", fn := fun _ => fun
  | [d1, d2, d3, d4, d5] => { results := [.lit (.bool false)], args := [d1, d2, d3, d4, d5] }
  | _ => none }
def ServiceSendsWrongFalsely : Prop := serviceSendsRow.holds Try.pinned (OpenSpec.ofChange serviceSendsWrong)

/-- 'isochronlaw30.ServiceRates': WHATEVER THE INPUT: true; the input reads as it did. -/
def serviceRatesSpec : ChangeSpec := { name := "serviceRates", fn := fun _ => fun
  | [d1, d2, d3, d4] => { results := [.lit (.bool true)], args := [d1, d2, d3, d4] }
  | _ => none }
def serviceRatesRow : OpenClaim := { program := "ytcbolnjnhiaiiaa", sum := "fc302f06906ba1a3772262518776cd192479d9393f86214237da1683b0bb2b65", func := "isochron/isochronlaw30.ServiceRates", spec := "serviceRates", unfollowed := true, recurses := true, apart := false }
def ServiceRatesSaid : Prop := serviceRatesRow.holds Try.pinned (OpenSpec.ofChange serviceRatesSpec)

/-- ITS FALSE NEIGHBOUR: 'it returns false'. Refute it at one input. -/
def serviceRatesWrong : ChangeSpec := { name := "serviceRates", fn := fun _ => fun
  | [d1, d2, d3, d4] => { results := [.lit (.bool false)], args := [d1, d2, d3, d4] }
  | _ => none }
def ServiceRatesWrongFalsely : Prop := serviceRatesRow.holds Try.pinned (OpenSpec.ofChange serviceRatesWrong)

/-- 'isochronlaw30.ServiceKnown': WHATEVER THE INPUT: true; the input reads as it did. -/
def serviceKnownSpec : ChangeSpec := { name := "serviceKnown", fn := fun _ => fun
  | [] => { results := [.lit (.bool true)], args := [] }
  | _ => none }
def serviceKnownRow : OpenClaim := { program := "ytcbolnjnhiaiiaa", sum := "fc302f06906ba1a3772262518776cd192479d9393f86214237da1683b0bb2b65", func := "isochron/isochronlaw30.ServiceKnown", spec := "serviceKnown", unfollowed := true, recurses := true, apart := false }
def ServiceKnownSaid : Prop := serviceKnownRow.holds Try.pinned (OpenSpec.ofChange serviceKnownSpec)

/-- ITS FALSE NEIGHBOUR: 'it returns false'. Refute it at one input. -/
def serviceKnownWrong : ChangeSpec := { name := "serviceKnown", fn := fun _ => fun
  | [] => { results := [.lit (.bool false)], args := [] }
  | _ => none }
def ServiceKnownWrongFalsely : Prop := serviceKnownRow.holds Try.pinned (OpenSpec.ofChange serviceKnownWrong)

/-- 'isochronlaw30.ServiceHolds': WHATEVER THE INPUT: true; the input reads as it did. -/
def serviceHoldsSpec : ChangeSpec := { name := "serviceHolds", fn := fun _ => fun
  | [d1, d2, d3, d4, d5] => { results := [.lit (.bool true)], args := [d1, d2, d3, d4, d5] }
  | _ => none }
def serviceHoldsRow : OpenClaim := { program := "ytcbolnjnhiaiiaa", sum := "fc302f06906ba1a3772262518776cd192479d9393f86214237da1683b0bb2b65", func := "isochron/isochronlaw30.ServiceHolds", spec := "serviceHolds", unfollowed := true, recurses := true, apart := false }
def ServiceHoldsSaid : Prop := serviceHoldsRow.holds Try.pinned (OpenSpec.ofChange serviceHoldsSpec)

/-- ITS FALSE NEIGHBOUR: 'it returns false'. Refute it at one input. -/
def serviceHoldsWrong : ChangeSpec := { name := "serviceHolds", fn := fun _ => fun
  | [d1, d2, d3, d4, d5] => { results := [.lit (.bool false)], args := [d1, d2, d3, d4, d5] }
  | _ => none }
def ServiceHoldsWrongFalsely : Prop := serviceHoldsRow.holds Try.pinned (OpenSpec.ofChange serviceHoldsWrong)

/-- 'isochronlaw30.ServiceGrows': WHATEVER THE INPUT: true; the input reads as it did. -/
def serviceGrowsSpec : ChangeSpec := { name := "serviceGrows", fn := fun _ => fun
  | [d1, d2, d3, d4, d5, d6] => { results := [.lit (.bool true)], args := [d1, d2, d3, d4, d5, d6] }
  | _ => none }
def serviceGrowsRow : OpenClaim := { program := "ytcbolnjnhiaiiaa", sum := "fc302f06906ba1a3772262518776cd192479d9393f86214237da1683b0bb2b65", func := "isochron/isochronlaw30.ServiceGrows", spec := "serviceGrows", unfollowed := true, recurses := true, apart := false }
def ServiceGrowsSaid : Prop := serviceGrowsRow.holds Try.pinned (OpenSpec.ofChange serviceGrowsSpec)

/-- ITS FALSE NEIGHBOUR: 'it returns false'. Refute it at one input. -/
def serviceGrowsWrong : ChangeSpec := { name := "serviceGrows", fn := fun _ => fun
  | [d1, d2, d3, d4, d5, d6] => { results := [.lit (.bool false)], args := [d1, d2, d3, d4, d5, d6] }
  | _ => none }
def ServiceGrowsWrongFalsely : Prop := serviceGrowsRow.holds Try.pinned (OpenSpec.ofChange serviceGrowsWrong)

/-- 'isochronlaw30.ServiceCycles': WHATEVER THE INPUT: true; the input reads as it did. -/
def serviceCyclesSpec : ChangeSpec := { name := "serviceCycles", fn := fun _ => fun
  | [d1, d2, d3] => { results := [.lit (.bool true)], args := [d1, d2, d3] }
  | _ => none }
def serviceCyclesRow : OpenClaim := { program := "ytcbolnjnhiaiiaa", sum := "fc302f06906ba1a3772262518776cd192479d9393f86214237da1683b0bb2b65", func := "isochron/isochronlaw30.ServiceCycles", spec := "serviceCycles", unfollowed := true, recurses := true, apart := false }
def ServiceCyclesSaid : Prop := serviceCyclesRow.holds Try.pinned (OpenSpec.ofChange serviceCyclesSpec)

/-- ITS FALSE NEIGHBOUR: 'it returns false'. Refute it at one input. -/
def serviceCyclesWrong : ChangeSpec := { name := "serviceCycles", fn := fun _ => fun
  | [d1, d2, d3] => { results := [.lit (.bool false)], args := [d1, d2, d3] }
  | _ => none }
def ServiceCyclesWrongFalsely : Prop := serviceCyclesRow.holds Try.pinned (OpenSpec.ofChange serviceCyclesWrong)

/- THE SECOND FORM. 'bulk': how many values and letters a reading holds, each counted each time it is reached (what is shared counts as often as it is met; a slice's spare places count too). A statement '..UptoSaid' is the law's where the arguments, and the package variables that the reading takes, are together of bulk at most 1048576: NARROWER than '..Said'. Prove '..Said' where nothing that the law and all that it calls make is longer than what came in: it says more and counts as full. Else prove '..UptoSaid'. A law counts once. -/
mutual
def uptoBulk {H : Type} : DataW H → Nat
  | .lit (.string bytes) => bytes.length + 1
  | .lit _ => 1
  | .nil => 1
  | .ptr d => uptoBulk d + 1
  | .slice elems spare => uptoBulkAll elems + uptoBulkAll spare + 1
  | .agg parts => uptoBulkAll parts + 1
  | .iface _ d => uptoBulk d + 1
  | .map entries => uptoBulkEntries entries + 1
  | .held _ => 1
def uptoBulkAll {H : Type} : List (DataW H) → Nat
  | [] => 0
  | d :: r => uptoBulk d + uptoBulkAll r
def uptoBulkEntries {H : Type} : List (Lit × DataW H) → Nat
  | [] => 0
  | x :: r => uptoBulkEntry x + uptoBulkEntries r
def uptoBulkEntry {H : Type} : Lit × DataW H → Nat
  | (.string bytes, d) => bytes.length + uptoBulk d + 1
  | (_, d) => uptoBulk d + 1
 end
def uptoSmall : (H : Type) → List (DataW H) → Bool := fun _ ds => decide (uptoBulkAll ds ≤ 1048576)
def OpenSpec.upto (s : _root_.Go.ChangeSpec) : _root_.Go.OpenSpec := { _root_.Go.OpenSpec.ofChange s with cond := some uptoSmall }

/-- 'isochronlaw30.ServiceYields', WHERE WHAT IT READS IS OF BULK AT MOST 1048576: true; the input reads as it did. -/
def serviceYieldsUptoRow : OpenClaim := { program := "ytcbolnjnhiaiiaa", sum := "fc302f06906ba1a3772262518776cd192479d9393f86214237da1683b0bb2b65", func := "isochron/isochronlaw30.ServiceYields", spec := "serviceYields", unfollowed := true, recurses := true, apart := false, narrowed := true }
def ServiceYieldsUptoSaid : Prop := serviceYieldsUptoRow.holds Try.pinned (OpenSpec.upto serviceYieldsSpec)

/-- 'isochronlaw30.ServiceSends', WHERE WHAT IT READS IS OF BULK AT MOST 1048576: true; the input reads as it did. -/
def serviceSendsUptoRow : OpenClaim := { program := "ytcbolnjnhiaiiaa", sum := "fc302f06906ba1a3772262518776cd192479d9393f86214237da1683b0bb2b65", func := "isochron/isochronlaw30.ServiceSends", spec := "serviceSends", unfollowed := true, recurses := true, apart := false, narrowed := true }
def ServiceSendsUptoSaid : Prop := serviceSendsUptoRow.holds Try.pinned (OpenSpec.upto serviceSendsSpec)

/-- 'isochronlaw30.ServiceRates', WHERE WHAT IT READS IS OF BULK AT MOST 1048576: true; the input reads as it did. -/
def serviceRatesUptoRow : OpenClaim := { program := "ytcbolnjnhiaiiaa", sum := "fc302f06906ba1a3772262518776cd192479d9393f86214237da1683b0bb2b65", func := "isochron/isochronlaw30.ServiceRates", spec := "serviceRates", unfollowed := true, recurses := true, apart := false, narrowed := true }
def ServiceRatesUptoSaid : Prop := serviceRatesUptoRow.holds Try.pinned (OpenSpec.upto serviceRatesSpec)

/-- 'isochronlaw30.ServiceKnown', WHERE WHAT IT READS IS OF BULK AT MOST 1048576: true; the input reads as it did. -/
def serviceKnownUptoRow : OpenClaim := { program := "ytcbolnjnhiaiiaa", sum := "fc302f06906ba1a3772262518776cd192479d9393f86214237da1683b0bb2b65", func := "isochron/isochronlaw30.ServiceKnown", spec := "serviceKnown", unfollowed := true, recurses := true, apart := false, narrowed := true }
def ServiceKnownUptoSaid : Prop := serviceKnownUptoRow.holds Try.pinned (OpenSpec.upto serviceKnownSpec)

/-- 'isochronlaw30.ServiceHolds', WHERE WHAT IT READS IS OF BULK AT MOST 1048576: true; the input reads as it did. -/
def serviceHoldsUptoRow : OpenClaim := { program := "ytcbolnjnhiaiiaa", sum := "fc302f06906ba1a3772262518776cd192479d9393f86214237da1683b0bb2b65", func := "isochron/isochronlaw30.ServiceHolds", spec := "serviceHolds", unfollowed := true, recurses := true, apart := false, narrowed := true }
def ServiceHoldsUptoSaid : Prop := serviceHoldsUptoRow.holds Try.pinned (OpenSpec.upto serviceHoldsSpec)

/-- 'isochronlaw30.ServiceGrows', WHERE WHAT IT READS IS OF BULK AT MOST 1048576: true; the input reads as it did. -/
def serviceGrowsUptoRow : OpenClaim := { program := "ytcbolnjnhiaiiaa", sum := "fc302f06906ba1a3772262518776cd192479d9393f86214237da1683b0bb2b65", func := "isochron/isochronlaw30.ServiceGrows", spec := "serviceGrows", unfollowed := true, recurses := true, apart := false, narrowed := true }
def ServiceGrowsUptoSaid : Prop := serviceGrowsUptoRow.holds Try.pinned (OpenSpec.upto serviceGrowsSpec)

/-- 'isochronlaw30.ServiceCycles', WHERE WHAT IT READS IS OF BULK AT MOST 1048576: true; the input reads as it did. -/
def serviceCyclesUptoRow : OpenClaim := { program := "ytcbolnjnhiaiiaa", sum := "fc302f06906ba1a3772262518776cd192479d9393f86214237da1683b0bb2b65", func := "isochron/isochronlaw30.ServiceCycles", spec := "serviceCycles", unfollowed := true, recurses := true, apart := false, narrowed := true }
def ServiceCyclesUptoSaid : Prop := serviceCyclesUptoRow.holds Try.pinned (OpenSpec.upto serviceCyclesSpec)

end Rows
end Go.Proofs.Ytcbolnjnhiaiiaa
