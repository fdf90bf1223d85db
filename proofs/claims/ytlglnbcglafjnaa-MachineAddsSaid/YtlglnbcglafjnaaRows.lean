/-
  No cell of these rows narrows 'for every input' (looked for: loops, veiled, ifaces, maps, wideKeys, modest, calm, conditions, laid).
  DERIVED. THE GIVEN ROWS OF THIS SEAT. 8 by the template 'for every input the law returns true; each argument reads behind the call as it read before'; 0 by the template 'total and deterministic' (their statements: YtlglnbcglafjnaaTotals.lean).
  GIVEN WITH THE SEED: the statements are not yours to turn. If you find one false, say at which input.
  Laid BY PROGRAM, IN A SANDBOX (cutbox-rows.mjs): the forced cells as the released guide's own fill.sh prints them over the translation 38da0f4b940744e0… (all of the seat's roots in one cut). By AI agents, Wed Nov 11 2026. No macro, syntax, notation, axiom, sorry.
-/
import Derived.Test.YtlglnbcglafjnaaChecked
import GoSem.Claim
import GoSem.ClaimJoined
import GoSem.ClaimMapViews
import Derived.JoinedTies
import Derived.KernelRfl
namespace Go.Proofs.Ytlglnbcglafjnaa
/- THE CELL 'sum', in the pinned program and in every row, IS THE sha256 OF THE DUMP (.gsa) THAT YtlglnbcglafjnaaProg.lean LOADS. Nothing in Lean hashes anything: it is a label: what it is worth is what the hold of that sum in a sandbox is worth. -/
noncomputable def Try.pinned : Pinned := { name := "ytlglnbcglafjnaa", sum := "38da0f4b940744e0d8699fb04ee56b786a0505b1dce4e02f3c6564dd48dee2d3", checked := Try.checked }
namespace Rows
def none {H : Type} : Left H := { results := [], args := [] }

/-- 'garmentlaw48.MachineChecks': WHATEVER THE INPUT: true; the input reads as it did. -/
def machineChecksSpec : ChangeSpec := { name := "machineChecks", fn := fun _ => fun
  | [d] => { results := [.lit (.bool true)], args := [d] }
  | _ => none }
def machineChecksRow : OpenClaim := { program := "ytlglnbcglafjnaa", sum := "38da0f4b940744e0d8699fb04ee56b786a0505b1dce4e02f3c6564dd48dee2d3", func := "garment/garmentlaw48.MachineChecks", spec := "machineChecks", unfollowed := true, recurses := true, apart := false }
def MachineChecksSaid : Prop := machineChecksRow.holds Try.pinned (OpenSpec.ofChange machineChecksSpec)

/-- ITS FALSE NEIGHBOUR: 'it returns false'. Refute it at one input. -/
def machineChecksWrong : ChangeSpec := { name := "machineChecks", fn := fun _ => fun
  | [d] => { results := [.lit (.bool false)], args := [d] }
  | _ => none }
def MachineChecksWrongFalsely : Prop := machineChecksRow.holds Try.pinned (OpenSpec.ofChange machineChecksWrong)

/-- 'garmentlaw48.MachineTimes': WHATEVER THE INPUT: true; the input reads as it did. -/
def machineTimesSpec : ChangeSpec := { name := "machineTimes", fn := fun _ => fun
  | [d1, d2, d3, d4] => { results := [.lit (.bool true)], args := [d1, d2, d3, d4] }
  | _ => none }
def machineTimesRow : OpenClaim := { program := "ytlglnbcglafjnaa", sum := "38da0f4b940744e0d8699fb04ee56b786a0505b1dce4e02f3c6564dd48dee2d3", func := "garment/garmentlaw48.MachineTimes", spec := "machineTimes", unfollowed := true, recurses := true, apart := false }
def MachineTimesSaid : Prop := machineTimesRow.holds Try.pinned (OpenSpec.ofChange machineTimesSpec)

/-- ITS FALSE NEIGHBOUR: 'it returns false'. Refute it at one input. -/
def machineTimesWrong : ChangeSpec := { name := "machineTimes", fn := fun _ => fun
  | [d1, d2, d3, d4] => { results := [.lit (.bool false)], args := [d1, d2, d3, d4] }
  | _ => none }
def MachineTimesWrongFalsely : Prop := machineTimesRow.holds Try.pinned (OpenSpec.ofChange machineTimesWrong)

/-- 'garmentlaw48.MachineFinishes': WHATEVER THE INPUT: true; the input reads as it did. -/
def machineFinishesSpec : ChangeSpec := { name := "machineFinishes", fn := fun _ => fun
  | [d1, d2, d3, d4] => { results := [.lit (.bool true)], args := [d1, d2, d3, d4] }
  | _ => none }
def machineFinishesRow : OpenClaim := { program := "ytlglnbcglafjnaa", sum := "38da0f4b940744e0d8699fb04ee56b786a0505b1dce4e02f3c6564dd48dee2d3", func := "garment/garmentlaw48.MachineFinishes", spec := "machineFinishes", unfollowed := true, recurses := true, apart := false }
def MachineFinishesSaid : Prop := machineFinishesRow.holds Try.pinned (OpenSpec.ofChange machineFinishesSpec)

/-- ITS FALSE NEIGHBOUR: 'it returns false'. Refute it at one input. -/
def machineFinishesWrong : ChangeSpec := { name := "machineFinishes", fn := fun _ => fun
  | [d1, d2, d3, d4] => { results := [.lit (.bool false)], args := [d1, d2, d3, d4] }
  | _ => none }
def MachineFinishesWrongFalsely : Prop := machineFinishesRow.holds Try.pinned (OpenSpec.ofChange machineFinishesWrong)

/-- 'garmentlaw48.MachineAdds': WHATEVER THE INPUT: true; the input reads as it did. -/
def machineAddsSpec : ChangeSpec := { name := "machineAdds", fn := fun _ => fun
  | [d1, d2, d3, d4, d5] => { results := [.lit (.bool true)], args := [d1, d2, d3, d4, d5] }
  | _ => none }
def machineAddsRow : OpenClaim := { program := "ytlglnbcglafjnaa", sum := "38da0f4b940744e0d8699fb04ee56b786a0505b1dce4e02f3c6564dd48dee2d3", func := "garment/garmentlaw48.MachineAdds", spec := "machineAdds", unfollowed := true, recurses := true, apart := false }
def MachineAddsSaid : Prop := machineAddsRow.holds Try.pinned (OpenSpec.ofChange machineAddsSpec)

/-- ITS FALSE NEIGHBOUR: 'it returns false'. Refute it at one input. -/
def machineAddsWrong : ChangeSpec := { name := "machineAdds", fn := fun _ => fun
  | [d1, d2, d3, d4, d5] => { results := [.lit (.bool false)], args := [d1, d2, d3, d4, d5] }
  | _ => none }
def MachineAddsWrongFalsely : Prop := machineAddsRow.holds Try.pinned (OpenSpec.ofChange machineAddsWrong)

/-- 'garmentlaw48.MachineExact': WHATEVER THE INPUT: true; the input reads as it did. -/
def machineExactSpec : ChangeSpec := { name := "machineExact", fn := fun _ => fun
  | [d1, d2, d3, d4] => { results := [.lit (.bool true)], args := [d1, d2, d3, d4] }
  | _ => none }
def machineExactRow : OpenClaim := { program := "ytlglnbcglafjnaa", sum := "38da0f4b940744e0d8699fb04ee56b786a0505b1dce4e02f3c6564dd48dee2d3", func := "garment/garmentlaw48.MachineExact", spec := "machineExact", unfollowed := true, recurses := true, apart := false }
def MachineExactSaid : Prop := machineExactRow.holds Try.pinned (OpenSpec.ofChange machineExactSpec)

/-- ITS FALSE NEIGHBOUR: 'it returns false'. Refute it at one input. -/
def machineExactWrong : ChangeSpec := { name := "machineExact", fn := fun _ => fun
  | [d1, d2, d3, d4] => { results := [.lit (.bool false)], args := [d1, d2, d3, d4] }
  | _ => none }
def MachineExactWrongFalsely : Prop := machineExactRow.holds Try.pinned (OpenSpec.ofChange machineExactWrong)

/-- 'garmentlaw48.MachineCounts': WHATEVER THE INPUT: true; the input reads as it did. -/
def machineCountsSpec : ChangeSpec := { name := "machineCounts", fn := fun _ => fun
  | [d1, d2, d3, d4] => { results := [.lit (.bool true)], args := [d1, d2, d3, d4] }
  | _ => none }
def machineCountsRow : OpenClaim := { program := "ytlglnbcglafjnaa", sum := "38da0f4b940744e0d8699fb04ee56b786a0505b1dce4e02f3c6564dd48dee2d3", func := "garment/garmentlaw48.MachineCounts", spec := "machineCounts", unfollowed := true, recurses := true, apart := false }
def MachineCountsSaid : Prop := machineCountsRow.holds Try.pinned (OpenSpec.ofChange machineCountsSpec)

/-- ITS FALSE NEIGHBOUR: 'it returns false'. Refute it at one input. -/
def machineCountsWrong : ChangeSpec := { name := "machineCounts", fn := fun _ => fun
  | [d1, d2, d3, d4] => { results := [.lit (.bool false)], args := [d1, d2, d3, d4] }
  | _ => none }
def MachineCountsWrongFalsely : Prop := machineCountsRow.holds Try.pinned (OpenSpec.ofChange machineCountsWrong)

/-- 'garmentlaw48.MachineOrder': WHATEVER THE INPUT: true; the input reads as it did. -/
def machineOrderSpec : ChangeSpec := { name := "machineOrder", fn := fun _ => fun
  | [d1, d2, d3, d4, d5] => { results := [.lit (.bool true)], args := [d1, d2, d3, d4, d5] }
  | _ => none }
def machineOrderRow : OpenClaim := { program := "ytlglnbcglafjnaa", sum := "38da0f4b940744e0d8699fb04ee56b786a0505b1dce4e02f3c6564dd48dee2d3", func := "garment/garmentlaw48.MachineOrder", spec := "machineOrder", unfollowed := true, recurses := true, apart := false }
def MachineOrderSaid : Prop := machineOrderRow.holds Try.pinned (OpenSpec.ofChange machineOrderSpec)

/-- ITS FALSE NEIGHBOUR: 'it returns false'. Refute it at one input. -/
def machineOrderWrong : ChangeSpec := { name := "machineOrder", fn := fun _ => fun
  | [d1, d2, d3, d4, d5] => { results := [.lit (.bool false)], args := [d1, d2, d3, d4, d5] }
  | _ => none }
def MachineOrderWrongFalsely : Prop := machineOrderRow.holds Try.pinned (OpenSpec.ofChange machineOrderWrong)

/-- 'garmentlaw48.MachineLater': WHATEVER THE INPUT: true; the input reads as it did. -/
def machineLaterSpec : ChangeSpec := { name := "machineLater", fn := fun _ => fun
  | [d1, d2, d3, d4, d5] => { results := [.lit (.bool true)], args := [d1, d2, d3, d4, d5] }
  | _ => none }
def machineLaterRow : OpenClaim := { program := "ytlglnbcglafjnaa", sum := "38da0f4b940744e0d8699fb04ee56b786a0505b1dce4e02f3c6564dd48dee2d3", func := "garment/garmentlaw48.MachineLater", spec := "machineLater", unfollowed := true, recurses := true, apart := false }
def MachineLaterSaid : Prop := machineLaterRow.holds Try.pinned (OpenSpec.ofChange machineLaterSpec)

/-- ITS FALSE NEIGHBOUR: 'it returns false'. Refute it at one input. -/
def machineLaterWrong : ChangeSpec := { name := "machineLater", fn := fun _ => fun
  | [d1, d2, d3, d4, d5] => { results := [.lit (.bool false)], args := [d1, d2, d3, d4, d5] }
  | _ => none }
def MachineLaterWrongFalsely : Prop := machineLaterRow.holds Try.pinned (OpenSpec.ofChange machineLaterWrong)

/- THE SECOND FORM. 'bulk': how many values and letters a reading holds, each counted each time it is reached (what is shared counts as often as it is met; a slice's spare places count too). A statement '..UptoSaid' is the law's where the arguments, and the package variables that the reading takes, are together of bulk at most 1048576: NARROWER than '..Said'. Prove '..Said' where nothing that the law and all that it calls make is longer than what came in: it says more and counts as full. Else prove '..UptoSaid'. A law counts once. -/
mutual
def uptoBulk {H : Type} : DataW H → Nat
  | .lit (.string bytes) => bytes.length + 1
  | .lit _ => 1
  | .nil => 1
  | .ptr d => uptoBulk d + 1
  | .slice elems spare => uptoBulkAll elems + uptoBulkAll spare + 1
  | .agg parts => uptoBulkAll parts + 1
  | .iface _ d => uptoBulk d + 1
  | .map entries => uptoBulkEntries entries + 1
  | .held _ => 1
def uptoBulkAll {H : Type} : List (DataW H) → Nat
  | [] => 0
  | d :: r => uptoBulk d + uptoBulkAll r
def uptoBulkEntries {H : Type} : List (Lit × DataW H) → Nat
  | [] => 0
  | x :: r => uptoBulkEntry x + uptoBulkEntries r
def uptoBulkEntry {H : Type} : Lit × DataW H → Nat
  | (.string bytes, d) => bytes.length + uptoBulk d + 1
  | (_, d) => uptoBulk d + 1
 end
def uptoSmall : (H : Type) → List (DataW H) → Bool := fun _ ds => decide (uptoBulkAll ds ≤ 1048576)
def OpenSpec.upto (s : _root_.Go.ChangeSpec) : _root_.Go.OpenSpec := { _root_.Go.OpenSpec.ofChange s with cond := some uptoSmall }

/-- 'garmentlaw48.MachineChecks', WHERE WHAT IT READS IS OF BULK AT MOST 1048576: true; the input reads as it did. -/
def machineChecksUptoRow : OpenClaim := { program := "ytlglnbcglafjnaa", sum := "38da0f4b940744e0d8699fb04ee56b786a0505b1dce4e02f3c6564dd48dee2d3", func := "garment/garmentlaw48.MachineChecks", spec := "machineChecks", unfollowed := true, recurses := true, apart := false, narrowed := true }
def MachineChecksUptoSaid : Prop := machineChecksUptoRow.holds Try.pinned (OpenSpec.upto machineChecksSpec)

/-- 'garmentlaw48.MachineTimes', WHERE WHAT IT READS IS OF BULK AT MOST 1048576: true; the input reads as it did. -/
def machineTimesUptoRow : OpenClaim := { program := "ytlglnbcglafjnaa", sum := "38da0f4b940744e0d8699fb04ee56b786a0505b1dce4e02f3c6564dd48dee2d3", func := "garment/garmentlaw48.MachineTimes", spec := "machineTimes", unfollowed := true, recurses := true, apart := false, narrowed := true }
def MachineTimesUptoSaid : Prop := machineTimesUptoRow.holds Try.pinned (OpenSpec.upto machineTimesSpec)

/-- 'garmentlaw48.MachineFinishes', WHERE WHAT IT READS IS OF BULK AT MOST 1048576: true; the input reads as it did. -/
def machineFinishesUptoRow : OpenClaim := { program := "ytlglnbcglafjnaa", sum := "38da0f4b940744e0d8699fb04ee56b786a0505b1dce4e02f3c6564dd48dee2d3", func := "garment/garmentlaw48.MachineFinishes", spec := "machineFinishes", unfollowed := true, recurses := true, apart := false, narrowed := true }
def MachineFinishesUptoSaid : Prop := machineFinishesUptoRow.holds Try.pinned (OpenSpec.upto machineFinishesSpec)

/-- 'garmentlaw48.MachineAdds', WHERE WHAT IT READS IS OF BULK AT MOST 1048576: true; the input reads as it did. -/
def machineAddsUptoRow : OpenClaim := { program := "ytlglnbcglafjnaa", sum := "38da0f4b940744e0d8699fb04ee56b786a0505b1dce4e02f3c6564dd48dee2d3", func := "garment/garmentlaw48.MachineAdds", spec := "machineAdds", unfollowed := true, recurses := true, apart := false, narrowed := true }
def MachineAddsUptoSaid : Prop := machineAddsUptoRow.holds Try.pinned (OpenSpec.upto machineAddsSpec)

/-- 'garmentlaw48.MachineExact', WHERE WHAT IT READS IS OF BULK AT MOST 1048576: true; the input reads as it did. -/
def machineExactUptoRow : OpenClaim := { program := "ytlglnbcglafjnaa", sum := "38da0f4b940744e0d8699fb04ee56b786a0505b1dce4e02f3c6564dd48dee2d3", func := "garment/garmentlaw48.MachineExact", spec := "machineExact", unfollowed := true, recurses := true, apart := false, narrowed := true }
def MachineExactUptoSaid : Prop := machineExactUptoRow.holds Try.pinned (OpenSpec.upto machineExactSpec)

/-- 'garmentlaw48.MachineCounts', WHERE WHAT IT READS IS OF BULK AT MOST 1048576: true; the input reads as it did. -/
def machineCountsUptoRow : OpenClaim := { program := "ytlglnbcglafjnaa", sum := "38da0f4b940744e0d8699fb04ee56b786a0505b1dce4e02f3c6564dd48dee2d3", func := "garment/garmentlaw48.MachineCounts", spec := "machineCounts", unfollowed := true, recurses := true, apart := false, narrowed := true }
def MachineCountsUptoSaid : Prop := machineCountsUptoRow.holds Try.pinned (OpenSpec.upto machineCountsSpec)

/-- 'garmentlaw48.MachineOrder', WHERE WHAT IT READS IS OF BULK AT MOST 1048576: true; the input reads as it did. -/
def machineOrderUptoRow : OpenClaim := { program := "ytlglnbcglafjnaa", sum := "38da0f4b940744e0d8699fb04ee56b786a0505b1dce4e02f3c6564dd48dee2d3", func := "garment/garmentlaw48.MachineOrder", spec := "machineOrder", unfollowed := true, recurses := true, apart := false, narrowed := true }
def MachineOrderUptoSaid : Prop := machineOrderUptoRow.holds Try.pinned (OpenSpec.upto machineOrderSpec)

/-- 'garmentlaw48.MachineLater', WHERE WHAT IT READS IS OF BULK AT MOST 1048576: true; the input reads as it did. -/
def machineLaterUptoRow : OpenClaim := { program := "ytlglnbcglafjnaa", sum := "38da0f4b940744e0d8699fb04ee56b786a0505b1dce4e02f3c6564dd48dee2d3", func := "garment/garmentlaw48.MachineLater", spec := "machineLater", unfollowed := true, recurses := true, apart := false, narrowed := true }
def MachineLaterUptoSaid : Prop := machineLaterUptoRow.holds Try.pinned (OpenSpec.upto machineLaterSpec)

end Rows
end Go.Proofs.Ytlglnbcglafjnaa
