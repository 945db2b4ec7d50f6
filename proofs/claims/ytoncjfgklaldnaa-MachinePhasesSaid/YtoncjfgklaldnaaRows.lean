/-
  No cell of these rows narrows 'for every input' (looked for: loops, veiled, ifaces, maps, wideKeys, modest, calm, conditions, laid).
  DERIVED. THE GIVEN ROWS OF THIS SEAT. 8 by the template 'for every input the law returns true; each argument reads behind the call as it read before'; 0 by the template 'total and deterministic' (their statements: YtoncjfgklaldnaaTotals.lean).
  GIVEN WITH THE SEED: the statements are not yours to turn. If you find one false, say at which input.
  Laid BY PROGRAM, IN A SANDBOX (cutbox-rows.mjs): the forced cells as the released guide's own fill.sh prints them over the translation f6e39f0b2807b05a… (all of the seat's roots in one cut). By AI agents, Wed Nov 11 2026. No macro, syntax, notation, axiom, sorry.
-/
import Derived.Test.YtoncjfgklaldnaaChecked
import GoSem.Claim
import GoSem.ClaimJoined
import GoSem.ClaimMapViews
import Derived.JoinedTies
import Derived.KernelRfl
namespace Go.Proofs.Ytoncjfgklaldnaa
/- THE CELL 'sum', in the pinned program and in every row, IS THE sha256 OF THE DUMP (.gsa) THAT YtoncjfgklaldnaaProg.lean LOADS. Nothing in Lean hashes anything: it is a label: what it is worth is what the hold of that sum in a sandbox is worth. -/
noncomputable def Try.pinned : Pinned := { name := "ytoncjfgklaldnaa", sum := "f6e39f0b2807b05a8864355b9982820a29b2e2c2f933ae6eebeeeb672d5c37a6", checked := Try.checked }
namespace Rows
def none {H : Type} : Left H := { results := [], args := [] }

/-- 'papermilllaw30.MachineNext': WHATEVER THE INPUT: true; the input reads as it did. -/
def machineNextSpec : ChangeSpec := { name := "machineNext", fn := fun _ => fun
  | [d1, d2] => { results := [.lit (.bool true)], args := [d1, d2] }
  | _ => none }
def machineNextRow : OpenClaim := { program := "ytoncjfgklaldnaa", sum := "f6e39f0b2807b05a8864355b9982820a29b2e2c2f933ae6eebeeeb672d5c37a6", func := "papermill/papermilllaw30.MachineNext", spec := "machineNext", unfollowed := true, recurses := true, apart := false }
def MachineNextSaid : Prop := machineNextRow.holds Try.pinned (OpenSpec.ofChange machineNextSpec)

/-- ITS FALSE NEIGHBOUR: 'it returns false'. Refute it at one input. -/
def machineNextWrong : ChangeSpec := { name := "machineNext", fn := fun _ => fun
  | [d1, d2] => { results := [.lit (.bool false)], args := [d1, d2] }
  | _ => none }
def MachineNextWrongFalsely : Prop := machineNextRow.holds Try.pinned (OpenSpec.ofChange machineNextWrong)

/-- 'papermilllaw30.MachineChecks': WHATEVER THE INPUT: true; the input reads as it did. -/
def machineChecksSpec : ChangeSpec := { name := "machineChecks", fn := fun _ => fun
  | [d1, d2] => { results := [.lit (.bool true)], args := [d1, d2] }
  | _ => none }
def machineChecksRow : OpenClaim := { program := "ytoncjfgklaldnaa", sum := "f6e39f0b2807b05a8864355b9982820a29b2e2c2f933ae6eebeeeb672d5c37a6", func := "papermill/papermilllaw30.MachineChecks", spec := "machineChecks", unfollowed := true, recurses := true, apart := false }
def MachineChecksSaid : Prop := machineChecksRow.holds Try.pinned (OpenSpec.ofChange machineChecksSpec)

/-- ITS FALSE NEIGHBOUR: 'it returns false'. Refute it at one input. -/
def machineChecksWrong : ChangeSpec := { name := "machineChecks", fn := fun _ => fun
  | [d1, d2] => { results := [.lit (.bool false)], args := [d1, d2] }
  | _ => none }
def MachineChecksWrongFalsely : Prop := machineChecksRow.holds Try.pinned (OpenSpec.ofChange machineChecksWrong)

/-- 'papermilllaw30.MachineStates': WHATEVER THE INPUT: true; the input reads as it did. -/
def machineStatesSpec : ChangeSpec := { name := "machineStates", fn := fun _ => fun
  | [d1, d2, d3] => { results := [.lit (.bool true)], args := [d1, d2, d3] }
  | _ => none }
def machineStatesRow : OpenClaim := { program := "ytoncjfgklaldnaa", sum := "f6e39f0b2807b05a8864355b9982820a29b2e2c2f933ae6eebeeeb672d5c37a6", func := "papermill/papermilllaw30.MachineStates", spec := "machineStates", unfollowed := true, recurses := true, apart := false }
def MachineStatesSaid : Prop := machineStatesRow.holds Try.pinned (OpenSpec.ofChange machineStatesSpec)

/-- ITS FALSE NEIGHBOUR: 'it returns false'. Refute it at one input. -/
def machineStatesWrong : ChangeSpec := { name := "machineStates", fn := fun _ => fun
  | [d1, d2, d3] => { results := [.lit (.bool false)], args := [d1, d2, d3] }
  | _ => none }
def MachineStatesWrongFalsely : Prop := machineStatesRow.holds Try.pinned (OpenSpec.ofChange machineStatesWrong)

/-- 'papermilllaw30.MachineThreads': WHATEVER THE INPUT: true; the input reads as it did. -/
def machineThreadsSpec : ChangeSpec := { name := "machineThreads", fn := fun _ => fun
  | [d1, d2] => { results := [.lit (.bool true)], args := [d1, d2] }
  | _ => none }
def machineThreadsRow : OpenClaim := { program := "ytoncjfgklaldnaa", sum := "f6e39f0b2807b05a8864355b9982820a29b2e2c2f933ae6eebeeeb672d5c37a6", func := "papermill/papermilllaw30.MachineThreads", spec := "machineThreads", unfollowed := true, recurses := true, apart := false }
def MachineThreadsSaid : Prop := machineThreadsRow.holds Try.pinned (OpenSpec.ofChange machineThreadsSpec)

/-- ITS FALSE NEIGHBOUR: 'it returns false'. Refute it at one input. -/
def machineThreadsWrong : ChangeSpec := { name := "machineThreads", fn := fun _ => fun
  | [d1, d2] => { results := [.lit (.bool false)], args := [d1, d2] }
  | _ => none }
def MachineThreadsWrongFalsely : Prop := machineThreadsRow.holds Try.pinned (OpenSpec.ofChange machineThreadsWrong)

/-- 'papermilllaw30.MachineDivides': WHATEVER THE INPUT: true; the input reads as it did. -/
def machineDividesSpec : ChangeSpec := { name := "machineDivides", fn := fun _ => fun
  | [d1, d2, d3] => { results := [.lit (.bool true)], args := [d1, d2, d3] }
  | _ => none }
def machineDividesRow : OpenClaim := { program := "ytoncjfgklaldnaa", sum := "f6e39f0b2807b05a8864355b9982820a29b2e2c2f933ae6eebeeeb672d5c37a6", func := "papermill/papermilllaw30.MachineDivides", spec := "machineDivides", unfollowed := true, recurses := true, apart := false }
def MachineDividesSaid : Prop := machineDividesRow.holds Try.pinned (OpenSpec.ofChange machineDividesSpec)

/-- ITS FALSE NEIGHBOUR: 'it returns false'. Refute it at one input. -/
def machineDividesWrong : ChangeSpec := { name := "machineDivides", fn := fun _ => fun
  | [d1, d2, d3] => { results := [.lit (.bool false)], args := [d1, d2, d3] }
  | _ => none }
def MachineDividesWrongFalsely : Prop := machineDividesRow.holds Try.pinned (OpenSpec.ofChange machineDividesWrong)

/-- 'papermilllaw30.MachineStopped': WHATEVER THE INPUT: true; the input reads as it did. -/
def machineStoppedSpec : ChangeSpec := { name := "machineStopped", fn := fun _ => fun
  | [d1, d2, d3] => { results := [.lit (.bool true)], args := [d1, d2, d3] }
  | _ => none }
def machineStoppedRow : OpenClaim := { program := "ytoncjfgklaldnaa", sum := "f6e39f0b2807b05a8864355b9982820a29b2e2c2f933ae6eebeeeb672d5c37a6", func := "papermill/papermilllaw30.MachineStopped", spec := "machineStopped", unfollowed := true, recurses := true, apart := false }
def MachineStoppedSaid : Prop := machineStoppedRow.holds Try.pinned (OpenSpec.ofChange machineStoppedSpec)

/-- ITS FALSE NEIGHBOUR: 'it returns false'. Refute it at one input. -/
def machineStoppedWrong : ChangeSpec := { name := "machineStopped", fn := fun _ => fun
  | [d1, d2, d3] => { results := [.lit (.bool false)], args := [d1, d2, d3] }
  | _ => none }
def MachineStoppedWrongFalsely : Prop := machineStoppedRow.holds Try.pinned (OpenSpec.ofChange machineStoppedWrong)

/-- 'papermilllaw30.MachineStops': WHATEVER THE INPUT: true; the input reads as it did. -/
def machineStopsSpec : ChangeSpec := { name := "machineStops", fn := fun _ => fun
  | [d1, d2, d3] => { results := [.lit (.bool true)], args := [d1, d2, d3] }
  | _ => none }
def machineStopsRow : OpenClaim := { program := "ytoncjfgklaldnaa", sum := "f6e39f0b2807b05a8864355b9982820a29b2e2c2f933ae6eebeeeb672d5c37a6", func := "papermill/papermilllaw30.MachineStops", spec := "machineStops", unfollowed := true, recurses := true, apart := false }
def MachineStopsSaid : Prop := machineStopsRow.holds Try.pinned (OpenSpec.ofChange machineStopsSpec)

/-- ITS FALSE NEIGHBOUR: 'it returns false'. Refute it at one input. -/
def machineStopsWrong : ChangeSpec := { name := "machineStops", fn := fun _ => fun
  | [d1, d2, d3] => { results := [.lit (.bool false)], args := [d1, d2, d3] }
  | _ => none }
def MachineStopsWrongFalsely : Prop := machineStopsRow.holds Try.pinned (OpenSpec.ofChange machineStopsWrong)

/-- 'papermilllaw30.MachinePhases': WHATEVER THE INPUT: true; the input reads as it did. -/
def machinePhasesSpec : ChangeSpec := { name := "machinePhases", fn := fun _ => fun
  | [d1, d2, d3] => { results := [.lit (.bool true)], args := [d1, d2, d3] }
  | _ => none }
def machinePhasesRow : OpenClaim := { program := "ytoncjfgklaldnaa", sum := "f6e39f0b2807b05a8864355b9982820a29b2e2c2f933ae6eebeeeb672d5c37a6", func := "papermill/papermilllaw30.MachinePhases", spec := "machinePhases", unfollowed := true, recurses := true, apart := false }
def MachinePhasesSaid : Prop := machinePhasesRow.holds Try.pinned (OpenSpec.ofChange machinePhasesSpec)

/-- ITS FALSE NEIGHBOUR: 'it returns false'. Refute it at one input. -/
def machinePhasesWrong : ChangeSpec := { name := "machinePhases", fn := fun _ => fun
  | [d1, d2, d3] => { results := [.lit (.bool false)], args := [d1, d2, d3] }
  | _ => none }
def MachinePhasesWrongFalsely : Prop := machinePhasesRow.holds Try.pinned (OpenSpec.ofChange machinePhasesWrong)

/- THE SECOND FORM. 'bulk': how many values and letters a reading holds, each counted each time it is reached (what is shared counts as often as it is met; a slice's spare places count too). A statement '..UptoSaid' is the law's where the arguments, and the package variables that the reading takes, are together of bulk at most 1048576: NARROWER than '..Said'. Prove '..Said' where nothing that the law and all that it calls make is longer than what came in: it says more and counts as full. Else prove '..UptoSaid'. A law counts once. -/
mutual
def uptoBulk {H : Type} : DataW H → Nat
  | .lit (.string bytes) => bytes.length + 1
  | .lit _ => 1
  | .nil => 1
  | .ptr d => uptoBulk d + 1
  | .slice elems spare => uptoBulkAll elems + uptoBulkAll spare + 1
  | .agg parts => uptoBulkAll parts + 1
  | .iface _ d => uptoBulk d + 1
  | .map entries => uptoBulkEntries entries + 1
  | .held _ => 1
def uptoBulkAll {H : Type} : List (DataW H) → Nat
  | [] => 0
  | d :: r => uptoBulk d + uptoBulkAll r
def uptoBulkEntries {H : Type} : List (Lit × DataW H) → Nat
  | [] => 0
  | x :: r => uptoBulkEntry x + uptoBulkEntries r
def uptoBulkEntry {H : Type} : Lit × DataW H → Nat
  | (.string bytes, d) => bytes.length + uptoBulk d + 1
  | (_, d) => uptoBulk d + 1
 end
def uptoSmall : (H : Type) → List (DataW H) → Bool := fun _ ds => decide (uptoBulkAll ds ≤ 1048576)
def OpenSpec.upto (s : _root_.Go.ChangeSpec) : _root_.Go.OpenSpec := { _root_.Go.OpenSpec.ofChange s with cond := some uptoSmall }

/-- 'papermilllaw30.MachineNext', WHERE WHAT IT READS IS OF BULK AT MOST 1048576: true; the input reads as it did. -/
def machineNextUptoRow : OpenClaim := { program := "ytoncjfgklaldnaa", sum := "f6e39f0b2807b05a8864355b9982820a29b2e2c2f933ae6eebeeeb672d5c37a6", func := "papermill/papermilllaw30.MachineNext", spec := "machineNext", unfollowed := true, recurses := true, apart := false, narrowed := true }
def MachineNextUptoSaid : Prop := machineNextUptoRow.holds Try.pinned (OpenSpec.upto machineNextSpec)

/-- 'papermilllaw30.MachineChecks', WHERE WHAT IT READS IS OF BULK AT MOST 1048576: true; the input reads as it did. -/
def machineChecksUptoRow : OpenClaim := { program := "ytoncjfgklaldnaa", sum := "f6e39f0b2807b05a8864355b9982820a29b2e2c2f933ae6eebeeeb672d5c37a6", func := "papermill/papermilllaw30.MachineChecks", spec := "machineChecks", unfollowed := true, recurses := true, apart := false, narrowed := true }
def MachineChecksUptoSaid : Prop := machineChecksUptoRow.holds Try.pinned (OpenSpec.upto machineChecksSpec)

/-- 'papermilllaw30.MachineStates', WHERE WHAT IT READS IS OF BULK AT MOST 1048576: true; the input reads as it did. -/
def machineStatesUptoRow : OpenClaim := { program := "ytoncjfgklaldnaa", sum := "f6e39f0b2807b05a8864355b9982820a29b2e2c2f933ae6eebeeeb672d5c37a6", func := "papermill/papermilllaw30.MachineStates", spec := "machineStates", unfollowed := true, recurses := true, apart := false, narrowed := true }
def MachineStatesUptoSaid : Prop := machineStatesUptoRow.holds Try.pinned (OpenSpec.upto machineStatesSpec)

/-- 'papermilllaw30.MachineThreads', WHERE WHAT IT READS IS OF BULK AT MOST 1048576: true; the input reads as it did. -/
def machineThreadsUptoRow : OpenClaim := { program := "ytoncjfgklaldnaa", sum := "f6e39f0b2807b05a8864355b9982820a29b2e2c2f933ae6eebeeeb672d5c37a6", func := "papermill/papermilllaw30.MachineThreads", spec := "machineThreads", unfollowed := true, recurses := true, apart := false, narrowed := true }
def MachineThreadsUptoSaid : Prop := machineThreadsUptoRow.holds Try.pinned (OpenSpec.upto machineThreadsSpec)

/-- 'papermilllaw30.MachineDivides', WHERE WHAT IT READS IS OF BULK AT MOST 1048576: true; the input reads as it did. -/
def machineDividesUptoRow : OpenClaim := { program := "ytoncjfgklaldnaa", sum := "f6e39f0b2807b05a8864355b9982820a29b2e2c2f933ae6eebeeeb672d5c37a6", func := "papermill/papermilllaw30.MachineDivides", spec := "machineDivides", unfollowed := true, recurses := true, apart := false, narrowed := true }
def MachineDividesUptoSaid : Prop := machineDividesUptoRow.holds Try.pinned (OpenSpec.upto machineDividesSpec)

/-- 'papermilllaw30.MachineStopped', WHERE WHAT IT READS IS OF BULK AT MOST 1048576: true; the input reads as it did. -/
def machineStoppedUptoRow : OpenClaim := { program := "ytoncjfgklaldnaa", sum := "f6e39f0b2807b05a8864355b9982820a29b2e2c2f933ae6eebeeeb672d5c37a6", func := "papermill/papermilllaw30.MachineStopped", spec := "machineStopped", unfollowed := true, recurses := true, apart := false, narrowed := true }
def MachineStoppedUptoSaid : Prop := machineStoppedUptoRow.holds Try.pinned (OpenSpec.upto machineStoppedSpec)

/-- 'papermilllaw30.MachineStops', WHERE WHAT IT READS IS OF BULK AT MOST 1048576: true; the input reads as it did. -/
def machineStopsUptoRow : OpenClaim := { program := "ytoncjfgklaldnaa", sum := "f6e39f0b2807b05a8864355b9982820a29b2e2c2f933ae6eebeeeb672d5c37a6", func := "papermill/papermilllaw30.MachineStops", spec := "machineStops", unfollowed := true, recurses := true, apart := false, narrowed := true }
def MachineStopsUptoSaid : Prop := machineStopsUptoRow.holds Try.pinned (OpenSpec.upto machineStopsSpec)

/-- 'papermilllaw30.MachinePhases', WHERE WHAT IT READS IS OF BULK AT MOST 1048576: true; the input reads as it did. -/
def machinePhasesUptoRow : OpenClaim := { program := "ytoncjfgklaldnaa", sum := "f6e39f0b2807b05a8864355b9982820a29b2e2c2f933ae6eebeeeb672d5c37a6", func := "papermill/papermilllaw30.MachinePhases", spec := "machinePhases", unfollowed := true, recurses := true, apart := false, narrowed := true }
def MachinePhasesUptoSaid : Prop := machinePhasesUptoRow.holds Try.pinned (OpenSpec.upto machinePhasesSpec)

end Rows
end Go.Proofs.Ytoncjfgklaldnaa
