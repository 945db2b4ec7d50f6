/-
  No cell of these rows narrows 'for every input' (looked for: loops, veiled, ifaces, maps, wideKeys, modest, calm, conditions, laid).
  DERIVED. THE GIVEN ROWS OF THIS SEAT. 7 by the template 'for every input the law returns true; each argument reads behind the call as it read before'; 0 by the template 'total and deterministic' (their statements: YthdbnoeaiafniaaTotals.lean).
  GIVEN WITH THE SEED: the statements are not yours to turn. If you find one false, say at which input.
  Laid BY PROGRAM, IN A SANDBOX (cutbox-rows.mjs): the forced cells as the released guide's own fill.sh prints them over the translation 54f13b6c09ffdda1… (all of the seat's roots in one cut). By AI agents, Wed Nov 11 2026. No macro, syntax, notation, axiom, sorry.
-/
import Derived.Test.YthdbnoeaiafniaaChecked
import GoSem.Claim
import GoSem.ClaimJoined
import GoSem.ClaimMapViews
import Derived.JoinedTies
import Derived.KernelRfl
namespace Go.Proofs.Ythdbnoeaiafniaa
/- THE CELL 'sum', in the pinned program and in every row, IS THE sha256 OF THE DUMP (.gsa) THAT YthdbnoeaiafniaaProg.lean LOADS. Nothing in Lean hashes anything: it is a label: what it is worth is what the hold of that sum in a sandbox is worth. -/
noncomputable def Try.pinned : Pinned := { name := "ythdbnoeaiafniaa", sum := "54f13b6c09ffdda1c447c4d14b82c40c475ae329df2a178185f06f28df11019a", checked := Try.checked }
namespace Rows
def none {H : Type} : Left H := { results := [], args := [] }

/-- 'papermilllaw50.WinderCapacity': WHATEVER THE INPUT: true; the input reads as it did. -/
def winderCapacitySpec : ChangeSpec := { name := "winderCapacity", fn := fun _ => fun
  | [d1, d2, d3] => { results := [.lit (.bool true)], args := [d1, d2, d3] }
  | _ => none }
def winderCapacityRow : OpenClaim := { program := "ythdbnoeaiafniaa", sum := "54f13b6c09ffdda1c447c4d14b82c40c475ae329df2a178185f06f28df11019a", func := "papermill/papermilllaw50.WinderCapacity", spec := "winderCapacity", apart := false }
def WinderCapacitySaid : Prop := winderCapacityRow.holds Try.pinned (OpenSpec.ofChange winderCapacitySpec)

/-- ITS FALSE NEIGHBOUR: 'it returns false'. Refute it at one input. -/
def winderCapacityWrong : ChangeSpec := { name := "winderCapacity", fn := fun _ => fun
  | [d1, d2, d3] => { results := [.lit (.bool false)], args := [d1, d2, d3] }
  | _ => none }
def WinderCapacityWrongFalsely : Prop := winderCapacityRow.holds Try.pinned (OpenSpec.ofChange winderCapacityWrong)

/-- 'papermilllaw50.WinderPlans': WHATEVER THE INPUT: true; the input reads as it did. -/
def winderPlansSpec : ChangeSpec := { name := "winderPlans", fn := fun _ => fun
  | [d1, d2, d3] => { results := [.lit (.bool true)], args := [d1, d2, d3] }
  | _ => none }
def winderPlansRow : OpenClaim := { program := "ythdbnoeaiafniaa", sum := "54f13b6c09ffdda1c447c4d14b82c40c475ae329df2a178185f06f28df11019a", func := "papermill/papermilllaw50.WinderPlans", spec := "winderPlans", apart := false }
def WinderPlansSaid : Prop := winderPlansRow.holds Try.pinned (OpenSpec.ofChange winderPlansSpec)

/-- ITS FALSE NEIGHBOUR: 'it returns false'. Refute it at one input. -/
def winderPlansWrong : ChangeSpec := { name := "winderPlans", fn := fun _ => fun
  | [d1, d2, d3] => { results := [.lit (.bool false)], args := [d1, d2, d3] }
  | _ => none }
def WinderPlansWrongFalsely : Prop := winderPlansRow.holds Try.pinned (OpenSpec.ofChange winderPlansWrong)

/-- 'papermilllaw50.WinderLeft': WHATEVER THE INPUT: true; the input reads as it did. -/
def winderLeftSpec : ChangeSpec := { name := "winderLeft", fn := fun _ => fun
  | [d1, d2, d3] => { results := [.lit (.bool true)], args := [d1, d2, d3] }
  | _ => none }
def winderLeftRow : OpenClaim := { program := "ythdbnoeaiafniaa", sum := "54f13b6c09ffdda1c447c4d14b82c40c475ae329df2a178185f06f28df11019a", func := "papermill/papermilllaw50.WinderLeft", spec := "winderLeft", apart := false }
def WinderLeftSaid : Prop := winderLeftRow.holds Try.pinned (OpenSpec.ofChange winderLeftSpec)

/-- ITS FALSE NEIGHBOUR: 'it returns false'. Refute it at one input. -/
def winderLeftWrong : ChangeSpec := { name := "winderLeft", fn := fun _ => fun
  | [d1, d2, d3] => { results := [.lit (.bool false)], args := [d1, d2, d3] }
  | _ => none }
def WinderLeftWrongFalsely : Prop := winderLeftRow.holds Try.pinned (OpenSpec.ofChange winderLeftWrong)

/-- 'papermilllaw50.WinderJobs': WHATEVER THE INPUT: true; the input reads as it did. -/
def winderJobsSpec : ChangeSpec := { name := "winderJobs", fn := fun _ => fun
  | [d1, d2, d3] => { results := [.lit (.bool true)], args := [d1, d2, d3] }
  | _ => none }
def winderJobsRow : OpenClaim := { program := "ythdbnoeaiafniaa", sum := "54f13b6c09ffdda1c447c4d14b82c40c475ae329df2a178185f06f28df11019a", func := "papermill/papermilllaw50.WinderJobs", spec := "winderJobs", apart := false }
def WinderJobsSaid : Prop := winderJobsRow.holds Try.pinned (OpenSpec.ofChange winderJobsSpec)

/-- ITS FALSE NEIGHBOUR: 'it returns false'. Refute it at one input. -/
def winderJobsWrong : ChangeSpec := { name := "winderJobs", fn := fun _ => fun
  | [d1, d2, d3] => { results := [.lit (.bool false)], args := [d1, d2, d3] }
  | _ => none }
def WinderJobsWrongFalsely : Prop := winderJobsRow.holds Try.pinned (OpenSpec.ofChange winderJobsWrong)

/-- 'papermilllaw50.WinderSets': WHATEVER THE INPUT: true; the input reads as it did. -/
def winderSetsSpec : ChangeSpec := { name := "winderSets", fn := fun _ => fun
  | [d1, d2, d3] => { results := [.lit (.bool true)], args := [d1, d2, d3] }
  | _ => none }
def winderSetsRow : OpenClaim := { program := "ythdbnoeaiafniaa", sum := "54f13b6c09ffdda1c447c4d14b82c40c475ae329df2a178185f06f28df11019a", func := "papermill/papermilllaw50.WinderSets", spec := "winderSets", apart := false }
def WinderSetsSaid : Prop := winderSetsRow.holds Try.pinned (OpenSpec.ofChange winderSetsSpec)

/-- ITS FALSE NEIGHBOUR: 'it returns false'. Refute it at one input. -/
def winderSetsWrong : ChangeSpec := { name := "winderSets", fn := fun _ => fun
  | [d1, d2, d3] => { results := [.lit (.bool false)], args := [d1, d2, d3] }
  | _ => none }
def WinderSetsWrongFalsely : Prop := winderSetsRow.holds Try.pinned (OpenSpec.ofChange winderSetsWrong)

/-- 'papermilllaw50.WinderSum': WHATEVER THE INPUT: true; the input reads as it did. -/
def winderSumSpec : ChangeSpec := { name := "winderSum", fn := fun _ => fun
  | [d1, d2, d3] => { results := [.lit (.bool true)], args := [d1, d2, d3] }
  | _ => none }
def winderSumRow : OpenClaim := { program := "ythdbnoeaiafniaa", sum := "54f13b6c09ffdda1c447c4d14b82c40c475ae329df2a178185f06f28df11019a", func := "papermill/papermilllaw50.WinderSum", spec := "winderSum", apart := false }
def WinderSumSaid : Prop := winderSumRow.holds Try.pinned (OpenSpec.ofChange winderSumSpec)

/-- ITS FALSE NEIGHBOUR: 'it returns false'. Refute it at one input. -/
def winderSumWrong : ChangeSpec := { name := "winderSum", fn := fun _ => fun
  | [d1, d2, d3] => { results := [.lit (.bool false)], args := [d1, d2, d3] }
  | _ => none }
def WinderSumWrongFalsely : Prop := winderSumRow.holds Try.pinned (OpenSpec.ofChange winderSumWrong)

/-- 'papermilllaw50.WinderMore': WHATEVER THE INPUT: true; the input reads as it did. -/
def winderMoreSpec : ChangeSpec := { name := "winderMore", fn := fun _ => fun
  | [d1, d2, d3] => { results := [.lit (.bool true)], args := [d1, d2, d3] }
  | _ => none }
def winderMoreRow : OpenClaim := { program := "ythdbnoeaiafniaa", sum := "54f13b6c09ffdda1c447c4d14b82c40c475ae329df2a178185f06f28df11019a", func := "papermill/papermilllaw50.WinderMore", spec := "winderMore", apart := false }
def WinderMoreSaid : Prop := winderMoreRow.holds Try.pinned (OpenSpec.ofChange winderMoreSpec)

/-- ITS FALSE NEIGHBOUR: 'it returns false'. Refute it at one input. -/
def winderMoreWrong : ChangeSpec := { name := "winderMore", fn := fun _ => fun
  | [d1, d2, d3] => { results := [.lit (.bool false)], args := [d1, d2, d3] }
  | _ => none }
def WinderMoreWrongFalsely : Prop := winderMoreRow.holds Try.pinned (OpenSpec.ofChange winderMoreWrong)

/- THE SECOND FORM. 'bulk': how many values and letters a reading holds, each counted each time it is reached (what is shared counts as often as it is met; a slice's spare places count too). A statement '..UptoSaid' is the law's where the arguments, and the package variables that the reading takes, are together of bulk at most 1048576: NARROWER than '..Said'. Prove '..Said' where nothing that the law and all that it calls make is longer than what came in: it says more and counts as full. Else prove '..UptoSaid'. A law counts once. -/
mutual
def uptoBulk {H : Type} : DataW H → Nat
  | .lit (.string bytes) => bytes.length + 1
  | .lit _ => 1
  | .nil => 1
  | .ptr d => uptoBulk d + 1
  | .slice elems spare => uptoBulkAll elems + uptoBulkAll spare + 1
  | .agg parts => uptoBulkAll parts + 1
  | .iface _ d => uptoBulk d + 1
  | .map entries => uptoBulkEntries entries + 1
  | .held _ => 1
def uptoBulkAll {H : Type} : List (DataW H) → Nat
  | [] => 0
  | d :: r => uptoBulk d + uptoBulkAll r
def uptoBulkEntries {H : Type} : List (Lit × DataW H) → Nat
  | [] => 0
  | x :: r => uptoBulkEntry x + uptoBulkEntries r
def uptoBulkEntry {H : Type} : Lit × DataW H → Nat
  | (.string bytes, d) => bytes.length + uptoBulk d + 1
  | (_, d) => uptoBulk d + 1
 end
def uptoSmall : (H : Type) → List (DataW H) → Bool := fun _ ds => decide (uptoBulkAll ds ≤ 1048576)
def OpenSpec.upto (s : _root_.Go.ChangeSpec) : _root_.Go.OpenSpec := { _root_.Go.OpenSpec.ofChange s with cond := some uptoSmall }

/-- 'papermilllaw50.WinderCapacity', WHERE WHAT IT READS IS OF BULK AT MOST 1048576: true; the input reads as it did. -/
def winderCapacityUptoRow : OpenClaim := { program := "ythdbnoeaiafniaa", sum := "54f13b6c09ffdda1c447c4d14b82c40c475ae329df2a178185f06f28df11019a", func := "papermill/papermilllaw50.WinderCapacity", spec := "winderCapacity", apart := false, narrowed := true }
def WinderCapacityUptoSaid : Prop := winderCapacityUptoRow.holds Try.pinned (OpenSpec.upto winderCapacitySpec)

/-- 'papermilllaw50.WinderPlans', WHERE WHAT IT READS IS OF BULK AT MOST 1048576: true; the input reads as it did. -/
def winderPlansUptoRow : OpenClaim := { program := "ythdbnoeaiafniaa", sum := "54f13b6c09ffdda1c447c4d14b82c40c475ae329df2a178185f06f28df11019a", func := "papermill/papermilllaw50.WinderPlans", spec := "winderPlans", apart := false, narrowed := true }
def WinderPlansUptoSaid : Prop := winderPlansUptoRow.holds Try.pinned (OpenSpec.upto winderPlansSpec)

/-- 'papermilllaw50.WinderLeft', WHERE WHAT IT READS IS OF BULK AT MOST 1048576: true; the input reads as it did. -/
def winderLeftUptoRow : OpenClaim := { program := "ythdbnoeaiafniaa", sum := "54f13b6c09ffdda1c447c4d14b82c40c475ae329df2a178185f06f28df11019a", func := "papermill/papermilllaw50.WinderLeft", spec := "winderLeft", apart := false, narrowed := true }
def WinderLeftUptoSaid : Prop := winderLeftUptoRow.holds Try.pinned (OpenSpec.upto winderLeftSpec)

/-- 'papermilllaw50.WinderJobs', WHERE WHAT IT READS IS OF BULK AT MOST 1048576: true; the input reads as it did. -/
def winderJobsUptoRow : OpenClaim := { program := "ythdbnoeaiafniaa", sum := "54f13b6c09ffdda1c447c4d14b82c40c475ae329df2a178185f06f28df11019a", func := "papermill/papermilllaw50.WinderJobs", spec := "winderJobs", apart := false, narrowed := true }
def WinderJobsUptoSaid : Prop := winderJobsUptoRow.holds Try.pinned (OpenSpec.upto winderJobsSpec)

/-- 'papermilllaw50.WinderSets', WHERE WHAT IT READS IS OF BULK AT MOST 1048576: true; the input reads as it did. -/
def winderSetsUptoRow : OpenClaim := { program := "ythdbnoeaiafniaa", sum := "54f13b6c09ffdda1c447c4d14b82c40c475ae329df2a178185f06f28df11019a", func := "papermill/papermilllaw50.WinderSets", spec := "winderSets", apart := false, narrowed := true }
def WinderSetsUptoSaid : Prop := winderSetsUptoRow.holds Try.pinned (OpenSpec.upto winderSetsSpec)

/-- 'papermilllaw50.WinderSum', WHERE WHAT IT READS IS OF BULK AT MOST 1048576: true; the input reads as it did. -/
def winderSumUptoRow : OpenClaim := { program := "ythdbnoeaiafniaa", sum := "54f13b6c09ffdda1c447c4d14b82c40c475ae329df2a178185f06f28df11019a", func := "papermill/papermilllaw50.WinderSum", spec := "winderSum", apart := false, narrowed := true }
def WinderSumUptoSaid : Prop := winderSumUptoRow.holds Try.pinned (OpenSpec.upto winderSumSpec)

/-- 'papermilllaw50.WinderMore', WHERE WHAT IT READS IS OF BULK AT MOST 1048576: true; the input reads as it did. -/
def winderMoreUptoRow : OpenClaim := { program := "ythdbnoeaiafniaa", sum := "54f13b6c09ffdda1c447c4d14b82c40c475ae329df2a178185f06f28df11019a", func := "papermill/papermilllaw50.WinderMore", spec := "winderMore", apart := false, narrowed := true }
def WinderMoreUptoSaid : Prop := winderMoreUptoRow.holds Try.pinned (OpenSpec.upto winderMoreSpec)

end Rows
end Go.Proofs.Ythdbnoeaiafniaa
