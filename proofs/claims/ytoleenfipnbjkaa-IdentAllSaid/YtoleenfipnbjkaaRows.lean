/-
  No cell of these rows narrows 'for every input' (looked for: loops, veiled, ifaces, maps, wideKeys, modest, calm, conditions, laid).
  DERIVED. THE GIVEN ROWS OF THIS SEAT. 7 by the template 'for every input the law returns true; each argument reads behind the call as it read before'; 0 by the template 'total and deterministic' (their statements: YtoleenfipnbjkaaTotals.lean).
  GIVEN WITH THE SEED: the statements are not yours to turn. If you find one false, say at which input.
  Laid BY PROGRAM, IN A SANDBOX (cutbox-rows.mjs): the forced cells as the released guide's own fill.sh prints them over the translation 5b7f43e2ae205164… (all of the seat's roots in one cut). By AI agents, Wed Nov 11 2026. No macro, syntax, notation, axiom, sorry.
-/
import Derived.Test.YtoleenfipnbjkaaChecked
import GoSem.Claim
import GoSem.ClaimJoined
import GoSem.ClaimMapViews
import Derived.JoinedTies
import Derived.KernelRfl
namespace Go.Proofs.Ytoleenfipnbjkaa
/- THE CELL 'sum', in the pinned program and in every row, IS THE sha256 OF THE DUMP (.gsa) THAT YtoleenfipnbjkaaProg.lean LOADS. Nothing in Lean hashes anything: it is a label: what it is worth is what the hold of that sum in a sandbox is worth. -/
noncomputable def Try.pinned : Pinned := { name := "ytoleenfipnbjkaa", sum := "5b7f43e2ae205164704c0a80695104ab4784091a3be4ea6aadd2fc2b86d11457", checked := Try.checked }
namespace Rows
def none {H : Type} : Left H := { results := [], args := [] }

/-- 'papermilllaw06.IdentValids': WHATEVER THE INPUT: true; the input reads as it did. -/
def identValidsSpec : ChangeSpec := { name := "identValids", fn := fun _ => fun
  | [d] => { results := [.lit (.bool true)], args := [d] }
  | _ => none }
def identValidsRow : OpenClaim := { program := "ytoleenfipnbjkaa", sum := "5b7f43e2ae205164704c0a80695104ab4784091a3be4ea6aadd2fc2b86d11457", func := "papermill/papermilllaw06.IdentValids", spec := "identValids", apart := false }
def IdentValidsSaid : Prop := identValidsRow.holds Try.pinned (OpenSpec.ofChange identValidsSpec)

/-- ITS FALSE NEIGHBOUR: 'it returns false'. Refute it at one input. -/
def identValidsWrong : ChangeSpec := { name := "identValids", fn := fun _ => fun
  | [d] => { results := [.lit (.bool false)], args := [d] }
  | _ => none }
def IdentValidsWrongFalsely : Prop := identValidsRow.holds Try.pinned (OpenSpec.ofChange identValidsWrong)

/-- 'papermilllaw06.IdentTable': WHATEVER THE INPUT: true; the input reads as it did. -/
def identTableSpec : ChangeSpec := { name := "identTable", fn := fun _ => fun
  | [d1, d2, d3] => { results := [.lit (.bool true)], args := [d1, d2, d3] }
  | _ => none }
def identTableRow : OpenClaim := { program := "ytoleenfipnbjkaa", sum := "5b7f43e2ae205164704c0a80695104ab4784091a3be4ea6aadd2fc2b86d11457", func := "papermill/papermilllaw06.IdentTable", spec := "identTable", apart := false }
def IdentTableSaid : Prop := identTableRow.holds Try.pinned (OpenSpec.ofChange identTableSpec)

/-- ITS FALSE NEIGHBOUR: 'it returns false'. Refute it at one input. -/
def identTableWrong : ChangeSpec := { name := "identTable", fn := fun _ => fun
  | [d1, d2, d3] => { results := [.lit (.bool false)], args := [d1, d2, d3] }
  | _ => none }
def IdentTableWrongFalsely : Prop := identTableRow.holds Try.pinned (OpenSpec.ofChange identTableWrong)

/-- 'papermilllaw06.IdentGrows': WHATEVER THE INPUT: true; the input reads as it did. -/
def identGrowsSpec : ChangeSpec := { name := "identGrows", fn := fun _ => fun
  | [d1, d2] => { results := [.lit (.bool true)], args := [d1, d2] }
  | _ => none }
def identGrowsRow : OpenClaim := { program := "ytoleenfipnbjkaa", sum := "5b7f43e2ae205164704c0a80695104ab4784091a3be4ea6aadd2fc2b86d11457", func := "papermill/papermilllaw06.IdentGrows", spec := "identGrows", apart := false }
def IdentGrowsSaid : Prop := identGrowsRow.holds Try.pinned (OpenSpec.ofChange identGrowsSpec)

/-- ITS FALSE NEIGHBOUR: 'it returns false'. Refute it at one input. -/
def identGrowsWrong : ChangeSpec := { name := "identGrows", fn := fun _ => fun
  | [d1, d2] => { results := [.lit (.bool false)], args := [d1, d2] }
  | _ => none }
def IdentGrowsWrongFalsely : Prop := identGrowsRow.holds Try.pinned (OpenSpec.ofChange identGrowsWrong)

/-- 'papermilllaw06.IdentBytes': WHATEVER THE INPUT: true; the input reads as it did. -/
def identBytesSpec : ChangeSpec := { name := "identBytes", fn := fun _ => fun
  | [d1, d2, d3] => { results := [.lit (.bool true)], args := [d1, d2, d3] }
  | _ => none }
def identBytesRow : OpenClaim := { program := "ytoleenfipnbjkaa", sum := "5b7f43e2ae205164704c0a80695104ab4784091a3be4ea6aadd2fc2b86d11457", func := "papermill/papermilllaw06.IdentBytes", spec := "identBytes", apart := false }
def IdentBytesSaid : Prop := identBytesRow.holds Try.pinned (OpenSpec.ofChange identBytesSpec)

/-- ITS FALSE NEIGHBOUR: 'it returns false'. Refute it at one input. -/
def identBytesWrong : ChangeSpec := { name := "identBytes", fn := fun _ => fun
  | [d1, d2, d3] => { results := [.lit (.bool false)], args := [d1, d2, d3] }
  | _ => none }
def IdentBytesWrongFalsely : Prop := identBytesRow.holds Try.pinned (OpenSpec.ofChange identBytesWrong)

/-- 'papermilllaw06.IdentNews': WHATEVER THE INPUT: true; the input reads as it did. -/
def identNewsSpec : ChangeSpec := { name := "identNews", fn := fun _ => fun
  | [d1, d2] => { results := [.lit (.bool true)], args := [d1, d2] }
  | _ => none }
def identNewsRow : OpenClaim := { program := "ytoleenfipnbjkaa", sum := "5b7f43e2ae205164704c0a80695104ab4784091a3be4ea6aadd2fc2b86d11457", func := "papermill/papermilllaw06.IdentNews", spec := "identNews", unfollowed := true, recurses := true, apart := false }
def IdentNewsSaid : Prop := identNewsRow.holds Try.pinned (OpenSpec.ofChange identNewsSpec)

/-- ITS FALSE NEIGHBOUR: 'it returns false'. Refute it at one input. -/
def identNewsWrong : ChangeSpec := { name := "identNews", fn := fun _ => fun
  | [d1, d2] => { results := [.lit (.bool false)], args := [d1, d2] }
  | _ => none }
def IdentNewsWrongFalsely : Prop := identNewsRow.holds Try.pinned (OpenSpec.ofChange identNewsWrong)

/-- 'papermilllaw06.IdentPlays': WHATEVER THE INPUT: true; the input reads as it did. -/
def identPlaysSpec : ChangeSpec := { name := "identPlays", fn := fun _ => fun
  | [d1, d2] => { results := [.lit (.bool true)], args := [d1, d2] }
  | _ => none }
def identPlaysRow : OpenClaim := { program := "ytoleenfipnbjkaa", sum := "5b7f43e2ae205164704c0a80695104ab4784091a3be4ea6aadd2fc2b86d11457", func := "papermill/papermilllaw06.IdentPlays", spec := "identPlays", unfollowed := true, recurses := true, apart := false }
def IdentPlaysSaid : Prop := identPlaysRow.holds Try.pinned (OpenSpec.ofChange identPlaysSpec)

/-- ITS FALSE NEIGHBOUR: 'it returns false'. Refute it at one input. -/
def identPlaysWrong : ChangeSpec := { name := "identPlays", fn := fun _ => fun
  | [d1, d2] => { results := [.lit (.bool false)], args := [d1, d2] }
  | _ => none }
def IdentPlaysWrongFalsely : Prop := identPlaysRow.holds Try.pinned (OpenSpec.ofChange identPlaysWrong)

/-- 'papermilllaw06.IdentAll': WHATEVER THE INPUT: true; the input reads as it did. -/
def identAllSpec : ChangeSpec := { name := "identAll", fn := fun _ => fun
  | [d1, d2, d3] => { results := [.lit (.bool true)], args := [d1, d2, d3] }
  | _ => none }
def identAllRow : OpenClaim := { program := "ytoleenfipnbjkaa", sum := "5b7f43e2ae205164704c0a80695104ab4784091a3be4ea6aadd2fc2b86d11457", func := "papermill/papermilllaw06.IdentAll", spec := "identAll", unfollowed := true, recurses := true, apart := false }
def IdentAllSaid : Prop := identAllRow.holds Try.pinned (OpenSpec.ofChange identAllSpec)

/-- ITS FALSE NEIGHBOUR: 'it returns false'. Refute it at one input. -/
def identAllWrong : ChangeSpec := { name := "identAll", fn := fun _ => fun
  | [d1, d2, d3] => { results := [.lit (.bool false)], args := [d1, d2, d3] }
  | _ => none }
def IdentAllWrongFalsely : Prop := identAllRow.holds Try.pinned (OpenSpec.ofChange identAllWrong)

/- THE SECOND FORM. 'bulk': how many values and letters a reading holds, each counted each time it is reached (what is shared counts as often as it is met; a slice's spare places count too). A statement '..UptoSaid' is the law's where the arguments, and the package variables that the reading takes, are together of bulk at most 1048576: NARROWER than '..Said'. Prove '..Said' where nothing that the law and all that it calls make is longer than what came in: it says more and counts as full. Else prove '..UptoSaid'. A law counts once. -/
mutual
def uptoBulk {H : Type} : DataW H → Nat
  | .lit (.string bytes) => bytes.length + 1
  | .lit _ => 1
  | .nil => 1
  | .ptr d => uptoBulk d + 1
  | .slice elems spare => uptoBulkAll elems + uptoBulkAll spare + 1
  | .agg parts => uptoBulkAll parts + 1
  | .iface _ d => uptoBulk d + 1
  | .map entries => uptoBulkEntries entries + 1
  | .held _ => 1
def uptoBulkAll {H : Type} : List (DataW H) → Nat
  | [] => 0
  | d :: r => uptoBulk d + uptoBulkAll r
def uptoBulkEntries {H : Type} : List (Lit × DataW H) → Nat
  | [] => 0
  | x :: r => uptoBulkEntry x + uptoBulkEntries r
def uptoBulkEntry {H : Type} : Lit × DataW H → Nat
  | (.string bytes, d) => bytes.length + uptoBulk d + 1
  | (_, d) => uptoBulk d + 1
 end
def uptoSmall : (H : Type) → List (DataW H) → Bool := fun _ ds => decide (uptoBulkAll ds ≤ 1048576)
def OpenSpec.upto (s : _root_.Go.ChangeSpec) : _root_.Go.OpenSpec := { _root_.Go.OpenSpec.ofChange s with cond := some uptoSmall }

/-- 'papermilllaw06.IdentValids', WHERE WHAT IT READS IS OF BULK AT MOST 1048576: true; the input reads as it did. -/
def identValidsUptoRow : OpenClaim := { program := "ytoleenfipnbjkaa", sum := "5b7f43e2ae205164704c0a80695104ab4784091a3be4ea6aadd2fc2b86d11457", func := "papermill/papermilllaw06.IdentValids", spec := "identValids", apart := false, narrowed := true }
def IdentValidsUptoSaid : Prop := identValidsUptoRow.holds Try.pinned (OpenSpec.upto identValidsSpec)

/-- 'papermilllaw06.IdentTable', WHERE WHAT IT READS IS OF BULK AT MOST 1048576: true; the input reads as it did. -/
def identTableUptoRow : OpenClaim := { program := "ytoleenfipnbjkaa", sum := "5b7f43e2ae205164704c0a80695104ab4784091a3be4ea6aadd2fc2b86d11457", func := "papermill/papermilllaw06.IdentTable", spec := "identTable", apart := false, narrowed := true }
def IdentTableUptoSaid : Prop := identTableUptoRow.holds Try.pinned (OpenSpec.upto identTableSpec)

/-- 'papermilllaw06.IdentGrows', WHERE WHAT IT READS IS OF BULK AT MOST 1048576: true; the input reads as it did. -/
def identGrowsUptoRow : OpenClaim := { program := "ytoleenfipnbjkaa", sum := "5b7f43e2ae205164704c0a80695104ab4784091a3be4ea6aadd2fc2b86d11457", func := "papermill/papermilllaw06.IdentGrows", spec := "identGrows", apart := false, narrowed := true }
def IdentGrowsUptoSaid : Prop := identGrowsUptoRow.holds Try.pinned (OpenSpec.upto identGrowsSpec)

/-- 'papermilllaw06.IdentBytes', WHERE WHAT IT READS IS OF BULK AT MOST 1048576: true; the input reads as it did. -/
def identBytesUptoRow : OpenClaim := { program := "ytoleenfipnbjkaa", sum := "5b7f43e2ae205164704c0a80695104ab4784091a3be4ea6aadd2fc2b86d11457", func := "papermill/papermilllaw06.IdentBytes", spec := "identBytes", apart := false, narrowed := true }
def IdentBytesUptoSaid : Prop := identBytesUptoRow.holds Try.pinned (OpenSpec.upto identBytesSpec)

/-- 'papermilllaw06.IdentNews', WHERE WHAT IT READS IS OF BULK AT MOST 1048576: true; the input reads as it did. -/
def identNewsUptoRow : OpenClaim := { program := "ytoleenfipnbjkaa", sum := "5b7f43e2ae205164704c0a80695104ab4784091a3be4ea6aadd2fc2b86d11457", func := "papermill/papermilllaw06.IdentNews", spec := "identNews", unfollowed := true, recurses := true, apart := false, narrowed := true }
def IdentNewsUptoSaid : Prop := identNewsUptoRow.holds Try.pinned (OpenSpec.upto identNewsSpec)

/-- 'papermilllaw06.IdentPlays', WHERE WHAT IT READS IS OF BULK AT MOST 1048576: true; the input reads as it did. -/
def identPlaysUptoRow : OpenClaim := { program := "ytoleenfipnbjkaa", sum := "5b7f43e2ae205164704c0a80695104ab4784091a3be4ea6aadd2fc2b86d11457", func := "papermill/papermilllaw06.IdentPlays", spec := "identPlays", unfollowed := true, recurses := true, apart := false, narrowed := true }
def IdentPlaysUptoSaid : Prop := identPlaysUptoRow.holds Try.pinned (OpenSpec.upto identPlaysSpec)

/-- 'papermilllaw06.IdentAll', WHERE WHAT IT READS IS OF BULK AT MOST 1048576: true; the input reads as it did. -/
def identAllUptoRow : OpenClaim := { program := "ytoleenfipnbjkaa", sum := "5b7f43e2ae205164704c0a80695104ab4784091a3be4ea6aadd2fc2b86d11457", func := "papermill/papermilllaw06.IdentAll", spec := "identAll", unfollowed := true, recurses := true, apart := false, narrowed := true }
def IdentAllUptoSaid : Prop := identAllUptoRow.holds Try.pinned (OpenSpec.upto identAllSpec)

end Rows
end Go.Proofs.Ytoleenfipnbjkaa
