/-
  No cell of these rows narrows 'for every input' (looked for: loops, veiled, ifaces, maps, wideKeys, modest, calm, conditions, laid).
  DERIVED. THE GIVEN ROWS OF THIS SEAT. 7 by the template 'for every input the law returns true; each argument reads behind the call as it read before'; 0 by the template 'total and deterministic' (their statements: YtnpndjdkdcbjcaaTotals.lean).
  GIVEN WITH THE SEED: the statements are not yours to turn. If you find one false, say at which input.
  Laid BY PROGRAM, IN A SANDBOX (cutbox-rows.mjs): the forced cells as the released guide's own fill.sh prints them over the translation 3c31b92f5e84febb… (all of the seat's roots in one cut). By AI agents, Wed Nov 11 2026. No macro, syntax, notation, axiom, sorry.
-/
import Derived.Test.YtnpndjdkdcbjcaaChecked
import GoSem.Claim
import GoSem.ClaimJoined
import GoSem.ClaimMapViews
import Derived.JoinedTies
import Derived.KernelRfl
namespace Go.Proofs.Ytnpndjdkdcbjcaa
/- THE CELL 'sum', in the pinned program and in every row, IS THE sha256 OF THE DUMP (.gsa) THAT YtnpndjdkdcbjcaaProg.lean LOADS. Nothing in Lean hashes anything: it is a label: what it is worth is what the hold of that sum in a sandbox is worth. -/
noncomputable def Try.pinned : Pinned := { name := "ytnpndjdkdcbjcaa", sum := "3c31b92f5e84febbc620cb257c8c186c7307a37ebf882628d029d95eb5123dde", checked := Try.checked }
namespace Rows
def none {H : Type} : Left H := { results := [], args := [] }

/-- 'papermilllaw11.PqueuePlays': WHATEVER THE INPUT: true; the input reads as it did. -/
def pqueuePlaysSpec : ChangeSpec := { name := "pqueuePlays", fn := fun _ => fun
  | [d1, d2] => { results := [.lit (.bool true)], args := [d1, d2] }
  | _ => none }
def pqueuePlaysRow : OpenClaim := { program := "ytnpndjdkdcbjcaa", sum := "3c31b92f5e84febbc620cb257c8c186c7307a37ebf882628d029d95eb5123dde", func := "papermill/papermilllaw11.PqueuePlays", spec := "pqueuePlays", unfollowed := true, recurses := true, apart := false }
def PqueuePlaysSaid : Prop := pqueuePlaysRow.holds Try.pinned (OpenSpec.ofChange pqueuePlaysSpec)

/-- ITS FALSE NEIGHBOUR: 'it returns false'. Refute it at one input. -/
def pqueuePlaysWrong : ChangeSpec := { name := "pqueuePlays", fn := fun _ => fun
  | [d1, d2] => { results := [.lit (.bool false)], args := [d1, d2] }
  | _ => none }
def PqueuePlaysWrongFalsely : Prop := pqueuePlaysRow.holds Try.pinned (OpenSpec.ofChange pqueuePlaysWrong)

/-- 'papermilllaw11.PqueuePeeks': WHATEVER THE INPUT: true; the input reads as it did. -/
def pqueuePeeksSpec : ChangeSpec := { name := "pqueuePeeks", fn := fun _ => fun
  | [d1, d2] => { results := [.lit (.bool true)], args := [d1, d2] }
  | _ => none }
def pqueuePeeksRow : OpenClaim := { program := "ytnpndjdkdcbjcaa", sum := "3c31b92f5e84febbc620cb257c8c186c7307a37ebf882628d029d95eb5123dde", func := "papermill/papermilllaw11.PqueuePeeks", spec := "pqueuePeeks", unfollowed := true, recurses := true, apart := false }
def PqueuePeeksSaid : Prop := pqueuePeeksRow.holds Try.pinned (OpenSpec.ofChange pqueuePeeksSpec)

/-- ITS FALSE NEIGHBOUR: 'it returns false'. Refute it at one input. -/
def pqueuePeeksWrong : ChangeSpec := { name := "pqueuePeeks", fn := fun _ => fun
  | [d1, d2] => { results := [.lit (.bool false)], args := [d1, d2] }
  | _ => none }
def PqueuePeeksWrongFalsely : Prop := pqueuePeeksRow.holds Try.pinned (OpenSpec.ofChange pqueuePeeksWrong)

/-- 'papermilllaw11.PqueueSorts': WHATEVER THE INPUT: true; the input reads as it did. -/
def pqueueSortsSpec : ChangeSpec := { name := "pqueueSorts", fn := fun _ => fun
  | [d1, d2] => { results := [.lit (.bool true)], args := [d1, d2] }
  | _ => none }
def pqueueSortsRow : OpenClaim := { program := "ytnpndjdkdcbjcaa", sum := "3c31b92f5e84febbc620cb257c8c186c7307a37ebf882628d029d95eb5123dde", func := "papermill/papermilllaw11.PqueueSorts", spec := "pqueueSorts", unfollowed := true, recurses := true, apart := false }
def PqueueSortsSaid : Prop := pqueueSortsRow.holds Try.pinned (OpenSpec.ofChange pqueueSortsSpec)

/-- ITS FALSE NEIGHBOUR: 'it returns false'. Refute it at one input. -/
def pqueueSortsWrong : ChangeSpec := { name := "pqueueSorts", fn := fun _ => fun
  | [d1, d2] => { results := [.lit (.bool false)], args := [d1, d2] }
  | _ => none }
def PqueueSortsWrongFalsely : Prop := pqueueSortsRow.holds Try.pinned (OpenSpec.ofChange pqueueSortsWrong)

/-- 'papermilllaw11.PqueueStable': WHATEVER THE INPUT: true; the input reads as it did. -/
def pqueueStableSpec : ChangeSpec := { name := "pqueueStable", fn := fun _ => fun
  | [d1, d2] => { results := [.lit (.bool true)], args := [d1, d2] }
  | _ => none }
def pqueueStableRow : OpenClaim := { program := "ytnpndjdkdcbjcaa", sum := "3c31b92f5e84febbc620cb257c8c186c7307a37ebf882628d029d95eb5123dde", func := "papermill/papermilllaw11.PqueueStable", spec := "pqueueStable", unfollowed := true, recurses := true, apart := false }
def PqueueStableSaid : Prop := pqueueStableRow.holds Try.pinned (OpenSpec.ofChange pqueueStableSpec)

/-- ITS FALSE NEIGHBOUR: 'it returns false'. Refute it at one input. -/
def pqueueStableWrong : ChangeSpec := { name := "pqueueStable", fn := fun _ => fun
  | [d1, d2] => { results := [.lit (.bool false)], args := [d1, d2] }
  | _ => none }
def PqueueStableWrongFalsely : Prop := pqueueStableRow.holds Try.pinned (OpenSpec.ofChange pqueueStableWrong)

/-- 'papermilllaw11.PqueueAny': WHATEVER THE INPUT: true; the input reads as it did. -/
def pqueueAnySpec : ChangeSpec := { name := "pqueueAny", fn := fun _ => fun
  | [d] => { results := [.lit (.bool true)], args := [d] }
  | _ => none }
def pqueueAnyRow : OpenClaim := { program := "ytnpndjdkdcbjcaa", sum := "3c31b92f5e84febbc620cb257c8c186c7307a37ebf882628d029d95eb5123dde", func := "papermill/papermilllaw11.PqueueAny", spec := "pqueueAny", unfollowed := true, recurses := true, apart := false }
def PqueueAnySaid : Prop := pqueueAnyRow.holds Try.pinned (OpenSpec.ofChange pqueueAnySpec)

/-- ITS FALSE NEIGHBOUR: 'it returns false'. Refute it at one input. -/
def pqueueAnyWrong : ChangeSpec := { name := "pqueueAny", fn := fun _ => fun
  | [d] => { results := [.lit (.bool false)], args := [d] }
  | _ => none }
def PqueueAnyWrongFalsely : Prop := pqueueAnyRow.holds Try.pinned (OpenSpec.ofChange pqueueAnyWrong)

/-- 'papermilllaw11.PqueueNil': WHATEVER THE INPUT: true; the input reads as it did. -/
def pqueueNilSpec : ChangeSpec := { name := "pqueueNil", fn := fun _ => fun
  | [d1, d2] => { results := [.lit (.bool true)], args := [d1, d2] }
  | _ => none }
def pqueueNilRow : OpenClaim := { program := "ytnpndjdkdcbjcaa", sum := "3c31b92f5e84febbc620cb257c8c186c7307a37ebf882628d029d95eb5123dde", func := "papermill/papermilllaw11.PqueueNil", spec := "pqueueNil", unfollowed := true, recurses := true, apart := false }
def PqueueNilSaid : Prop := pqueueNilRow.holds Try.pinned (OpenSpec.ofChange pqueueNilSpec)

/-- ITS FALSE NEIGHBOUR: 'it returns false'. Refute it at one input. -/
def pqueueNilWrong : ChangeSpec := { name := "pqueueNil", fn := fun _ => fun
  | [d1, d2] => { results := [.lit (.bool false)], args := [d1, d2] }
  | _ => none }
def PqueueNilWrongFalsely : Prop := pqueueNilRow.holds Try.pinned (OpenSpec.ofChange pqueueNilWrong)

/-- 'papermilllaw11.PqueueStrings': WHATEVER THE INPUT: true; the input reads as it did. -/
def pqueueStringsSpec : ChangeSpec := { name := "pqueueStrings", fn := fun _ => fun
  | [d] => { results := [.lit (.bool true)], args := [d] }
  | _ => none }
def pqueueStringsRow : OpenClaim := { program := "ytnpndjdkdcbjcaa", sum := "3c31b92f5e84febbc620cb257c8c186c7307a37ebf882628d029d95eb5123dde", func := "papermill/papermilllaw11.PqueueStrings", spec := "pqueueStrings", unfollowed := true, recurses := true, apart := false }
def PqueueStringsSaid : Prop := pqueueStringsRow.holds Try.pinned (OpenSpec.ofChange pqueueStringsSpec)

/-- ITS FALSE NEIGHBOUR: 'it returns false'. Refute it at one input. -/
def pqueueStringsWrong : ChangeSpec := { name := "pqueueStrings", fn := fun _ => fun
  | [d] => { results := [.lit (.bool false)], args := [d] }
  | _ => none }
def PqueueStringsWrongFalsely : Prop := pqueueStringsRow.holds Try.pinned (OpenSpec.ofChange pqueueStringsWrong)

/- THE SECOND FORM. 'bulk': how many values and letters a reading holds, each counted each time it is reached (what is shared counts as often as it is met; a slice's spare places count too). A statement '..UptoSaid' is the law's where the arguments, and the package variables that the reading takes, are together of bulk at most 1048576: NARROWER than '..Said'. Prove '..Said' where nothing that the law and all that it calls make is longer than what came in: it says more and counts as full. Else prove '..UptoSaid'. A law counts once. -/
mutual
def uptoBulk {H : Type} : DataW H → Nat
  | .lit (.string bytes) => bytes.length + 1
  | .lit _ => 1
  | .nil => 1
  | .ptr d => uptoBulk d + 1
  | .slice elems spare => uptoBulkAll elems + uptoBulkAll spare + 1
  | .agg parts => uptoBulkAll parts + 1
  | .iface _ d => uptoBulk d + 1
  | .map entries => uptoBulkEntries entries + 1
  | .held _ => 1
def uptoBulkAll {H : Type} : List (DataW H) → Nat
  | [] => 0
  | d :: r => uptoBulk d + uptoBulkAll r
def uptoBulkEntries {H : Type} : List (Lit × DataW H) → Nat
  | [] => 0
  | x :: r => uptoBulkEntry x + uptoBulkEntries r
def uptoBulkEntry {H : Type} : Lit × DataW H → Nat
  | (.string bytes, d) => bytes.length + uptoBulk d + 1
  | (_, d) => uptoBulk d + 1
 end
def uptoSmall : (H : Type) → List (DataW H) → Bool := fun _ ds => decide (uptoBulkAll ds ≤ 1048576)
def OpenSpec.upto (s : _root_.Go.ChangeSpec) : _root_.Go.OpenSpec := { _root_.Go.OpenSpec.ofChange s with cond := some uptoSmall }

/-- 'papermilllaw11.PqueuePlays', WHERE WHAT IT READS IS OF BULK AT MOST 1048576: true; the input reads as it did. -/
def pqueuePlaysUptoRow : OpenClaim := { program := "ytnpndjdkdcbjcaa", sum := "3c31b92f5e84febbc620cb257c8c186c7307a37ebf882628d029d95eb5123dde", func := "papermill/papermilllaw11.PqueuePlays", spec := "pqueuePlays", unfollowed := true, recurses := true, apart := false, narrowed := true }
def PqueuePlaysUptoSaid : Prop := pqueuePlaysUptoRow.holds Try.pinned (OpenSpec.upto pqueuePlaysSpec)

/-- 'papermilllaw11.PqueuePeeks', WHERE WHAT IT READS IS OF BULK AT MOST 1048576: true; the input reads as it did. -/
def pqueuePeeksUptoRow : OpenClaim := { program := "ytnpndjdkdcbjcaa", sum := "3c31b92f5e84febbc620cb257c8c186c7307a37ebf882628d029d95eb5123dde", func := "papermill/papermilllaw11.PqueuePeeks", spec := "pqueuePeeks", unfollowed := true, recurses := true, apart := false, narrowed := true }
def PqueuePeeksUptoSaid : Prop := pqueuePeeksUptoRow.holds Try.pinned (OpenSpec.upto pqueuePeeksSpec)

/-- 'papermilllaw11.PqueueSorts', WHERE WHAT IT READS IS OF BULK AT MOST 1048576: true; the input reads as it did. -/
def pqueueSortsUptoRow : OpenClaim := { program := "ytnpndjdkdcbjcaa", sum := "3c31b92f5e84febbc620cb257c8c186c7307a37ebf882628d029d95eb5123dde", func := "papermill/papermilllaw11.PqueueSorts", spec := "pqueueSorts", unfollowed := true, recurses := true, apart := false, narrowed := true }
def PqueueSortsUptoSaid : Prop := pqueueSortsUptoRow.holds Try.pinned (OpenSpec.upto pqueueSortsSpec)

/-- 'papermilllaw11.PqueueStable', WHERE WHAT IT READS IS OF BULK AT MOST 1048576: true; the input reads as it did. -/
def pqueueStableUptoRow : OpenClaim := { program := "ytnpndjdkdcbjcaa", sum := "3c31b92f5e84febbc620cb257c8c186c7307a37ebf882628d029d95eb5123dde", func := "papermill/papermilllaw11.PqueueStable", spec := "pqueueStable", unfollowed := true, recurses := true, apart := false, narrowed := true }
def PqueueStableUptoSaid : Prop := pqueueStableUptoRow.holds Try.pinned (OpenSpec.upto pqueueStableSpec)

/-- 'papermilllaw11.PqueueAny', WHERE WHAT IT READS IS OF BULK AT MOST 1048576: true; the input reads as it did. -/
def pqueueAnyUptoRow : OpenClaim := { program := "ytnpndjdkdcbjcaa", sum := "3c31b92f5e84febbc620cb257c8c186c7307a37ebf882628d029d95eb5123dde", func := "papermill/papermilllaw11.PqueueAny", spec := "pqueueAny", unfollowed := true, recurses := true, apart := false, narrowed := true }
def PqueueAnyUptoSaid : Prop := pqueueAnyUptoRow.holds Try.pinned (OpenSpec.upto pqueueAnySpec)

/-- 'papermilllaw11.PqueueNil', WHERE WHAT IT READS IS OF BULK AT MOST 1048576: true; the input reads as it did. -/
def pqueueNilUptoRow : OpenClaim := { program := "ytnpndjdkdcbjcaa", sum := "3c31b92f5e84febbc620cb257c8c186c7307a37ebf882628d029d95eb5123dde", func := "papermill/papermilllaw11.PqueueNil", spec := "pqueueNil", unfollowed := true, recurses := true, apart := false, narrowed := true }
def PqueueNilUptoSaid : Prop := pqueueNilUptoRow.holds Try.pinned (OpenSpec.upto pqueueNilSpec)

/-- 'papermilllaw11.PqueueStrings', WHERE WHAT IT READS IS OF BULK AT MOST 1048576: true; the input reads as it did. -/
def pqueueStringsUptoRow : OpenClaim := { program := "ytnpndjdkdcbjcaa", sum := "3c31b92f5e84febbc620cb257c8c186c7307a37ebf882628d029d95eb5123dde", func := "papermill/papermilllaw11.PqueueStrings", spec := "pqueueStrings", unfollowed := true, recurses := true, apart := false, narrowed := true }
def PqueueStringsUptoSaid : Prop := pqueueStringsUptoRow.holds Try.pinned (OpenSpec.upto pqueueStringsSpec)

end Rows
end Go.Proofs.Ytnpndjdkdcbjcaa
