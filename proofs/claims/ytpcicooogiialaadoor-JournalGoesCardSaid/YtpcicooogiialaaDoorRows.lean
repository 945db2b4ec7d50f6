/-
  NARROWER THAN 'FOR EVERY INPUT', by the rows' own cells (each row's printed sentence says how): JournalChecks: laid · JournalGets: laid · JournalAppends: laid · JournalRecovers: laid · JournalPrefix: laid · JournalRoundTrip: laid · JournalTail: laid · JournalGoes: laid.
  DERIVED. THE GIVEN ROWS OF THIS SEAT. 8 by the template 'for every input the law returns true; each argument reads behind the call as it read before'; 0 by the template 'total and deterministic' (their statements: YtpcicooogiialaaDoorTotals.lean).
  GIVEN WITH THE SEED: the statements are not yours to turn. If you find one false, say at which input.
  Laid BY PROGRAM, IN A SANDBOX (cutbox-rows.mjs): the forced cells as the released guide's own fill.sh prints them over the translation d669e8d465cca7a5… (all of the seat's roots in one cut). By AI agents, Wed Nov 11 2026. No macro, syntax, notation, axiom, sorry.
-/
import Derived.Test.YtpcicooogiialaaDoorChecked
import GoSem.Claim
import GoSem.ClaimJoined
import GoSem.ClaimMapViews
import Derived.JoinedTies
import Derived.KernelRfl
namespace Go.Proofs.YtpcicooogiialaaDoor
/- THE CELL 'sum', in the pinned program and in every row, IS THE sha256 OF THE DUMP (.gsa) THAT YtpcicooogiialaaDoorProg.lean LOADS. Nothing in Lean hashes anything: it is a label: what it is worth is what the hold of that sum in a sandbox is worth. -/
noncomputable def Tryd.pinned : Pinned := { name := "ytpcicooogiialaadoor", sum := "d669e8d465cca7a5969960cf19c35b0ea4c3f70e062e7d36d9b12d8669d37289", checked := Tryd.checked }
namespace Rows
def none {H : Type} : Left H := { results := [], args := [] }

/- WHAT THE LISTED PACKAGE-LEVEL VARIABLES READ AS WHEN THE CALL BEGINS. Each datum BY PROGRAM (the guide's laid-datum.mjs) off the statement by which the dump's own 'gosem.cut.vars' lays the variable. In a bare row this is a premise. The card (YtpcicooogiialaaDoorCards.lean) ties it to the program's text. -/
def laid_papermill_crc_steps {H : Type} : DataW H := .agg [.lit (.int .u32 0), .lit (.int .u32 498536548), .lit (.int .u32 997073096), .lit (.int .u32 651767980), .lit (.int .u32 1994146192), .lit (.int .u32 1802195444), .lit (.int .u32 1303535960), .lit (.int .u32 1342533948), .lit (.int .u32 3988292384), .lit (.int .u32 4027552580), .lit (.int .u32 3604390888), .lit (.int .u32 3412177804), .lit (.int .u32 2607071920), .lit (.int .u32 2262029012), .lit (.int .u32 2685067896), .lit (.int .u32 3183342108)]

/-- 'papermilllaw61.JournalChecks': WHATEVER THE INPUT: true; the input reads as it did. -/
def journalChecksSpec : ChangeSpec := { name := "journalChecks", fn := fun _ => fun
  | [d] => { results := [.lit (.bool true)], args := [d] }
  | _ => none }
def journalChecksRow : OpenClaim := { program := "ytpcicooogiialaadoor", sum := "d669e8d465cca7a5969960cf19c35b0ea4c3f70e062e7d36d9b12d8669d37289", func := "papermill/papermilllaw61.JournalChecks", spec := "journalChecks", named := ["papermill/crc.steps"], apart := false, laid := [("papermill/crc.steps", laid_papermill_crc_steps)] }
def JournalChecksSaid : Prop := journalChecksRow.holds Tryd.pinned (OpenSpec.ofChange journalChecksSpec)

/-- ITS FALSE NEIGHBOUR: 'it returns false'. Refute it at one input. -/
def journalChecksWrong : ChangeSpec := { name := "journalChecks", fn := fun _ => fun
  | [d] => { results := [.lit (.bool false)], args := [d] }
  | _ => none }
def JournalChecksWrongFalsely : Prop := journalChecksRow.holds Tryd.pinned (OpenSpec.ofChange journalChecksWrong)

/-- 'papermilllaw61.JournalGets': WHATEVER THE INPUT: true; the input reads as it did. -/
def journalGetsSpec : ChangeSpec := { name := "journalGets", fn := fun _ => fun
  | [d] => { results := [.lit (.bool true)], args := [d] }
  | _ => none }
def journalGetsRow : OpenClaim := { program := "ytpcicooogiialaadoor", sum := "d669e8d465cca7a5969960cf19c35b0ea4c3f70e062e7d36d9b12d8669d37289", func := "papermill/papermilllaw61.JournalGets", spec := "journalGets", named := ["papermill/crc.steps"], apart := false, laid := [("papermill/crc.steps", laid_papermill_crc_steps)] }
def JournalGetsSaid : Prop := journalGetsRow.holds Tryd.pinned (OpenSpec.ofChange journalGetsSpec)

/-- ITS FALSE NEIGHBOUR: 'it returns false'. Refute it at one input. -/
def journalGetsWrong : ChangeSpec := { name := "journalGets", fn := fun _ => fun
  | [d] => { results := [.lit (.bool false)], args := [d] }
  | _ => none }
def JournalGetsWrongFalsely : Prop := journalGetsRow.holds Tryd.pinned (OpenSpec.ofChange journalGetsWrong)

/-- 'papermilllaw61.JournalAppends': WHATEVER THE INPUT: true; the input reads as it did. -/
def journalAppendsSpec : ChangeSpec := { name := "journalAppends", fn := fun _ => fun
  | [d1, d2] => { results := [.lit (.bool true)], args := [d1, d2] }
  | _ => none }
def journalAppendsRow : OpenClaim := { program := "ytpcicooogiialaadoor", sum := "d669e8d465cca7a5969960cf19c35b0ea4c3f70e062e7d36d9b12d8669d37289", func := "papermill/papermilllaw61.JournalAppends", spec := "journalAppends", named := ["papermill/crc.steps"], apart := false, laid := [("papermill/crc.steps", laid_papermill_crc_steps)] }
def JournalAppendsSaid : Prop := journalAppendsRow.holds Tryd.pinned (OpenSpec.ofChange journalAppendsSpec)

/-- ITS FALSE NEIGHBOUR: 'it returns false'. Refute it at one input. -/
def journalAppendsWrong : ChangeSpec := { name := "journalAppends", fn := fun _ => fun
  | [d1, d2] => { results := [.lit (.bool false)], args := [d1, d2] }
  | _ => none }
def JournalAppendsWrongFalsely : Prop := journalAppendsRow.holds Tryd.pinned (OpenSpec.ofChange journalAppendsWrong)

/-- 'papermilllaw61.JournalRecovers': WHATEVER THE INPUT: true; the input reads as it did. -/
def journalRecoversSpec : ChangeSpec := { name := "journalRecovers", fn := fun _ => fun
  | [d] => { results := [.lit (.bool true)], args := [d] }
  | _ => none }
def journalRecoversRow : OpenClaim := { program := "ytpcicooogiialaadoor", sum := "d669e8d465cca7a5969960cf19c35b0ea4c3f70e062e7d36d9b12d8669d37289", func := "papermill/papermilllaw61.JournalRecovers", spec := "journalRecovers", named := ["papermill/crc.steps"], apart := false, laid := [("papermill/crc.steps", laid_papermill_crc_steps)] }
def JournalRecoversSaid : Prop := journalRecoversRow.holds Tryd.pinned (OpenSpec.ofChange journalRecoversSpec)

/-- ITS FALSE NEIGHBOUR: 'it returns false'. Refute it at one input. -/
def journalRecoversWrong : ChangeSpec := { name := "journalRecovers", fn := fun _ => fun
  | [d] => { results := [.lit (.bool false)], args := [d] }
  | _ => none }
def JournalRecoversWrongFalsely : Prop := journalRecoversRow.holds Tryd.pinned (OpenSpec.ofChange journalRecoversWrong)

/-- 'papermilllaw61.JournalPrefix': WHATEVER THE INPUT: true; the input reads as it did. -/
def journalPrefixSpec : ChangeSpec := { name := "journalPrefix", fn := fun _ => fun
  | [d1, d2] => { results := [.lit (.bool true)], args := [d1, d2] }
  | _ => none }
def journalPrefixRow : OpenClaim := { program := "ytpcicooogiialaadoor", sum := "d669e8d465cca7a5969960cf19c35b0ea4c3f70e062e7d36d9b12d8669d37289", func := "papermill/papermilllaw61.JournalPrefix", spec := "journalPrefix", named := ["papermill/crc.steps"], apart := false, laid := [("papermill/crc.steps", laid_papermill_crc_steps)] }
def JournalPrefixSaid : Prop := journalPrefixRow.holds Tryd.pinned (OpenSpec.ofChange journalPrefixSpec)

/-- ITS FALSE NEIGHBOUR: 'it returns false'. Refute it at one input. -/
def journalPrefixWrong : ChangeSpec := { name := "journalPrefix", fn := fun _ => fun
  | [d1, d2] => { results := [.lit (.bool false)], args := [d1, d2] }
  | _ => none }
def JournalPrefixWrongFalsely : Prop := journalPrefixRow.holds Tryd.pinned (OpenSpec.ofChange journalPrefixWrong)

/-- 'papermilllaw61.JournalRoundTrip': WHATEVER THE INPUT: true; the input reads as it did. -/
def journalRoundTripSpec : ChangeSpec := { name := "journalRoundTrip", fn := fun _ => fun
  | [d1, d2] => { results := [.lit (.bool true)], args := [d1, d2] }
  | _ => none }
def journalRoundTripRow : OpenClaim := { program := "ytpcicooogiialaadoor", sum := "d669e8d465cca7a5969960cf19c35b0ea4c3f70e062e7d36d9b12d8669d37289", func := "papermill/papermilllaw61.JournalRoundTrip", spec := "journalRoundTrip", named := ["papermill/crc.steps"], apart := false, laid := [("papermill/crc.steps", laid_papermill_crc_steps)] }
def JournalRoundTripSaid : Prop := journalRoundTripRow.holds Tryd.pinned (OpenSpec.ofChange journalRoundTripSpec)

/-- ITS FALSE NEIGHBOUR: 'it returns false'. Refute it at one input. -/
def journalRoundTripWrong : ChangeSpec := { name := "journalRoundTrip", fn := fun _ => fun
  | [d1, d2] => { results := [.lit (.bool false)], args := [d1, d2] }
  | _ => none }
def JournalRoundTripWrongFalsely : Prop := journalRoundTripRow.holds Tryd.pinned (OpenSpec.ofChange journalRoundTripWrong)

/-- 'papermilllaw61.JournalTail': WHATEVER THE INPUT: true; the input reads as it did. -/
def journalTailSpec : ChangeSpec := { name := "journalTail", fn := fun _ => fun
  | [d1, d2] => { results := [.lit (.bool true)], args := [d1, d2] }
  | _ => none }
def journalTailRow : OpenClaim := { program := "ytpcicooogiialaadoor", sum := "d669e8d465cca7a5969960cf19c35b0ea4c3f70e062e7d36d9b12d8669d37289", func := "papermill/papermilllaw61.JournalTail", spec := "journalTail", named := ["papermill/crc.steps"], apart := false, laid := [("papermill/crc.steps", laid_papermill_crc_steps)] }
def JournalTailSaid : Prop := journalTailRow.holds Tryd.pinned (OpenSpec.ofChange journalTailSpec)

/-- ITS FALSE NEIGHBOUR: 'it returns false'. Refute it at one input. -/
def journalTailWrong : ChangeSpec := { name := "journalTail", fn := fun _ => fun
  | [d1, d2] => { results := [.lit (.bool false)], args := [d1, d2] }
  | _ => none }
def JournalTailWrongFalsely : Prop := journalTailRow.holds Tryd.pinned (OpenSpec.ofChange journalTailWrong)

/-- 'papermilllaw61.JournalGoes': WHATEVER THE INPUT: true; the input reads as it did. -/
def journalGoesSpec : ChangeSpec := { name := "journalGoes", fn := fun _ => fun
  | [d1, d2] => { results := [.lit (.bool true)], args := [d1, d2] }
  | _ => none }
def journalGoesRow : OpenClaim := { program := "ytpcicooogiialaadoor", sum := "d669e8d465cca7a5969960cf19c35b0ea4c3f70e062e7d36d9b12d8669d37289", func := "papermill/papermilllaw61.JournalGoes", spec := "journalGoes", named := ["papermill/crc.steps"], apart := false, laid := [("papermill/crc.steps", laid_papermill_crc_steps)] }
def JournalGoesSaid : Prop := journalGoesRow.holds Tryd.pinned (OpenSpec.ofChange journalGoesSpec)

/-- ITS FALSE NEIGHBOUR: 'it returns false'. Refute it at one input. -/
def journalGoesWrong : ChangeSpec := { name := "journalGoes", fn := fun _ => fun
  | [d1, d2] => { results := [.lit (.bool false)], args := [d1, d2] }
  | _ => none }
def JournalGoesWrongFalsely : Prop := journalGoesRow.holds Tryd.pinned (OpenSpec.ofChange journalGoesWrong)

/- THE SECOND FORM. 'bulk': how many values and letters a reading holds, each counted each time it is reached (what is shared counts as often as it is met; a slice's spare places count too). A statement '..UptoSaid' is the law's where the arguments, and the package variables that the reading takes, are together of bulk at most 1048576: NARROWER than '..Said'. Prove '..Said' where nothing that the law and all that it calls make is longer than what came in: it says more and counts as full. Else prove '..UptoSaid'. A law counts once. -/
mutual
def uptoBulk {H : Type} : DataW H → Nat
  | .lit (.string bytes) => bytes.length + 1
  | .lit _ => 1
  | .nil => 1
  | .ptr d => uptoBulk d + 1
  | .slice elems spare => uptoBulkAll elems + uptoBulkAll spare + 1
  | .agg parts => uptoBulkAll parts + 1
  | .iface _ d => uptoBulk d + 1
  | .map entries => uptoBulkEntries entries + 1
  | .held _ => 1
def uptoBulkAll {H : Type} : List (DataW H) → Nat
  | [] => 0
  | d :: r => uptoBulk d + uptoBulkAll r
def uptoBulkEntries {H : Type} : List (Lit × DataW H) → Nat
  | [] => 0
  | x :: r => uptoBulkEntry x + uptoBulkEntries r
def uptoBulkEntry {H : Type} : Lit × DataW H → Nat
  | (.string bytes, d) => bytes.length + uptoBulk d + 1
  | (_, d) => uptoBulk d + 1
 end
def uptoSmall : (H : Type) → List (DataW H) → Bool := fun _ ds => decide (uptoBulkAll ds ≤ 1048576)
def OpenSpec.upto (s : _root_.Go.ChangeSpec) : _root_.Go.OpenSpec := { _root_.Go.OpenSpec.ofChange s with cond := some uptoSmall }

/-- 'papermilllaw61.JournalChecks', WHERE WHAT IT READS IS OF BULK AT MOST 1048576: true; the input reads as it did. -/
def journalChecksUptoRow : OpenClaim := { program := "ytpcicooogiialaadoor", sum := "d669e8d465cca7a5969960cf19c35b0ea4c3f70e062e7d36d9b12d8669d37289", func := "papermill/papermilllaw61.JournalChecks", spec := "journalChecks", named := ["papermill/crc.steps"], apart := false, laid := [("papermill/crc.steps", laid_papermill_crc_steps)], narrowed := true }
def JournalChecksUptoSaid : Prop := journalChecksUptoRow.holds Tryd.pinned (OpenSpec.upto journalChecksSpec)

/-- 'papermilllaw61.JournalGets', WHERE WHAT IT READS IS OF BULK AT MOST 1048576: true; the input reads as it did. -/
def journalGetsUptoRow : OpenClaim := { program := "ytpcicooogiialaadoor", sum := "d669e8d465cca7a5969960cf19c35b0ea4c3f70e062e7d36d9b12d8669d37289", func := "papermill/papermilllaw61.JournalGets", spec := "journalGets", named := ["papermill/crc.steps"], apart := false, laid := [("papermill/crc.steps", laid_papermill_crc_steps)], narrowed := true }
def JournalGetsUptoSaid : Prop := journalGetsUptoRow.holds Tryd.pinned (OpenSpec.upto journalGetsSpec)

/-- 'papermilllaw61.JournalAppends', WHERE WHAT IT READS IS OF BULK AT MOST 1048576: true; the input reads as it did. -/
def journalAppendsUptoRow : OpenClaim := { program := "ytpcicooogiialaadoor", sum := "d669e8d465cca7a5969960cf19c35b0ea4c3f70e062e7d36d9b12d8669d37289", func := "papermill/papermilllaw61.JournalAppends", spec := "journalAppends", named := ["papermill/crc.steps"], apart := false, laid := [("papermill/crc.steps", laid_papermill_crc_steps)], narrowed := true }
def JournalAppendsUptoSaid : Prop := journalAppendsUptoRow.holds Tryd.pinned (OpenSpec.upto journalAppendsSpec)

/-- 'papermilllaw61.JournalRecovers', WHERE WHAT IT READS IS OF BULK AT MOST 1048576: true; the input reads as it did. -/
def journalRecoversUptoRow : OpenClaim := { program := "ytpcicooogiialaadoor", sum := "d669e8d465cca7a5969960cf19c35b0ea4c3f70e062e7d36d9b12d8669d37289", func := "papermill/papermilllaw61.JournalRecovers", spec := "journalRecovers", named := ["papermill/crc.steps"], apart := false, laid := [("papermill/crc.steps", laid_papermill_crc_steps)], narrowed := true }
def JournalRecoversUptoSaid : Prop := journalRecoversUptoRow.holds Tryd.pinned (OpenSpec.upto journalRecoversSpec)

/-- 'papermilllaw61.JournalPrefix', WHERE WHAT IT READS IS OF BULK AT MOST 1048576: true; the input reads as it did. -/
def journalPrefixUptoRow : OpenClaim := { program := "ytpcicooogiialaadoor", sum := "d669e8d465cca7a5969960cf19c35b0ea4c3f70e062e7d36d9b12d8669d37289", func := "papermill/papermilllaw61.JournalPrefix", spec := "journalPrefix", named := ["papermill/crc.steps"], apart := false, laid := [("papermill/crc.steps", laid_papermill_crc_steps)], narrowed := true }
def JournalPrefixUptoSaid : Prop := journalPrefixUptoRow.holds Tryd.pinned (OpenSpec.upto journalPrefixSpec)

/-- 'papermilllaw61.JournalRoundTrip', WHERE WHAT IT READS IS OF BULK AT MOST 1048576: true; the input reads as it did. -/
def journalRoundTripUptoRow : OpenClaim := { program := "ytpcicooogiialaadoor", sum := "d669e8d465cca7a5969960cf19c35b0ea4c3f70e062e7d36d9b12d8669d37289", func := "papermill/papermilllaw61.JournalRoundTrip", spec := "journalRoundTrip", named := ["papermill/crc.steps"], apart := false, laid := [("papermill/crc.steps", laid_papermill_crc_steps)], narrowed := true }
def JournalRoundTripUptoSaid : Prop := journalRoundTripUptoRow.holds Tryd.pinned (OpenSpec.upto journalRoundTripSpec)

/-- 'papermilllaw61.JournalTail', WHERE WHAT IT READS IS OF BULK AT MOST 1048576: true; the input reads as it did. -/
def journalTailUptoRow : OpenClaim := { program := "ytpcicooogiialaadoor", sum := "d669e8d465cca7a5969960cf19c35b0ea4c3f70e062e7d36d9b12d8669d37289", func := "papermill/papermilllaw61.JournalTail", spec := "journalTail", named := ["papermill/crc.steps"], apart := false, laid := [("papermill/crc.steps", laid_papermill_crc_steps)], narrowed := true }
def JournalTailUptoSaid : Prop := journalTailUptoRow.holds Tryd.pinned (OpenSpec.upto journalTailSpec)

/-- 'papermilllaw61.JournalGoes', WHERE WHAT IT READS IS OF BULK AT MOST 1048576: true; the input reads as it did. -/
def journalGoesUptoRow : OpenClaim := { program := "ytpcicooogiialaadoor", sum := "d669e8d465cca7a5969960cf19c35b0ea4c3f70e062e7d36d9b12d8669d37289", func := "papermill/papermilllaw61.JournalGoes", spec := "journalGoes", named := ["papermill/crc.steps"], apart := false, laid := [("papermill/crc.steps", laid_papermill_crc_steps)], narrowed := true }
def JournalGoesUptoSaid : Prop := journalGoesUptoRow.holds Tryd.pinned (OpenSpec.upto journalGoesSpec)

end Rows
end Go.Proofs.YtpcicooogiialaaDoor
