/-
  NARROWER THAN 'FOR EVERY INPUT', by the rows' own cells (each row's printed sentence says how): CrcSums: laid · CrcFrames: laid · CrcOpens: laid · CrcAlls: laid · CrcParts: laid · CrcRoundTrip: laid · CrcBursts: laid · CrcDamaged: laid · CrcCuts: laid.
  DERIVED. THE GIVEN ROWS OF THIS SEAT. 9 by the template 'for every input the law returns true; each argument reads behind the call as it read before'; 0 by the template 'total and deterministic' (their statements: YtdnjbakhnnckbaaDoorTotals.lean).
  GIVEN WITH THE SEED: the statements are not yours to turn. If you find one false, say at which input.
  Laid BY PROGRAM, IN A SANDBOX (cutbox-rows.mjs): the forced cells as the released guide's own fill.sh prints them over the translation 2107ae39521f625e… (all of the seat's roots in one cut). By AI agents, Wed Nov 11 2026. No macro, syntax, notation, axiom, sorry.
-/
import Derived.Test.YtdnjbakhnnckbaaDoorChecked
import GoSem.Claim
import GoSem.ClaimJoined
import GoSem.ClaimMapViews
import Derived.JoinedTies
import Derived.KernelRfl
namespace Go.Proofs.YtdnjbakhnnckbaaDoor
/- THE CELL 'sum', in the pinned program and in every row, IS THE sha256 OF THE DUMP (.gsa) THAT YtdnjbakhnnckbaaDoorProg.lean LOADS. Nothing in Lean hashes anything: it is a label: what it is worth is what the hold of that sum in a sandbox is worth. -/
noncomputable def Tryd.pinned : Pinned := { name := "ytdnjbakhnnckbaadoor", sum := "2107ae39521f625eb9f2e449b562119d4761afbb451494da9e9ebc7b1ccfe3ec", checked := Tryd.checked }
namespace Rows
def none {H : Type} : Left H := { results := [], args := [] }

/- WHAT THE LISTED PACKAGE-LEVEL VARIABLES READ AS WHEN THE CALL BEGINS. Each datum BY PROGRAM (the guide's laid-datum.mjs) off the statement by which the dump's own 'gosem.cut.vars' lays the variable. In a bare row this is a premise. The card (YtdnjbakhnnckbaaDoorCards.lean) ties it to the program's text. -/
def laid_papermill_crc_steps {H : Type} : DataW H := .agg [.lit (.int .u32 0), .lit (.int .u32 498536548), .lit (.int .u32 997073096), .lit (.int .u32 651767980), .lit (.int .u32 1994146192), .lit (.int .u32 1802195444), .lit (.int .u32 1303535960), .lit (.int .u32 1342533948), .lit (.int .u32 3988292384), .lit (.int .u32 4027552580), .lit (.int .u32 3604390888), .lit (.int .u32 3412177804), .lit (.int .u32 2607071920), .lit (.int .u32 2262029012), .lit (.int .u32 2685067896), .lit (.int .u32 3183342108)]

/-- 'papermilllaw09.CrcSums': WHATEVER THE INPUT: true; the input reads as it did. -/
def crcSumsSpec : ChangeSpec := { name := "crcSums", fn := fun _ => fun
  | [d1, d2] => { results := [.lit (.bool true)], args := [d1, d2] }
  | _ => none }
def crcSumsRow : OpenClaim := { program := "ytdnjbakhnnckbaadoor", sum := "2107ae39521f625eb9f2e449b562119d4761afbb451494da9e9ebc7b1ccfe3ec", func := "papermill/papermilllaw09.CrcSums", spec := "crcSums", named := ["papermill/crc.steps"], apart := false, laid := [("papermill/crc.steps", laid_papermill_crc_steps)] }
def CrcSumsSaid : Prop := crcSumsRow.holds Tryd.pinned (OpenSpec.ofChange crcSumsSpec)

/-- ITS FALSE NEIGHBOUR: 'it returns false'. Refute it at one input. -/
def crcSumsWrong : ChangeSpec := { name := "crcSums", fn := fun _ => fun
  | [d1, d2] => { results := [.lit (.bool false)], args := [d1, d2] }
  | _ => none }
def CrcSumsWrongFalsely : Prop := crcSumsRow.holds Tryd.pinned (OpenSpec.ofChange crcSumsWrong)

/-- 'papermilllaw09.CrcFrames': WHATEVER THE INPUT: true; the input reads as it did. -/
def crcFramesSpec : ChangeSpec := { name := "crcFrames", fn := fun _ => fun
  | [d1, d2] => { results := [.lit (.bool true)], args := [d1, d2] }
  | _ => none }
def crcFramesRow : OpenClaim := { program := "ytdnjbakhnnckbaadoor", sum := "2107ae39521f625eb9f2e449b562119d4761afbb451494da9e9ebc7b1ccfe3ec", func := "papermill/papermilllaw09.CrcFrames", spec := "crcFrames", named := ["papermill/crc.steps"], apart := false, laid := [("papermill/crc.steps", laid_papermill_crc_steps)] }
def CrcFramesSaid : Prop := crcFramesRow.holds Tryd.pinned (OpenSpec.ofChange crcFramesSpec)

/-- ITS FALSE NEIGHBOUR: 'it returns false'. Refute it at one input. -/
def crcFramesWrong : ChangeSpec := { name := "crcFrames", fn := fun _ => fun
  | [d1, d2] => { results := [.lit (.bool false)], args := [d1, d2] }
  | _ => none }
def CrcFramesWrongFalsely : Prop := crcFramesRow.holds Tryd.pinned (OpenSpec.ofChange crcFramesWrong)

/-- 'papermilllaw09.CrcOpens': WHATEVER THE INPUT: true; the input reads as it did. -/
def crcOpensSpec : ChangeSpec := { name := "crcOpens", fn := fun _ => fun
  | [d] => { results := [.lit (.bool true)], args := [d] }
  | _ => none }
def crcOpensRow : OpenClaim := { program := "ytdnjbakhnnckbaadoor", sum := "2107ae39521f625eb9f2e449b562119d4761afbb451494da9e9ebc7b1ccfe3ec", func := "papermill/papermilllaw09.CrcOpens", spec := "crcOpens", named := ["papermill/crc.steps"], apart := false, laid := [("papermill/crc.steps", laid_papermill_crc_steps)] }
def CrcOpensSaid : Prop := crcOpensRow.holds Tryd.pinned (OpenSpec.ofChange crcOpensSpec)

/-- ITS FALSE NEIGHBOUR: 'it returns false'. Refute it at one input. -/
def crcOpensWrong : ChangeSpec := { name := "crcOpens", fn := fun _ => fun
  | [d] => { results := [.lit (.bool false)], args := [d] }
  | _ => none }
def CrcOpensWrongFalsely : Prop := crcOpensRow.holds Tryd.pinned (OpenSpec.ofChange crcOpensWrong)

/-- 'papermilllaw09.CrcAlls': WHATEVER THE INPUT: true; the input reads as it did. -/
def crcAllsSpec : ChangeSpec := { name := "crcAlls", fn := fun _ => fun
  | [d] => { results := [.lit (.bool true)], args := [d] }
  | _ => none }
def crcAllsRow : OpenClaim := { program := "ytdnjbakhnnckbaadoor", sum := "2107ae39521f625eb9f2e449b562119d4761afbb451494da9e9ebc7b1ccfe3ec", func := "papermill/papermilllaw09.CrcAlls", spec := "crcAlls", named := ["papermill/crc.steps"], apart := false, laid := [("papermill/crc.steps", laid_papermill_crc_steps)] }
def CrcAllsSaid : Prop := crcAllsRow.holds Tryd.pinned (OpenSpec.ofChange crcAllsSpec)

/-- ITS FALSE NEIGHBOUR: 'it returns false'. Refute it at one input. -/
def crcAllsWrong : ChangeSpec := { name := "crcAlls", fn := fun _ => fun
  | [d] => { results := [.lit (.bool false)], args := [d] }
  | _ => none }
def CrcAllsWrongFalsely : Prop := crcAllsRow.holds Tryd.pinned (OpenSpec.ofChange crcAllsWrong)

/-- 'papermilllaw09.CrcParts': WHATEVER THE INPUT: true; the input reads as it did. -/
def crcPartsSpec : ChangeSpec := { name := "crcParts", fn := fun _ => fun
  | [d1, d2] => { results := [.lit (.bool true)], args := [d1, d2] }
  | _ => none }
def crcPartsRow : OpenClaim := { program := "ytdnjbakhnnckbaadoor", sum := "2107ae39521f625eb9f2e449b562119d4761afbb451494da9e9ebc7b1ccfe3ec", func := "papermill/papermilllaw09.CrcParts", spec := "crcParts", named := ["papermill/crc.steps"], apart := false, laid := [("papermill/crc.steps", laid_papermill_crc_steps)] }
def CrcPartsSaid : Prop := crcPartsRow.holds Tryd.pinned (OpenSpec.ofChange crcPartsSpec)

/-- ITS FALSE NEIGHBOUR: 'it returns false'. Refute it at one input. -/
def crcPartsWrong : ChangeSpec := { name := "crcParts", fn := fun _ => fun
  | [d1, d2] => { results := [.lit (.bool false)], args := [d1, d2] }
  | _ => none }
def CrcPartsWrongFalsely : Prop := crcPartsRow.holds Tryd.pinned (OpenSpec.ofChange crcPartsWrong)

/-- 'papermilllaw09.CrcRoundTrip': WHATEVER THE INPUT: true; the input reads as it did. -/
def crcRoundTripSpec : ChangeSpec := { name := "crcRoundTrip", fn := fun _ => fun
  | [d1, d2] => { results := [.lit (.bool true)], args := [d1, d2] }
  | _ => none }
def crcRoundTripRow : OpenClaim := { program := "ytdnjbakhnnckbaadoor", sum := "2107ae39521f625eb9f2e449b562119d4761afbb451494da9e9ebc7b1ccfe3ec", func := "papermill/papermilllaw09.CrcRoundTrip", spec := "crcRoundTrip", named := ["papermill/crc.steps"], apart := false, laid := [("papermill/crc.steps", laid_papermill_crc_steps)] }
def CrcRoundTripSaid : Prop := crcRoundTripRow.holds Tryd.pinned (OpenSpec.ofChange crcRoundTripSpec)

/-- ITS FALSE NEIGHBOUR: 'it returns false'. Refute it at one input. -/
def crcRoundTripWrong : ChangeSpec := { name := "crcRoundTrip", fn := fun _ => fun
  | [d1, d2] => { results := [.lit (.bool false)], args := [d1, d2] }
  | _ => none }
def CrcRoundTripWrongFalsely : Prop := crcRoundTripRow.holds Tryd.pinned (OpenSpec.ofChange crcRoundTripWrong)

/-- 'papermilllaw09.CrcBursts': WHATEVER THE INPUT: true; the input reads as it did. -/
def crcBurstsSpec : ChangeSpec := { name := "crcBursts", fn := fun _ => fun
  | [d1, d2, d3] => { results := [.lit (.bool true)], args := [d1, d2, d3] }
  | _ => none }
def crcBurstsRow : OpenClaim := { program := "ytdnjbakhnnckbaadoor", sum := "2107ae39521f625eb9f2e449b562119d4761afbb451494da9e9ebc7b1ccfe3ec", func := "papermill/papermilllaw09.CrcBursts", spec := "crcBursts", named := ["papermill/crc.steps"], apart := false, laid := [("papermill/crc.steps", laid_papermill_crc_steps)] }
def CrcBurstsSaid : Prop := crcBurstsRow.holds Tryd.pinned (OpenSpec.ofChange crcBurstsSpec)

/-- ITS FALSE NEIGHBOUR: 'it returns false'. Refute it at one input. -/
def crcBurstsWrong : ChangeSpec := { name := "crcBursts", fn := fun _ => fun
  | [d1, d2, d3] => { results := [.lit (.bool false)], args := [d1, d2, d3] }
  | _ => none }
def CrcBurstsWrongFalsely : Prop := crcBurstsRow.holds Tryd.pinned (OpenSpec.ofChange crcBurstsWrong)

/-- 'papermilllaw09.CrcDamaged': WHATEVER THE INPUT: true; the input reads as it did. -/
def crcDamagedSpec : ChangeSpec := { name := "crcDamaged", fn := fun _ => fun
  | [d1, d2, d3] => { results := [.lit (.bool true)], args := [d1, d2, d3] }
  | _ => none }
def crcDamagedRow : OpenClaim := { program := "ytdnjbakhnnckbaadoor", sum := "2107ae39521f625eb9f2e449b562119d4761afbb451494da9e9ebc7b1ccfe3ec", func := "papermill/papermilllaw09.CrcDamaged", spec := "crcDamaged", named := ["papermill/crc.steps"], apart := false, laid := [("papermill/crc.steps", laid_papermill_crc_steps)] }
def CrcDamagedSaid : Prop := crcDamagedRow.holds Tryd.pinned (OpenSpec.ofChange crcDamagedSpec)

/-- ITS FALSE NEIGHBOUR: 'it returns false'. Refute it at one input. -/
def crcDamagedWrong : ChangeSpec := { name := "crcDamaged", fn := fun _ => fun
  | [d1, d2, d3] => { results := [.lit (.bool false)], args := [d1, d2, d3] }
  | _ => none }
def CrcDamagedWrongFalsely : Prop := crcDamagedRow.holds Tryd.pinned (OpenSpec.ofChange crcDamagedWrong)

/-- 'papermilllaw09.CrcCuts': WHATEVER THE INPUT: true; the input reads as it did. -/
def crcCutsSpec : ChangeSpec := { name := "crcCuts", fn := fun _ => fun
  | [d1, d2] => { results := [.lit (.bool true)], args := [d1, d2] }
  | _ => none }
def crcCutsRow : OpenClaim := { program := "ytdnjbakhnnckbaadoor", sum := "2107ae39521f625eb9f2e449b562119d4761afbb451494da9e9ebc7b1ccfe3ec", func := "papermill/papermilllaw09.CrcCuts", spec := "crcCuts", named := ["papermill/crc.steps"], apart := false, laid := [("papermill/crc.steps", laid_papermill_crc_steps)] }
def CrcCutsSaid : Prop := crcCutsRow.holds Tryd.pinned (OpenSpec.ofChange crcCutsSpec)

/-- ITS FALSE NEIGHBOUR: 'it returns false'. Refute it at one input. -/
def crcCutsWrong : ChangeSpec := { name := "crcCuts", fn := fun _ => fun
  | [d1, d2] => { results := [.lit (.bool false)], args := [d1, d2] }
  | _ => none }
def CrcCutsWrongFalsely : Prop := crcCutsRow.holds Tryd.pinned (OpenSpec.ofChange crcCutsWrong)

/- THE SECOND FORM. 'bulk': how many values and letters a reading holds, each counted each time it is reached (what is shared counts as often as it is met; a slice's spare places count too). A statement '..UptoSaid' is the law's where the arguments, and the package variables that the reading takes, are together of bulk at most 1048576: NARROWER than '..Said'. Prove '..Said' where nothing that the law and all that it calls make is longer than what came in: it says more and counts as full. Else prove '..UptoSaid'. A law counts once. -/
mutual
def uptoBulk {H : Type} : DataW H → Nat
  | .lit (.string bytes) => bytes.length + 1
  | .lit _ => 1
  | .nil => 1
  | .ptr d => uptoBulk d + 1
  | .slice elems spare => uptoBulkAll elems + uptoBulkAll spare + 1
  | .agg parts => uptoBulkAll parts + 1
  | .iface _ d => uptoBulk d + 1
  | .map entries => uptoBulkEntries entries + 1
  | .held _ => 1
def uptoBulkAll {H : Type} : List (DataW H) → Nat
  | [] => 0
  | d :: r => uptoBulk d + uptoBulkAll r
def uptoBulkEntries {H : Type} : List (Lit × DataW H) → Nat
  | [] => 0
  | x :: r => uptoBulkEntry x + uptoBulkEntries r
def uptoBulkEntry {H : Type} : Lit × DataW H → Nat
  | (.string bytes, d) => bytes.length + uptoBulk d + 1
  | (_, d) => uptoBulk d + 1
 end
def uptoSmall : (H : Type) → List (DataW H) → Bool := fun _ ds => decide (uptoBulkAll ds ≤ 1048576)
def OpenSpec.upto (s : _root_.Go.ChangeSpec) : _root_.Go.OpenSpec := { _root_.Go.OpenSpec.ofChange s with cond := some uptoSmall }

/-- 'papermilllaw09.CrcSums', WHERE WHAT IT READS IS OF BULK AT MOST 1048576: true; the input reads as it did. -/
def crcSumsUptoRow : OpenClaim := { program := "ytdnjbakhnnckbaadoor", sum := "2107ae39521f625eb9f2e449b562119d4761afbb451494da9e9ebc7b1ccfe3ec", func := "papermill/papermilllaw09.CrcSums", spec := "crcSums", named := ["papermill/crc.steps"], apart := false, laid := [("papermill/crc.steps", laid_papermill_crc_steps)], narrowed := true }
def CrcSumsUptoSaid : Prop := crcSumsUptoRow.holds Tryd.pinned (OpenSpec.upto crcSumsSpec)

/-- 'papermilllaw09.CrcFrames', WHERE WHAT IT READS IS OF BULK AT MOST 1048576: true; the input reads as it did. -/
def crcFramesUptoRow : OpenClaim := { program := "ytdnjbakhnnckbaadoor", sum := "2107ae39521f625eb9f2e449b562119d4761afbb451494da9e9ebc7b1ccfe3ec", func := "papermill/papermilllaw09.CrcFrames", spec := "crcFrames", named := ["papermill/crc.steps"], apart := false, laid := [("papermill/crc.steps", laid_papermill_crc_steps)], narrowed := true }
def CrcFramesUptoSaid : Prop := crcFramesUptoRow.holds Tryd.pinned (OpenSpec.upto crcFramesSpec)

/-- 'papermilllaw09.CrcOpens', WHERE WHAT IT READS IS OF BULK AT MOST 1048576: true; the input reads as it did. -/
def crcOpensUptoRow : OpenClaim := { program := "ytdnjbakhnnckbaadoor", sum := "2107ae39521f625eb9f2e449b562119d4761afbb451494da9e9ebc7b1ccfe3ec", func := "papermill/papermilllaw09.CrcOpens", spec := "crcOpens", named := ["papermill/crc.steps"], apart := false, laid := [("papermill/crc.steps", laid_papermill_crc_steps)], narrowed := true }
def CrcOpensUptoSaid : Prop := crcOpensUptoRow.holds Tryd.pinned (OpenSpec.upto crcOpensSpec)

/-- 'papermilllaw09.CrcAlls', WHERE WHAT IT READS IS OF BULK AT MOST 1048576: true; the input reads as it did. -/
def crcAllsUptoRow : OpenClaim := { program := "ytdnjbakhnnckbaadoor", sum := "2107ae39521f625eb9f2e449b562119d4761afbb451494da9e9ebc7b1ccfe3ec", func := "papermill/papermilllaw09.CrcAlls", spec := "crcAlls", named := ["papermill/crc.steps"], apart := false, laid := [("papermill/crc.steps", laid_papermill_crc_steps)], narrowed := true }
def CrcAllsUptoSaid : Prop := crcAllsUptoRow.holds Tryd.pinned (OpenSpec.upto crcAllsSpec)

/-- 'papermilllaw09.CrcParts', WHERE WHAT IT READS IS OF BULK AT MOST 1048576: true; the input reads as it did. -/
def crcPartsUptoRow : OpenClaim := { program := "ytdnjbakhnnckbaadoor", sum := "2107ae39521f625eb9f2e449b562119d4761afbb451494da9e9ebc7b1ccfe3ec", func := "papermill/papermilllaw09.CrcParts", spec := "crcParts", named := ["papermill/crc.steps"], apart := false, laid := [("papermill/crc.steps", laid_papermill_crc_steps)], narrowed := true }
def CrcPartsUptoSaid : Prop := crcPartsUptoRow.holds Tryd.pinned (OpenSpec.upto crcPartsSpec)

/-- 'papermilllaw09.CrcRoundTrip', WHERE WHAT IT READS IS OF BULK AT MOST 1048576: true; the input reads as it did. -/
def crcRoundTripUptoRow : OpenClaim := { program := "ytdnjbakhnnckbaadoor", sum := "2107ae39521f625eb9f2e449b562119d4761afbb451494da9e9ebc7b1ccfe3ec", func := "papermill/papermilllaw09.CrcRoundTrip", spec := "crcRoundTrip", named := ["papermill/crc.steps"], apart := false, laid := [("papermill/crc.steps", laid_papermill_crc_steps)], narrowed := true }
def CrcRoundTripUptoSaid : Prop := crcRoundTripUptoRow.holds Tryd.pinned (OpenSpec.upto crcRoundTripSpec)

/-- 'papermilllaw09.CrcBursts', WHERE WHAT IT READS IS OF BULK AT MOST 1048576: true; the input reads as it did. -/
def crcBurstsUptoRow : OpenClaim := { program := "ytdnjbakhnnckbaadoor", sum := "2107ae39521f625eb9f2e449b562119d4761afbb451494da9e9ebc7b1ccfe3ec", func := "papermill/papermilllaw09.CrcBursts", spec := "crcBursts", named := ["papermill/crc.steps"], apart := false, laid := [("papermill/crc.steps", laid_papermill_crc_steps)], narrowed := true }
def CrcBurstsUptoSaid : Prop := crcBurstsUptoRow.holds Tryd.pinned (OpenSpec.upto crcBurstsSpec)

/-- 'papermilllaw09.CrcDamaged', WHERE WHAT IT READS IS OF BULK AT MOST 1048576: true; the input reads as it did. -/
def crcDamagedUptoRow : OpenClaim := { program := "ytdnjbakhnnckbaadoor", sum := "2107ae39521f625eb9f2e449b562119d4761afbb451494da9e9ebc7b1ccfe3ec", func := "papermill/papermilllaw09.CrcDamaged", spec := "crcDamaged", named := ["papermill/crc.steps"], apart := false, laid := [("papermill/crc.steps", laid_papermill_crc_steps)], narrowed := true }
def CrcDamagedUptoSaid : Prop := crcDamagedUptoRow.holds Tryd.pinned (OpenSpec.upto crcDamagedSpec)

/-- 'papermilllaw09.CrcCuts', WHERE WHAT IT READS IS OF BULK AT MOST 1048576: true; the input reads as it did. -/
def crcCutsUptoRow : OpenClaim := { program := "ytdnjbakhnnckbaadoor", sum := "2107ae39521f625eb9f2e449b562119d4761afbb451494da9e9ebc7b1ccfe3ec", func := "papermill/papermilllaw09.CrcCuts", spec := "crcCuts", named := ["papermill/crc.steps"], apart := false, laid := [("papermill/crc.steps", laid_papermill_crc_steps)], narrowed := true }
def CrcCutsUptoSaid : Prop := crcCutsUptoRow.holds Tryd.pinned (OpenSpec.upto crcCutsSpec)

end Rows
end Go.Proofs.YtdnjbakhnnckbaaDoor
