/-
  DERIVED. GIVEN WITH THE SEED: THE CARDS: each row of YtdnjbakhnnckbaaDoorRows.lean that lists a variable, with what it lists TIED to the program's text (the seventh form; the later family's looks); each row that meets fmt, with fmt's text TOLD by the authors' own Lean function (tested against real Go, not proved from fmt's source: count such statements apart). THE CARD IS WHAT COUNTS. Prove the row's statement (the work); the ties are given (YtdnjbakhnnckbaaDoorTie.lean); close each card by the builder's one call (the guide's Derived/Test/ToyasCard.lean, 'card_holds'). Laid BY PROGRAM, IN A SANDBOX (cutbox-door.mjs). By AI agents, Wed Nov 11 2026. No macro, syntax, notation, axiom, sorry.
-/
import Derived.Test.YtdnjbakhnnckbaaDoorRows
import GoSem.ClaimSeven
namespace Go.Proofs.YtdnjbakhnnckbaaDoor
namespace Rows

/-- THE TIED CARD OF 'papermilllaw09.CrcSums'. -/
def crcSumsCard : Claim7 := { stood := { row := crcSumsRow, standIns := [], harness := (true, "d8a91fe42236ccbf24c956bcf644371ef76d15e60c781664ae044084c31be5d6"), looks := false }, kinds := [], alts := [], laidByText := true, laidKinds := [.data], laidTests := true, laidLooks := .later }
def CrcSumsCardSaid : Prop := Claim7.holds Tryd.pinned (.plain (OpenSpec.ofChange crcSumsSpec)) crcSumsCard

/-- THE TIED CARD OF 'papermilllaw09.CrcFrames'. -/
def crcFramesCard : Claim7 := { stood := { row := crcFramesRow, standIns := [], harness := (true, "d8a91fe42236ccbf24c956bcf644371ef76d15e60c781664ae044084c31be5d6"), looks := false }, kinds := [], alts := [], laidByText := true, laidKinds := [.data], laidTests := true, laidLooks := .later }
def CrcFramesCardSaid : Prop := Claim7.holds Tryd.pinned (.plain (OpenSpec.ofChange crcFramesSpec)) crcFramesCard

/-- THE TIED CARD OF 'papermilllaw09.CrcOpens'. -/
def crcOpensCard : Claim7 := { stood := { row := crcOpensRow, standIns := [], harness := (true, "d8a91fe42236ccbf24c956bcf644371ef76d15e60c781664ae044084c31be5d6"), looks := false }, kinds := [], alts := [], laidByText := true, laidKinds := [.data], laidTests := true, laidLooks := .later }
def CrcOpensCardSaid : Prop := Claim7.holds Tryd.pinned (.plain (OpenSpec.ofChange crcOpensSpec)) crcOpensCard

/-- THE TIED CARD OF 'papermilllaw09.CrcAlls'. -/
def crcAllsCard : Claim7 := { stood := { row := crcAllsRow, standIns := [], harness := (true, "d8a91fe42236ccbf24c956bcf644371ef76d15e60c781664ae044084c31be5d6"), looks := false }, kinds := [], alts := [], laidByText := true, laidKinds := [.data], laidTests := true, laidLooks := .later }
def CrcAllsCardSaid : Prop := Claim7.holds Tryd.pinned (.plain (OpenSpec.ofChange crcAllsSpec)) crcAllsCard

/-- THE TIED CARD OF 'papermilllaw09.CrcParts'. -/
def crcPartsCard : Claim7 := { stood := { row := crcPartsRow, standIns := [], harness := (true, "d8a91fe42236ccbf24c956bcf644371ef76d15e60c781664ae044084c31be5d6"), looks := false }, kinds := [], alts := [], laidByText := true, laidKinds := [.data], laidTests := true, laidLooks := .later }
def CrcPartsCardSaid : Prop := Claim7.holds Tryd.pinned (.plain (OpenSpec.ofChange crcPartsSpec)) crcPartsCard

/-- THE TIED CARD OF 'papermilllaw09.CrcRoundTrip'. -/
def crcRoundTripCard : Claim7 := { stood := { row := crcRoundTripRow, standIns := [], harness := (true, "d8a91fe42236ccbf24c956bcf644371ef76d15e60c781664ae044084c31be5d6"), looks := false }, kinds := [], alts := [], laidByText := true, laidKinds := [.data], laidTests := true, laidLooks := .later }
def CrcRoundTripCardSaid : Prop := Claim7.holds Tryd.pinned (.plain (OpenSpec.ofChange crcRoundTripSpec)) crcRoundTripCard

/-- THE TIED CARD OF 'papermilllaw09.CrcBursts'. -/
def crcBurstsCard : Claim7 := { stood := { row := crcBurstsRow, standIns := [], harness := (true, "d8a91fe42236ccbf24c956bcf644371ef76d15e60c781664ae044084c31be5d6"), looks := false }, kinds := [], alts := [], laidByText := true, laidKinds := [.data], laidTests := true, laidLooks := .later }
def CrcBurstsCardSaid : Prop := Claim7.holds Tryd.pinned (.plain (OpenSpec.ofChange crcBurstsSpec)) crcBurstsCard

/-- THE TIED CARD OF 'papermilllaw09.CrcDamaged'. -/
def crcDamagedCard : Claim7 := { stood := { row := crcDamagedRow, standIns := [], harness := (true, "d8a91fe42236ccbf24c956bcf644371ef76d15e60c781664ae044084c31be5d6"), looks := false }, kinds := [], alts := [], laidByText := true, laidKinds := [.data], laidTests := true, laidLooks := .later }
def CrcDamagedCardSaid : Prop := Claim7.holds Tryd.pinned (.plain (OpenSpec.ofChange crcDamagedSpec)) crcDamagedCard

/-- THE TIED CARD OF 'papermilllaw09.CrcCuts'. -/
def crcCutsCard : Claim7 := { stood := { row := crcCutsRow, standIns := [], harness := (true, "d8a91fe42236ccbf24c956bcf644371ef76d15e60c781664ae044084c31be5d6"), looks := false }, kinds := [], alts := [], laidByText := true, laidKinds := [.data], laidTests := true, laidLooks := .later }
def CrcCutsCardSaid : Prop := Claim7.holds Tryd.pinned (.plain (OpenSpec.ofChange crcCutsSpec)) crcCutsCard

/-- THE SECOND FORM's CARD OF 'papermilllaw09.CrcSums'. -/
def crcSumsUptoCard : Claim7 := { stood := { row := crcSumsUptoRow, standIns := [], harness := (true, "d8a91fe42236ccbf24c956bcf644371ef76d15e60c781664ae044084c31be5d6"), looks := false }, kinds := [], alts := [], laidByText := true, laidKinds := [.data], laidTests := true, laidLooks := .later }
def CrcSumsUptoCardSaid : Prop := Claim7.holds Tryd.pinned (.plain (OpenSpec.upto crcSumsSpec)) crcSumsUptoCard

/-- THE SECOND FORM's CARD OF 'papermilllaw09.CrcFrames'. -/
def crcFramesUptoCard : Claim7 := { stood := { row := crcFramesUptoRow, standIns := [], harness := (true, "d8a91fe42236ccbf24c956bcf644371ef76d15e60c781664ae044084c31be5d6"), looks := false }, kinds := [], alts := [], laidByText := true, laidKinds := [.data], laidTests := true, laidLooks := .later }
def CrcFramesUptoCardSaid : Prop := Claim7.holds Tryd.pinned (.plain (OpenSpec.upto crcFramesSpec)) crcFramesUptoCard

/-- THE SECOND FORM's CARD OF 'papermilllaw09.CrcOpens'. -/
def crcOpensUptoCard : Claim7 := { stood := { row := crcOpensUptoRow, standIns := [], harness := (true, "d8a91fe42236ccbf24c956bcf644371ef76d15e60c781664ae044084c31be5d6"), looks := false }, kinds := [], alts := [], laidByText := true, laidKinds := [.data], laidTests := true, laidLooks := .later }
def CrcOpensUptoCardSaid : Prop := Claim7.holds Tryd.pinned (.plain (OpenSpec.upto crcOpensSpec)) crcOpensUptoCard

/-- THE SECOND FORM's CARD OF 'papermilllaw09.CrcAlls'. -/
def crcAllsUptoCard : Claim7 := { stood := { row := crcAllsUptoRow, standIns := [], harness := (true, "d8a91fe42236ccbf24c956bcf644371ef76d15e60c781664ae044084c31be5d6"), looks := false }, kinds := [], alts := [], laidByText := true, laidKinds := [.data], laidTests := true, laidLooks := .later }
def CrcAllsUptoCardSaid : Prop := Claim7.holds Tryd.pinned (.plain (OpenSpec.upto crcAllsSpec)) crcAllsUptoCard

/-- THE SECOND FORM's CARD OF 'papermilllaw09.CrcParts'. -/
def crcPartsUptoCard : Claim7 := { stood := { row := crcPartsUptoRow, standIns := [], harness := (true, "d8a91fe42236ccbf24c956bcf644371ef76d15e60c781664ae044084c31be5d6"), looks := false }, kinds := [], alts := [], laidByText := true, laidKinds := [.data], laidTests := true, laidLooks := .later }
def CrcPartsUptoCardSaid : Prop := Claim7.holds Tryd.pinned (.plain (OpenSpec.upto crcPartsSpec)) crcPartsUptoCard

/-- THE SECOND FORM's CARD OF 'papermilllaw09.CrcRoundTrip'. -/
def crcRoundTripUptoCard : Claim7 := { stood := { row := crcRoundTripUptoRow, standIns := [], harness := (true, "d8a91fe42236ccbf24c956bcf644371ef76d15e60c781664ae044084c31be5d6"), looks := false }, kinds := [], alts := [], laidByText := true, laidKinds := [.data], laidTests := true, laidLooks := .later }
def CrcRoundTripUptoCardSaid : Prop := Claim7.holds Tryd.pinned (.plain (OpenSpec.upto crcRoundTripSpec)) crcRoundTripUptoCard

/-- THE SECOND FORM's CARD OF 'papermilllaw09.CrcBursts'. -/
def crcBurstsUptoCard : Claim7 := { stood := { row := crcBurstsUptoRow, standIns := [], harness := (true, "d8a91fe42236ccbf24c956bcf644371ef76d15e60c781664ae044084c31be5d6"), looks := false }, kinds := [], alts := [], laidByText := true, laidKinds := [.data], laidTests := true, laidLooks := .later }
def CrcBurstsUptoCardSaid : Prop := Claim7.holds Tryd.pinned (.plain (OpenSpec.upto crcBurstsSpec)) crcBurstsUptoCard

/-- THE SECOND FORM's CARD OF 'papermilllaw09.CrcDamaged'. -/
def crcDamagedUptoCard : Claim7 := { stood := { row := crcDamagedUptoRow, standIns := [], harness := (true, "d8a91fe42236ccbf24c956bcf644371ef76d15e60c781664ae044084c31be5d6"), looks := false }, kinds := [], alts := [], laidByText := true, laidKinds := [.data], laidTests := true, laidLooks := .later }
def CrcDamagedUptoCardSaid : Prop := Claim7.holds Tryd.pinned (.plain (OpenSpec.upto crcDamagedSpec)) crcDamagedUptoCard

/-- THE SECOND FORM's CARD OF 'papermilllaw09.CrcCuts'. -/
def crcCutsUptoCard : Claim7 := { stood := { row := crcCutsUptoRow, standIns := [], harness := (true, "d8a91fe42236ccbf24c956bcf644371ef76d15e60c781664ae044084c31be5d6"), looks := false }, kinds := [], alts := [], laidByText := true, laidKinds := [.data], laidTests := true, laidLooks := .later }
def CrcCutsUptoCardSaid : Prop := Claim7.holds Tryd.pinned (.plain (OpenSpec.upto crcCutsSpec)) crcCutsUptoCard
end Rows
end Go.Proofs.YtdnjbakhnnckbaaDoor
