/-
  DERIVED. GIVEN WITH THE SEED: THE CARDS: each row of YtpcicooogiialaaDoorRows.lean that lists a variable, with what it lists TIED to the program's text (the seventh form; the later family's looks); each row that meets fmt, with fmt's text TOLD by the authors' own Lean function (tested against real Go, not proved from fmt's source: count such statements apart). THE CARD IS WHAT COUNTS. Prove the row's statement (the work); the ties are given (YtpcicooogiialaaDoorTie.lean); close each card by the builder's one call (the guide's Derived/Test/ToyasCard.lean, 'card_holds'). Laid BY PROGRAM, IN A SANDBOX (cutbox-door.mjs). By AI agents, Wed Nov 11 2026. No macro, syntax, notation, axiom, sorry.
-/
import Derived.Test.YtpcicooogiialaaDoorRows
import GoSem.ClaimSeven
namespace Go.Proofs.YtpcicooogiialaaDoor
namespace Rows

/-- THE TIED CARD OF 'papermilllaw61.JournalChecks'. -/
def journalChecksCard : Claim7 := { stood := { row := journalChecksRow, standIns := [], harness := (true, "878a82f3a022b6009fa66dad3727812cf331fb26ee33ef5655048bdb85d2678d"), looks := false }, kinds := [], alts := [], laidByText := true, laidKinds := [.data], laidTests := true, laidLooks := .later }
def JournalChecksCardSaid : Prop := Claim7.holds Tryd.pinned (.plain (OpenSpec.ofChange journalChecksSpec)) journalChecksCard

/-- THE TIED CARD OF 'papermilllaw61.JournalGets'. -/
def journalGetsCard : Claim7 := { stood := { row := journalGetsRow, standIns := [], harness := (true, "878a82f3a022b6009fa66dad3727812cf331fb26ee33ef5655048bdb85d2678d"), looks := false }, kinds := [], alts := [], laidByText := true, laidKinds := [.data], laidTests := true, laidLooks := .later }
def JournalGetsCardSaid : Prop := Claim7.holds Tryd.pinned (.plain (OpenSpec.ofChange journalGetsSpec)) journalGetsCard

/-- THE TIED CARD OF 'papermilllaw61.JournalAppends'. -/
def journalAppendsCard : Claim7 := { stood := { row := journalAppendsRow, standIns := [], harness := (true, "878a82f3a022b6009fa66dad3727812cf331fb26ee33ef5655048bdb85d2678d"), looks := false }, kinds := [], alts := [], laidByText := true, laidKinds := [.data], laidTests := true, laidLooks := .later }
def JournalAppendsCardSaid : Prop := Claim7.holds Tryd.pinned (.plain (OpenSpec.ofChange journalAppendsSpec)) journalAppendsCard

/-- THE TIED CARD OF 'papermilllaw61.JournalRecovers'. -/
def journalRecoversCard : Claim7 := { stood := { row := journalRecoversRow, standIns := [], harness := (true, "878a82f3a022b6009fa66dad3727812cf331fb26ee33ef5655048bdb85d2678d"), looks := false }, kinds := [], alts := [], laidByText := true, laidKinds := [.data], laidTests := true, laidLooks := .later }
def JournalRecoversCardSaid : Prop := Claim7.holds Tryd.pinned (.plain (OpenSpec.ofChange journalRecoversSpec)) journalRecoversCard

/-- THE TIED CARD OF 'papermilllaw61.JournalPrefix'. -/
def journalPrefixCard : Claim7 := { stood := { row := journalPrefixRow, standIns := [], harness := (true, "878a82f3a022b6009fa66dad3727812cf331fb26ee33ef5655048bdb85d2678d"), looks := false }, kinds := [], alts := [], laidByText := true, laidKinds := [.data], laidTests := true, laidLooks := .later }
def JournalPrefixCardSaid : Prop := Claim7.holds Tryd.pinned (.plain (OpenSpec.ofChange journalPrefixSpec)) journalPrefixCard

/-- THE TIED CARD OF 'papermilllaw61.JournalRoundTrip'. -/
def journalRoundTripCard : Claim7 := { stood := { row := journalRoundTripRow, standIns := [], harness := (true, "878a82f3a022b6009fa66dad3727812cf331fb26ee33ef5655048bdb85d2678d"), looks := false }, kinds := [], alts := [], laidByText := true, laidKinds := [.data], laidTests := true, laidLooks := .later }
def JournalRoundTripCardSaid : Prop := Claim7.holds Tryd.pinned (.plain (OpenSpec.ofChange journalRoundTripSpec)) journalRoundTripCard

/-- THE TIED CARD OF 'papermilllaw61.JournalTail'. -/
def journalTailCard : Claim7 := { stood := { row := journalTailRow, standIns := [], harness := (true, "878a82f3a022b6009fa66dad3727812cf331fb26ee33ef5655048bdb85d2678d"), looks := false }, kinds := [], alts := [], laidByText := true, laidKinds := [.data], laidTests := true, laidLooks := .later }
def JournalTailCardSaid : Prop := Claim7.holds Tryd.pinned (.plain (OpenSpec.ofChange journalTailSpec)) journalTailCard

/-- THE TIED CARD OF 'papermilllaw61.JournalGoes'. -/
def journalGoesCard : Claim7 := { stood := { row := journalGoesRow, standIns := [], harness := (true, "878a82f3a022b6009fa66dad3727812cf331fb26ee33ef5655048bdb85d2678d"), looks := false }, kinds := [], alts := [], laidByText := true, laidKinds := [.data], laidTests := true, laidLooks := .later }
def JournalGoesCardSaid : Prop := Claim7.holds Tryd.pinned (.plain (OpenSpec.ofChange journalGoesSpec)) journalGoesCard

/-- THE SECOND FORM's CARD OF 'papermilllaw61.JournalChecks'. -/
def journalChecksUptoCard : Claim7 := { stood := { row := journalChecksUptoRow, standIns := [], harness := (true, "878a82f3a022b6009fa66dad3727812cf331fb26ee33ef5655048bdb85d2678d"), looks := false }, kinds := [], alts := [], laidByText := true, laidKinds := [.data], laidTests := true, laidLooks := .later }
def JournalChecksUptoCardSaid : Prop := Claim7.holds Tryd.pinned (.plain (OpenSpec.upto journalChecksSpec)) journalChecksUptoCard

/-- THE SECOND FORM's CARD OF 'papermilllaw61.JournalGets'. -/
def journalGetsUptoCard : Claim7 := { stood := { row := journalGetsUptoRow, standIns := [], harness := (true, "878a82f3a022b6009fa66dad3727812cf331fb26ee33ef5655048bdb85d2678d"), looks := false }, kinds := [], alts := [], laidByText := true, laidKinds := [.data], laidTests := true, laidLooks := .later }
def JournalGetsUptoCardSaid : Prop := Claim7.holds Tryd.pinned (.plain (OpenSpec.upto journalGetsSpec)) journalGetsUptoCard

/-- THE SECOND FORM's CARD OF 'papermilllaw61.JournalAppends'. -/
def journalAppendsUptoCard : Claim7 := { stood := { row := journalAppendsUptoRow, standIns := [], harness := (true, "878a82f3a022b6009fa66dad3727812cf331fb26ee33ef5655048bdb85d2678d"), looks := false }, kinds := [], alts := [], laidByText := true, laidKinds := [.data], laidTests := true, laidLooks := .later }
def JournalAppendsUptoCardSaid : Prop := Claim7.holds Tryd.pinned (.plain (OpenSpec.upto journalAppendsSpec)) journalAppendsUptoCard

/-- THE SECOND FORM's CARD OF 'papermilllaw61.JournalRecovers'. -/
def journalRecoversUptoCard : Claim7 := { stood := { row := journalRecoversUptoRow, standIns := [], harness := (true, "878a82f3a022b6009fa66dad3727812cf331fb26ee33ef5655048bdb85d2678d"), looks := false }, kinds := [], alts := [], laidByText := true, laidKinds := [.data], laidTests := true, laidLooks := .later }
def JournalRecoversUptoCardSaid : Prop := Claim7.holds Tryd.pinned (.plain (OpenSpec.upto journalRecoversSpec)) journalRecoversUptoCard

/-- THE SECOND FORM's CARD OF 'papermilllaw61.JournalPrefix'. -/
def journalPrefixUptoCard : Claim7 := { stood := { row := journalPrefixUptoRow, standIns := [], harness := (true, "878a82f3a022b6009fa66dad3727812cf331fb26ee33ef5655048bdb85d2678d"), looks := false }, kinds := [], alts := [], laidByText := true, laidKinds := [.data], laidTests := true, laidLooks := .later }
def JournalPrefixUptoCardSaid : Prop := Claim7.holds Tryd.pinned (.plain (OpenSpec.upto journalPrefixSpec)) journalPrefixUptoCard

/-- THE SECOND FORM's CARD OF 'papermilllaw61.JournalRoundTrip'. -/
def journalRoundTripUptoCard : Claim7 := { stood := { row := journalRoundTripUptoRow, standIns := [], harness := (true, "878a82f3a022b6009fa66dad3727812cf331fb26ee33ef5655048bdb85d2678d"), looks := false }, kinds := [], alts := [], laidByText := true, laidKinds := [.data], laidTests := true, laidLooks := .later }
def JournalRoundTripUptoCardSaid : Prop := Claim7.holds Tryd.pinned (.plain (OpenSpec.upto journalRoundTripSpec)) journalRoundTripUptoCard

/-- THE SECOND FORM's CARD OF 'papermilllaw61.JournalTail'. -/
def journalTailUptoCard : Claim7 := { stood := { row := journalTailUptoRow, standIns := [], harness := (true, "878a82f3a022b6009fa66dad3727812cf331fb26ee33ef5655048bdb85d2678d"), looks := false }, kinds := [], alts := [], laidByText := true, laidKinds := [.data], laidTests := true, laidLooks := .later }
def JournalTailUptoCardSaid : Prop := Claim7.holds Tryd.pinned (.plain (OpenSpec.upto journalTailSpec)) journalTailUptoCard

/-- THE SECOND FORM's CARD OF 'papermilllaw61.JournalGoes'. -/
def journalGoesUptoCard : Claim7 := { stood := { row := journalGoesUptoRow, standIns := [], harness := (true, "878a82f3a022b6009fa66dad3727812cf331fb26ee33ef5655048bdb85d2678d"), looks := false }, kinds := [], alts := [], laidByText := true, laidKinds := [.data], laidTests := true, laidLooks := .later }
def JournalGoesUptoCardSaid : Prop := Claim7.holds Tryd.pinned (.plain (OpenSpec.upto journalGoesSpec)) journalGoesUptoCard
end Rows
end Go.Proofs.YtpcicooogiialaaDoor
