/-
  DERIVED. GIVEN WITH THE SEED: THE CARDS: each row of YtpfenoioeajkmaaDoorRows.lean that lists a variable, with what it lists TIED to the program's text (the seventh form; the later family's looks); each row that meets fmt, with fmt's text TOLD by the authors' own Lean function (tested against real Go, not proved from fmt's source: count such statements apart). THE CARD IS WHAT COUNTS. Prove the row's statement (the work); the ties are given (YtpfenoioeajkmaaDoorTie.lean); close each card by the builder's one call (the guide's Derived/Test/ToyasCard.lean, 'card_holds'). Laid BY PROGRAM, IN A SANDBOX (cutbox-door.mjs). By AI agents, Wed Nov 11 2026. No macro, syntax, notation, axiom, sorry.
-/
import Derived.Test.YtpfenoioeajkmaaDoorRows
import GoSem.ClaimSeven
namespace Go.Proofs.YtpfenoioeajkmaaDoor
namespace Rows

/-- THE TIED CARD OF 'comfitlaw07.MouldsBacks'. -/
def mouldsBacksCard : Claim7 := { stood := { row := mouldsBacksRow, standIns := [], harness := (true, "30718d7ed51bad7abb2ad613406220b1c7cd9b8a89306bd03474b5d44988e593"), looks := false }, kinds := [], alts := [], laidByText := true, laidKinds := [.data, .pinned], laidTests := true, laidLooks := .later }
def MouldsBacksCardSaid : Prop := Claim7.holds Tryd.pinned (.plain (OpenSpec.ofChange mouldsBacksSpec)) mouldsBacksCard

/-- THE TIED CARD OF 'comfitlaw07.MouldsTurns'. -/
def mouldsTurnsCard : Claim7 := { stood := { row := mouldsTurnsRow, standIns := [], harness := (true, "30718d7ed51bad7abb2ad613406220b1c7cd9b8a89306bd03474b5d44988e593"), looks := false }, kinds := [], alts := [], laidByText := true, laidKinds := [.data, .pinned], laidTests := true, laidLooks := .later }
def MouldsTurnsCardSaid : Prop := Claim7.holds Tryd.pinned (.plain (OpenSpec.ofChange mouldsTurnsSpec)) mouldsTurnsCard

/-- THE TIED CARD OF 'comfitlaw07.MouldsMirrors'. -/
def mouldsMirrorsCard : Claim7 := { stood := { row := mouldsMirrorsRow, standIns := [], harness := (true, "30718d7ed51bad7abb2ad613406220b1c7cd9b8a89306bd03474b5d44988e593"), looks := false }, kinds := [], alts := [], laidByText := true, laidKinds := [.data, .pinned], laidTests := true, laidLooks := .later }
def MouldsMirrorsCardSaid : Prop := Claim7.holds Tryd.pinned (.plain (OpenSpec.ofChange mouldsMirrorsSpec)) mouldsMirrorsCard

/-- THE TIED CARD OF 'comfitlaw07.MouldsTiles'. -/
def mouldsTilesCard : Claim7 := { stood := { row := mouldsTilesRow, standIns := [], harness := (true, "30718d7ed51bad7abb2ad613406220b1c7cd9b8a89306bd03474b5d44988e593"), looks := false }, kinds := [], alts := [], laidByText := true, laidKinds := [.data, .pinned], laidTests := true, laidLooks := .later }
def MouldsTilesCardSaid : Prop := Claim7.holds Tryd.pinned (.plain (OpenSpec.ofChange mouldsTilesSpec)) mouldsTilesCard

/-- THE TIED CARD OF 'comfitlaw07.MouldsEither'. -/
def mouldsEitherCard : Claim7 := { stood := { row := mouldsEitherRow, standIns := [], harness := (true, "30718d7ed51bad7abb2ad613406220b1c7cd9b8a89306bd03474b5d44988e593"), looks := false }, kinds := [], alts := [], laidByText := true, laidKinds := [.data, .pinned], laidTests := true, laidLooks := .later }
def MouldsEitherCardSaid : Prop := Claim7.holds Tryd.pinned (.plain (OpenSpec.ofChange mouldsEitherSpec)) mouldsEitherCard

/-- THE TIED CARD OF 'comfitlaw07.MouldsFactors'. -/
def mouldsFactorsCard : Claim7 := { stood := { row := mouldsFactorsRow, standIns := [], harness := (true, "30718d7ed51bad7abb2ad613406220b1c7cd9b8a89306bd03474b5d44988e593"), looks := false }, kinds := [], alts := [], laidByText := true, laidKinds := [.data, .pinned], laidTests := true, laidLooks := .later }
def MouldsFactorsCardSaid : Prop := Claim7.holds Tryd.pinned (.plain (OpenSpec.ofChange mouldsFactorsSpec)) mouldsFactorsCard

/-- THE TIED CARD OF 'comfitlaw07.MouldsQuarters'. -/
def mouldsQuartersCard : Claim7 := { stood := { row := mouldsQuartersRow, standIns := [], harness := (true, "30718d7ed51bad7abb2ad613406220b1c7cd9b8a89306bd03474b5d44988e593"), looks := false }, kinds := [], alts := [], laidByText := true, laidKinds := [.data, .pinned], laidTests := true, laidLooks := .later }
def MouldsQuartersCardSaid : Prop := Claim7.holds Tryd.pinned (.plain (OpenSpec.ofChange mouldsQuartersSpec)) mouldsQuartersCard

/-- THE TIED CARD OF 'comfitlaw07.MouldsFills'. -/
def mouldsFillsCard : Claim7 := { stood := { row := mouldsFillsRow, standIns := [], harness := (true, "30718d7ed51bad7abb2ad613406220b1c7cd9b8a89306bd03474b5d44988e593"), looks := false }, kinds := [], alts := [], laidByText := true, laidKinds := [.data, .pinned], laidTests := true, laidLooks := .later }
def MouldsFillsCardSaid : Prop := Claim7.holds Tryd.pinned (.plain (OpenSpec.ofChange mouldsFillsSpec)) mouldsFillsCard

/-- THE TIED CARD OF 'comfitlaw07.MouldsRoom'. -/
def mouldsRoomCard : Claim7 := { stood := { row := mouldsRoomRow, standIns := [], harness := (true, "30718d7ed51bad7abb2ad613406220b1c7cd9b8a89306bd03474b5d44988e593"), looks := false }, kinds := [], alts := [], laidByText := true, laidKinds := [.data, .pinned], laidTests := true, laidLooks := .later }
def MouldsRoomCardSaid : Prop := Claim7.holds Tryd.pinned (.plain (OpenSpec.ofChange mouldsRoomSpec)) mouldsRoomCard

/-- THE TIED CARD OF 'comfitlaw07.MouldsOutlines'. -/
def mouldsOutlinesCard : Claim7 := { stood := { row := mouldsOutlinesRow, standIns := [], harness := (true, "30718d7ed51bad7abb2ad613406220b1c7cd9b8a89306bd03474b5d44988e593"), looks := false }, kinds := [], alts := [], laidByText := true, laidKinds := [.data, .pinned], laidTests := true, laidLooks := .later }
def MouldsOutlinesCardSaid : Prop := Claim7.holds Tryd.pinned (.plain (OpenSpec.ofChange mouldsOutlinesSpec)) mouldsOutlinesCard

/-- THE TIED CARD OF 'comfitlaw07.MouldsLong'. -/
def mouldsLongCard : Claim7 := { stood := { row := mouldsLongRow, standIns := [], harness := (true, "30718d7ed51bad7abb2ad613406220b1c7cd9b8a89306bd03474b5d44988e593"), looks := false }, kinds := [], alts := [], laidByText := true, laidKinds := [.data, .pinned], laidTests := true, laidLooks := .later }
def MouldsLongCardSaid : Prop := Claim7.holds Tryd.pinned (.plain (OpenSpec.ofChange mouldsLongSpec)) mouldsLongCard

/-- THE TIED CARD OF 'comfitlaw07.MouldsIs'. -/
def mouldsIsCard : Claim7 := { stood := { row := mouldsIsRow, standIns := [], harness := (true, "30718d7ed51bad7abb2ad613406220b1c7cd9b8a89306bd03474b5d44988e593"), looks := false }, kinds := [], alts := [], laidByText := true, laidKinds := [.data, .pinned], laidTests := true, laidLooks := .later }
def MouldsIsCardSaid : Prop := Claim7.holds Tryd.pinned (.plain (OpenSpec.ofChange mouldsIsSpec)) mouldsIsCard

/-- THE TIED CARD OF 'comfitlaw07.MouldsLaid'. -/
def mouldsLaidCard : Claim7 := { stood := { row := mouldsLaidRow, standIns := [], harness := (true, "30718d7ed51bad7abb2ad613406220b1c7cd9b8a89306bd03474b5d44988e593"), looks := false }, kinds := [], alts := [], laidByText := true, laidKinds := [.data, .pinned], laidTests := true, laidLooks := .later }
def MouldsLaidCardSaid : Prop := Claim7.holds Tryd.pinned (.plain (OpenSpec.ofChange mouldsLaidSpec)) mouldsLaidCard

/-- THE TIED CARD OF 'comfitlaw07.MouldsRound'. -/
def mouldsRoundCard : Claim7 := { stood := { row := mouldsRoundRow, standIns := [], harness := (true, "30718d7ed51bad7abb2ad613406220b1c7cd9b8a89306bd03474b5d44988e593"), looks := false }, kinds := [], alts := [], laidByText := true, laidKinds := [.data, .pinned], laidTests := true, laidLooks := .later }
def MouldsRoundCardSaid : Prop := Claim7.holds Tryd.pinned (.plain (OpenSpec.ofChange mouldsRoundSpec)) mouldsRoundCard

/-- THE SECOND FORM's CARD OF 'comfitlaw07.MouldsBacks'. -/
def mouldsBacksUptoCard : Claim7 := { stood := { row := mouldsBacksUptoRow, standIns := [], harness := (true, "30718d7ed51bad7abb2ad613406220b1c7cd9b8a89306bd03474b5d44988e593"), looks := false }, kinds := [], alts := [], laidByText := true, laidKinds := [.data, .pinned], laidTests := true, laidLooks := .later }
def MouldsBacksUptoCardSaid : Prop := Claim7.holds Tryd.pinned (.plain (OpenSpec.upto mouldsBacksSpec)) mouldsBacksUptoCard

/-- THE SECOND FORM's CARD OF 'comfitlaw07.MouldsTurns'. -/
def mouldsTurnsUptoCard : Claim7 := { stood := { row := mouldsTurnsUptoRow, standIns := [], harness := (true, "30718d7ed51bad7abb2ad613406220b1c7cd9b8a89306bd03474b5d44988e593"), looks := false }, kinds := [], alts := [], laidByText := true, laidKinds := [.data, .pinned], laidTests := true, laidLooks := .later }
def MouldsTurnsUptoCardSaid : Prop := Claim7.holds Tryd.pinned (.plain (OpenSpec.upto mouldsTurnsSpec)) mouldsTurnsUptoCard

/-- THE SECOND FORM's CARD OF 'comfitlaw07.MouldsMirrors'. -/
def mouldsMirrorsUptoCard : Claim7 := { stood := { row := mouldsMirrorsUptoRow, standIns := [], harness := (true, "30718d7ed51bad7abb2ad613406220b1c7cd9b8a89306bd03474b5d44988e593"), looks := false }, kinds := [], alts := [], laidByText := true, laidKinds := [.data, .pinned], laidTests := true, laidLooks := .later }
def MouldsMirrorsUptoCardSaid : Prop := Claim7.holds Tryd.pinned (.plain (OpenSpec.upto mouldsMirrorsSpec)) mouldsMirrorsUptoCard

/-- THE SECOND FORM's CARD OF 'comfitlaw07.MouldsTiles'. -/
def mouldsTilesUptoCard : Claim7 := { stood := { row := mouldsTilesUptoRow, standIns := [], harness := (true, "30718d7ed51bad7abb2ad613406220b1c7cd9b8a89306bd03474b5d44988e593"), looks := false }, kinds := [], alts := [], laidByText := true, laidKinds := [.data, .pinned], laidTests := true, laidLooks := .later }
def MouldsTilesUptoCardSaid : Prop := Claim7.holds Tryd.pinned (.plain (OpenSpec.upto mouldsTilesSpec)) mouldsTilesUptoCard

/-- THE SECOND FORM's CARD OF 'comfitlaw07.MouldsEither'. -/
def mouldsEitherUptoCard : Claim7 := { stood := { row := mouldsEitherUptoRow, standIns := [], harness := (true, "30718d7ed51bad7abb2ad613406220b1c7cd9b8a89306bd03474b5d44988e593"), looks := false }, kinds := [], alts := [], laidByText := true, laidKinds := [.data, .pinned], laidTests := true, laidLooks := .later }
def MouldsEitherUptoCardSaid : Prop := Claim7.holds Tryd.pinned (.plain (OpenSpec.upto mouldsEitherSpec)) mouldsEitherUptoCard

/-- THE SECOND FORM's CARD OF 'comfitlaw07.MouldsFactors'. -/
def mouldsFactorsUptoCard : Claim7 := { stood := { row := mouldsFactorsUptoRow, standIns := [], harness := (true, "30718d7ed51bad7abb2ad613406220b1c7cd9b8a89306bd03474b5d44988e593"), looks := false }, kinds := [], alts := [], laidByText := true, laidKinds := [.data, .pinned], laidTests := true, laidLooks := .later }
def MouldsFactorsUptoCardSaid : Prop := Claim7.holds Tryd.pinned (.plain (OpenSpec.upto mouldsFactorsSpec)) mouldsFactorsUptoCard

/-- THE SECOND FORM's CARD OF 'comfitlaw07.MouldsQuarters'. -/
def mouldsQuartersUptoCard : Claim7 := { stood := { row := mouldsQuartersUptoRow, standIns := [], harness := (true, "30718d7ed51bad7abb2ad613406220b1c7cd9b8a89306bd03474b5d44988e593"), looks := false }, kinds := [], alts := [], laidByText := true, laidKinds := [.data, .pinned], laidTests := true, laidLooks := .later }
def MouldsQuartersUptoCardSaid : Prop := Claim7.holds Tryd.pinned (.plain (OpenSpec.upto mouldsQuartersSpec)) mouldsQuartersUptoCard

/-- THE SECOND FORM's CARD OF 'comfitlaw07.MouldsFills'. -/
def mouldsFillsUptoCard : Claim7 := { stood := { row := mouldsFillsUptoRow, standIns := [], harness := (true, "30718d7ed51bad7abb2ad613406220b1c7cd9b8a89306bd03474b5d44988e593"), looks := false }, kinds := [], alts := [], laidByText := true, laidKinds := [.data, .pinned], laidTests := true, laidLooks := .later }
def MouldsFillsUptoCardSaid : Prop := Claim7.holds Tryd.pinned (.plain (OpenSpec.upto mouldsFillsSpec)) mouldsFillsUptoCard

/-- THE SECOND FORM's CARD OF 'comfitlaw07.MouldsRoom'. -/
def mouldsRoomUptoCard : Claim7 := { stood := { row := mouldsRoomUptoRow, standIns := [], harness := (true, "30718d7ed51bad7abb2ad613406220b1c7cd9b8a89306bd03474b5d44988e593"), looks := false }, kinds := [], alts := [], laidByText := true, laidKinds := [.data, .pinned], laidTests := true, laidLooks := .later }
def MouldsRoomUptoCardSaid : Prop := Claim7.holds Tryd.pinned (.plain (OpenSpec.upto mouldsRoomSpec)) mouldsRoomUptoCard

/-- THE SECOND FORM's CARD OF 'comfitlaw07.MouldsOutlines'. -/
def mouldsOutlinesUptoCard : Claim7 := { stood := { row := mouldsOutlinesUptoRow, standIns := [], harness := (true, "30718d7ed51bad7abb2ad613406220b1c7cd9b8a89306bd03474b5d44988e593"), looks := false }, kinds := [], alts := [], laidByText := true, laidKinds := [.data, .pinned], laidTests := true, laidLooks := .later }
def MouldsOutlinesUptoCardSaid : Prop := Claim7.holds Tryd.pinned (.plain (OpenSpec.upto mouldsOutlinesSpec)) mouldsOutlinesUptoCard

/-- THE SECOND FORM's CARD OF 'comfitlaw07.MouldsLong'. -/
def mouldsLongUptoCard : Claim7 := { stood := { row := mouldsLongUptoRow, standIns := [], harness := (true, "30718d7ed51bad7abb2ad613406220b1c7cd9b8a89306bd03474b5d44988e593"), looks := false }, kinds := [], alts := [], laidByText := true, laidKinds := [.data, .pinned], laidTests := true, laidLooks := .later }
def MouldsLongUptoCardSaid : Prop := Claim7.holds Tryd.pinned (.plain (OpenSpec.upto mouldsLongSpec)) mouldsLongUptoCard

/-- THE SECOND FORM's CARD OF 'comfitlaw07.MouldsIs'. -/
def mouldsIsUptoCard : Claim7 := { stood := { row := mouldsIsUptoRow, standIns := [], harness := (true, "30718d7ed51bad7abb2ad613406220b1c7cd9b8a89306bd03474b5d44988e593"), looks := false }, kinds := [], alts := [], laidByText := true, laidKinds := [.data, .pinned], laidTests := true, laidLooks := .later }
def MouldsIsUptoCardSaid : Prop := Claim7.holds Tryd.pinned (.plain (OpenSpec.upto mouldsIsSpec)) mouldsIsUptoCard

/-- THE SECOND FORM's CARD OF 'comfitlaw07.MouldsLaid'. -/
def mouldsLaidUptoCard : Claim7 := { stood := { row := mouldsLaidUptoRow, standIns := [], harness := (true, "30718d7ed51bad7abb2ad613406220b1c7cd9b8a89306bd03474b5d44988e593"), looks := false }, kinds := [], alts := [], laidByText := true, laidKinds := [.data, .pinned], laidTests := true, laidLooks := .later }
def MouldsLaidUptoCardSaid : Prop := Claim7.holds Tryd.pinned (.plain (OpenSpec.upto mouldsLaidSpec)) mouldsLaidUptoCard

/-- THE SECOND FORM's CARD OF 'comfitlaw07.MouldsRound'. -/
def mouldsRoundUptoCard : Claim7 := { stood := { row := mouldsRoundUptoRow, standIns := [], harness := (true, "30718d7ed51bad7abb2ad613406220b1c7cd9b8a89306bd03474b5d44988e593"), looks := false }, kinds := [], alts := [], laidByText := true, laidKinds := [.data, .pinned], laidTests := true, laidLooks := .later }
def MouldsRoundUptoCardSaid : Prop := Claim7.holds Tryd.pinned (.plain (OpenSpec.upto mouldsRoundSpec)) mouldsRoundUptoCard
end Rows
end Go.Proofs.YtpfenoioeajkmaaDoor
