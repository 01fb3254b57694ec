/-
  DERIVED. GIVEN WITH THE SEED: THE CARDS: each row of YtjffhhalmicodaaDoorRows.lean that lists a variable, with what it lists TIED to the program's text (the seventh form; the later family's looks); each row that meets fmt, with fmt's text TOLD by the authors' own Lean function (tested against real Go, not proved from fmt's source: count such statements apart). THE CARD IS WHAT COUNTS. Prove the row's statement (the work); the ties are given (YtjffhhalmicodaaDoorTie.lean); close each card by the builder's one call (the guide's Derived/Test/ToyasCard.lean, 'card_holds'). Laid BY PROGRAM, IN A SANDBOX (cutbox-door.mjs). By AI agents, Wed Nov 11 2026. No macro, syntax, notation, axiom, sorry.
-/
import Derived.Test.YtjffhhalmicodaaDoorRows
import GoSem.ClaimSeven
namespace Go.Proofs.YtjffhhalmicodaaDoor
namespace Rows

/-- THE TIED CARD OF 'comfitlaw08.FixesPoints'. -/
def fixesPointsCard : Claim7 := { stood := { row := fixesPointsRow, standIns := [], harness := (true, "1ee4520b691b8a29d5e8f97073e92af4ba9304bc3c2531821990b56e77d1e5e9"), looks := false }, kinds := [], alts := [], laidByText := true, laidKinds := [.data, .pinned], laidTests := true, laidLooks := .later }
def FixesPointsCardSaid : Prop := Claim7.holds Tryd.pinned (.plain (OpenSpec.ofChange fixesPointsSpec)) fixesPointsCard

/-- THE SECOND FORM's CARD OF 'comfitlaw08.FixesPoints'. -/
def fixesPointsUptoCard : Claim7 := { stood := { row := fixesPointsUptoRow, standIns := [], harness := (true, "1ee4520b691b8a29d5e8f97073e92af4ba9304bc3c2531821990b56e77d1e5e9"), looks := false }, kinds := [], alts := [], laidByText := true, laidKinds := [.data, .pinned], laidTests := true, laidLooks := .later }
def FixesPointsUptoCardSaid : Prop := Claim7.holds Tryd.pinned (.plain (OpenSpec.upto fixesPointsSpec)) fixesPointsUptoCard
end Rows
end Go.Proofs.YtjffhhalmicodaaDoor
