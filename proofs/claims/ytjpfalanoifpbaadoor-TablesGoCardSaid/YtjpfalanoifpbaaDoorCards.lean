/-
  DERIVED. GIVEN WITH THE SEED: THE CARDS: each row of YtjpfalanoifpbaaDoorRows.lean that lists a variable, with what it lists TIED to the program's text (the seventh form; the later family's looks); each row that meets fmt, with fmt's text TOLD by the authors' own Lean function (tested against real Go, not proved from fmt's source: count such statements apart). THE CARD IS WHAT COUNTS. Prove the row's statement (the work); the ties are given (YtjpfalanoifpbaaDoorTie.lean); close each card by the builder's one call (the guide's Derived/Test/ToyasCard.lean, 'card_holds'). Laid BY PROGRAM, IN A SANDBOX (cutbox-door.mjs). By AI agents, Wed Nov 11 2026. No macro, syntax, notation, axiom, sorry.
-/
import Derived.Test.YtjpfalanoifpbaaDoorRows
import GoSem.ClaimSeven
namespace Go.Proofs.YtjpfalanoifpbaaDoor
namespace Rows

/-- THE TIED CARD OF 'comfitlaw05.TablesFirst'. -/
def tablesFirstCard : Claim7 := { stood := { row := tablesFirstRow, standIns := [], harness := (true, "b0ada6e4fe4046f42a8eb827865cdcef13e416e282f33c76dc460f2117e08de8"), looks := false }, kinds := [], alts := [], laidByText := true, laidKinds := [.data, .pinned], laidTests := true, laidLooks := .later }
def TablesFirstCardSaid : Prop := Claim7.holds Tryd.pinned (.plain (OpenSpec.ofChange tablesFirstSpec)) tablesFirstCard

/-- THE TIED CARD OF 'comfitlaw05.TablesTrees'. -/
def tablesTreesCard : Claim7 := { stood := { row := tablesTreesRow, standIns := [], harness := (true, "b0ada6e4fe4046f42a8eb827865cdcef13e416e282f33c76dc460f2117e08de8"), looks := false }, kinds := [], alts := [], laidByText := true, laidKinds := [.data, .pinned], laidTests := true, laidLooks := .later }
def TablesTreesCardSaid : Prop := Claim7.holds Tryd.pinned (.plain (OpenSpec.ofChange tablesTreesSpec)) tablesTreesCard

/-- THE TIED CARD OF 'comfitlaw05.TablesBegins'. -/
def tablesBeginsCard : Claim7 := { stood := { row := tablesBeginsRow, standIns := [], harness := (true, "b0ada6e4fe4046f42a8eb827865cdcef13e416e282f33c76dc460f2117e08de8"), looks := false }, kinds := [], alts := [], laidByText := true, laidKinds := [.data, .pinned], laidTests := true, laidLooks := .later }
def TablesBeginsCardSaid : Prop := Claim7.holds Tryd.pinned (.plain (OpenSpec.ofChange tablesBeginsSpec)) tablesBeginsCard

/-- THE TIED CARD OF 'comfitlaw05.TablesWords'. -/
def tablesWordsCard : Claim7 := { stood := { row := tablesWordsRow, standIns := [], harness := (true, "b0ada6e4fe4046f42a8eb827865cdcef13e416e282f33c76dc460f2117e08de8"), looks := false }, kinds := [], alts := [], laidByText := true, laidKinds := [.data, .pinned], laidTests := true, laidLooks := .later }
def TablesWordsCardSaid : Prop := Claim7.holds Tryd.pinned (.plain (OpenSpec.ofChange tablesWordsSpec)) tablesWordsCard

/-- THE TIED CARD OF 'comfitlaw05.TablesTrims'. -/
def tablesTrimsCard : Claim7 := { stood := { row := tablesTrimsRow, standIns := [], harness := (true, "b0ada6e4fe4046f42a8eb827865cdcef13e416e282f33c76dc460f2117e08de8"), looks := false }, kinds := [], alts := [], laidByText := true, laidKinds := [.data, .pinned], laidTests := true, laidLooks := .later }
def TablesTrimsCardSaid : Prop := Claim7.holds Tryd.pinned (.plain (OpenSpec.ofChange tablesTrimsSpec)) tablesTrimsCard

/-- THE TIED CARD OF 'comfitlaw05.TablesTrimmed'. -/
def tablesTrimmedCard : Claim7 := { stood := { row := tablesTrimmedRow, standIns := [], harness := (true, "b0ada6e4fe4046f42a8eb827865cdcef13e416e282f33c76dc460f2117e08de8"), looks := false }, kinds := [], alts := [], laidByText := true, laidKinds := [.data, .pinned], laidTests := true, laidLooks := .later }
def TablesTrimmedCardSaid : Prop := Claim7.holds Tryd.pinned (.plain (OpenSpec.ofChange tablesTrimmedSpec)) tablesTrimmedCard

/-- THE TIED CARD OF 'comfitlaw05.TablesStates'. -/
def tablesStatesCard : Claim7 := { stood := { row := tablesStatesRow, standIns := [], harness := (true, "b0ada6e4fe4046f42a8eb827865cdcef13e416e282f33c76dc460f2117e08de8"), looks := false }, kinds := [], alts := [], laidByText := true, laidKinds := [.data, .pinned], laidTests := true, laidLooks := .later }
def TablesStatesCardSaid : Prop := Claim7.holds Tryd.pinned (.plain (OpenSpec.ofChange tablesStatesSpec)) tablesStatesCard

/-- THE TIED CARD OF 'comfitlaw05.TablesReached'. -/
def tablesReachedCard : Claim7 := { stood := { row := tablesReachedRow, standIns := [], harness := (true, "b0ada6e4fe4046f42a8eb827865cdcef13e416e282f33c76dc460f2117e08de8"), looks := false }, kinds := [], alts := [], laidByText := true, laidKinds := [.data, .pinned], laidTests := true, laidLooks := .later }
def TablesReachedCardSaid : Prop := Claim7.holds Tryd.pinned (.plain (OpenSpec.ofChange tablesReachedSpec)) tablesReachedCard

/-- THE TIED CARD OF 'comfitlaw05.TablesGo'. -/
def tablesGoCard : Claim7 := { stood := { row := tablesGoRow, standIns := [], harness := (true, "b0ada6e4fe4046f42a8eb827865cdcef13e416e282f33c76dc460f2117e08de8"), looks := false }, kinds := [], alts := [], laidByText := true, laidKinds := [.data, .pinned], laidTests := true, laidLooks := .later }
def TablesGoCardSaid : Prop := Claim7.holds Tryd.pinned (.plain (OpenSpec.ofChange tablesGoSpec)) tablesGoCard

/-- THE TIED CARD OF 'comfitlaw05.TablesRenamed'. -/
def tablesRenamedCard : Claim7 := { stood := { row := tablesRenamedRow, standIns := [], harness := (true, "b0ada6e4fe4046f42a8eb827865cdcef13e416e282f33c76dc460f2117e08de8"), looks := false }, kinds := [], alts := [], laidByText := true, laidKinds := [.data, .pinned], laidTests := true, laidLooks := .later }
def TablesRenamedCardSaid : Prop := Claim7.holds Tryd.pinned (.plain (OpenSpec.ofChange tablesRenamedSpec)) tablesRenamedCard

/-- THE TIED CARD OF 'comfitlaw05.TablesReads'. -/
def tablesReadsCard : Claim7 := { stood := { row := tablesReadsRow, standIns := [], harness := (true, "b0ada6e4fe4046f42a8eb827865cdcef13e416e282f33c76dc460f2117e08de8"), looks := false }, kinds := [], alts := [], laidByText := true, laidKinds := [.data, .pinned], laidTests := true, laidLooks := .later }
def TablesReadsCardSaid : Prop := Claim7.holds Tryd.pinned (.plain (OpenSpec.ofChange tablesReadsSpec)) tablesReadsCard

/-- THE TIED CARD OF 'comfitlaw05.TablesMakes'. -/
def tablesMakesCard : Claim7 := { stood := { row := tablesMakesRow, standIns := [], harness := (true, "b0ada6e4fe4046f42a8eb827865cdcef13e416e282f33c76dc460f2117e08de8"), looks := false }, kinds := [], alts := [], laidByText := true, laidKinds := [.data, .pinned], laidTests := true, laidLooks := .later }
def TablesMakesCardSaid : Prop := Claim7.holds Tryd.pinned (.plain (OpenSpec.ofChange tablesMakesSpec)) tablesMakesCard

/-- THE TIED CARD OF 'comfitlaw05.TablesDoubled'. -/
def tablesDoubledCard : Claim7 := { stood := { row := tablesDoubledRow, standIns := [], harness := (true, "b0ada6e4fe4046f42a8eb827865cdcef13e416e282f33c76dc460f2117e08de8"), looks := false }, kinds := [], alts := [], laidByText := true, laidKinds := [.data, .pinned], laidTests := true, laidLooks := .later }
def TablesDoubledCardSaid : Prop := Claim7.holds Tryd.pinned (.plain (OpenSpec.ofChange tablesDoubledSpec)) tablesDoubledCard

/-- THE TIED CARD OF 'comfitlaw05.TablesDecides'. -/
def tablesDecidesCard : Claim7 := { stood := { row := tablesDecidesRow, standIns := [], harness := (true, "b0ada6e4fe4046f42a8eb827865cdcef13e416e282f33c76dc460f2117e08de8"), looks := false }, kinds := [], alts := [], laidByText := true, laidKinds := [.data, .pinned], laidTests := true, laidLooks := .later }
def TablesDecidesCardSaid : Prop := Claim7.holds Tryd.pinned (.plain (OpenSpec.ofChange tablesDecidesSpec)) tablesDecidesCard

/-- THE SECOND FORM's CARD OF 'comfitlaw05.TablesFirst'. -/
def tablesFirstUptoCard : Claim7 := { stood := { row := tablesFirstUptoRow, standIns := [], harness := (true, "b0ada6e4fe4046f42a8eb827865cdcef13e416e282f33c76dc460f2117e08de8"), looks := false }, kinds := [], alts := [], laidByText := true, laidKinds := [.data, .pinned], laidTests := true, laidLooks := .later }
def TablesFirstUptoCardSaid : Prop := Claim7.holds Tryd.pinned (.plain (OpenSpec.upto tablesFirstSpec)) tablesFirstUptoCard

/-- THE SECOND FORM's CARD OF 'comfitlaw05.TablesTrees'. -/
def tablesTreesUptoCard : Claim7 := { stood := { row := tablesTreesUptoRow, standIns := [], harness := (true, "b0ada6e4fe4046f42a8eb827865cdcef13e416e282f33c76dc460f2117e08de8"), looks := false }, kinds := [], alts := [], laidByText := true, laidKinds := [.data, .pinned], laidTests := true, laidLooks := .later }
def TablesTreesUptoCardSaid : Prop := Claim7.holds Tryd.pinned (.plain (OpenSpec.upto tablesTreesSpec)) tablesTreesUptoCard

/-- THE SECOND FORM's CARD OF 'comfitlaw05.TablesBegins'. -/
def tablesBeginsUptoCard : Claim7 := { stood := { row := tablesBeginsUptoRow, standIns := [], harness := (true, "b0ada6e4fe4046f42a8eb827865cdcef13e416e282f33c76dc460f2117e08de8"), looks := false }, kinds := [], alts := [], laidByText := true, laidKinds := [.data, .pinned], laidTests := true, laidLooks := .later }
def TablesBeginsUptoCardSaid : Prop := Claim7.holds Tryd.pinned (.plain (OpenSpec.upto tablesBeginsSpec)) tablesBeginsUptoCard

/-- THE SECOND FORM's CARD OF 'comfitlaw05.TablesWords'. -/
def tablesWordsUptoCard : Claim7 := { stood := { row := tablesWordsUptoRow, standIns := [], harness := (true, "b0ada6e4fe4046f42a8eb827865cdcef13e416e282f33c76dc460f2117e08de8"), looks := false }, kinds := [], alts := [], laidByText := true, laidKinds := [.data, .pinned], laidTests := true, laidLooks := .later }
def TablesWordsUptoCardSaid : Prop := Claim7.holds Tryd.pinned (.plain (OpenSpec.upto tablesWordsSpec)) tablesWordsUptoCard

/-- THE SECOND FORM's CARD OF 'comfitlaw05.TablesTrims'. -/
def tablesTrimsUptoCard : Claim7 := { stood := { row := tablesTrimsUptoRow, standIns := [], harness := (true, "b0ada6e4fe4046f42a8eb827865cdcef13e416e282f33c76dc460f2117e08de8"), looks := false }, kinds := [], alts := [], laidByText := true, laidKinds := [.data, .pinned], laidTests := true, laidLooks := .later }
def TablesTrimsUptoCardSaid : Prop := Claim7.holds Tryd.pinned (.plain (OpenSpec.upto tablesTrimsSpec)) tablesTrimsUptoCard

/-- THE SECOND FORM's CARD OF 'comfitlaw05.TablesTrimmed'. -/
def tablesTrimmedUptoCard : Claim7 := { stood := { row := tablesTrimmedUptoRow, standIns := [], harness := (true, "b0ada6e4fe4046f42a8eb827865cdcef13e416e282f33c76dc460f2117e08de8"), looks := false }, kinds := [], alts := [], laidByText := true, laidKinds := [.data, .pinned], laidTests := true, laidLooks := .later }
def TablesTrimmedUptoCardSaid : Prop := Claim7.holds Tryd.pinned (.plain (OpenSpec.upto tablesTrimmedSpec)) tablesTrimmedUptoCard

/-- THE SECOND FORM's CARD OF 'comfitlaw05.TablesStates'. -/
def tablesStatesUptoCard : Claim7 := { stood := { row := tablesStatesUptoRow, standIns := [], harness := (true, "b0ada6e4fe4046f42a8eb827865cdcef13e416e282f33c76dc460f2117e08de8"), looks := false }, kinds := [], alts := [], laidByText := true, laidKinds := [.data, .pinned], laidTests := true, laidLooks := .later }
def TablesStatesUptoCardSaid : Prop := Claim7.holds Tryd.pinned (.plain (OpenSpec.upto tablesStatesSpec)) tablesStatesUptoCard

/-- THE SECOND FORM's CARD OF 'comfitlaw05.TablesReached'. -/
def tablesReachedUptoCard : Claim7 := { stood := { row := tablesReachedUptoRow, standIns := [], harness := (true, "b0ada6e4fe4046f42a8eb827865cdcef13e416e282f33c76dc460f2117e08de8"), looks := false }, kinds := [], alts := [], laidByText := true, laidKinds := [.data, .pinned], laidTests := true, laidLooks := .later }
def TablesReachedUptoCardSaid : Prop := Claim7.holds Tryd.pinned (.plain (OpenSpec.upto tablesReachedSpec)) tablesReachedUptoCard

/-- THE SECOND FORM's CARD OF 'comfitlaw05.TablesGo'. -/
def tablesGoUptoCard : Claim7 := { stood := { row := tablesGoUptoRow, standIns := [], harness := (true, "b0ada6e4fe4046f42a8eb827865cdcef13e416e282f33c76dc460f2117e08de8"), looks := false }, kinds := [], alts := [], laidByText := true, laidKinds := [.data, .pinned], laidTests := true, laidLooks := .later }
def TablesGoUptoCardSaid : Prop := Claim7.holds Tryd.pinned (.plain (OpenSpec.upto tablesGoSpec)) tablesGoUptoCard

/-- THE SECOND FORM's CARD OF 'comfitlaw05.TablesRenamed'. -/
def tablesRenamedUptoCard : Claim7 := { stood := { row := tablesRenamedUptoRow, standIns := [], harness := (true, "b0ada6e4fe4046f42a8eb827865cdcef13e416e282f33c76dc460f2117e08de8"), looks := false }, kinds := [], alts := [], laidByText := true, laidKinds := [.data, .pinned], laidTests := true, laidLooks := .later }
def TablesRenamedUptoCardSaid : Prop := Claim7.holds Tryd.pinned (.plain (OpenSpec.upto tablesRenamedSpec)) tablesRenamedUptoCard

/-- THE SECOND FORM's CARD OF 'comfitlaw05.TablesReads'. -/
def tablesReadsUptoCard : Claim7 := { stood := { row := tablesReadsUptoRow, standIns := [], harness := (true, "b0ada6e4fe4046f42a8eb827865cdcef13e416e282f33c76dc460f2117e08de8"), looks := false }, kinds := [], alts := [], laidByText := true, laidKinds := [.data, .pinned], laidTests := true, laidLooks := .later }
def TablesReadsUptoCardSaid : Prop := Claim7.holds Tryd.pinned (.plain (OpenSpec.upto tablesReadsSpec)) tablesReadsUptoCard

/-- THE SECOND FORM's CARD OF 'comfitlaw05.TablesMakes'. -/
def tablesMakesUptoCard : Claim7 := { stood := { row := tablesMakesUptoRow, standIns := [], harness := (true, "b0ada6e4fe4046f42a8eb827865cdcef13e416e282f33c76dc460f2117e08de8"), looks := false }, kinds := [], alts := [], laidByText := true, laidKinds := [.data, .pinned], laidTests := true, laidLooks := .later }
def TablesMakesUptoCardSaid : Prop := Claim7.holds Tryd.pinned (.plain (OpenSpec.upto tablesMakesSpec)) tablesMakesUptoCard

/-- THE SECOND FORM's CARD OF 'comfitlaw05.TablesDoubled'. -/
def tablesDoubledUptoCard : Claim7 := { stood := { row := tablesDoubledUptoRow, standIns := [], harness := (true, "b0ada6e4fe4046f42a8eb827865cdcef13e416e282f33c76dc460f2117e08de8"), looks := false }, kinds := [], alts := [], laidByText := true, laidKinds := [.data, .pinned], laidTests := true, laidLooks := .later }
def TablesDoubledUptoCardSaid : Prop := Claim7.holds Tryd.pinned (.plain (OpenSpec.upto tablesDoubledSpec)) tablesDoubledUptoCard

/-- THE SECOND FORM's CARD OF 'comfitlaw05.TablesDecides'. -/
def tablesDecidesUptoCard : Claim7 := { stood := { row := tablesDecidesUptoRow, standIns := [], harness := (true, "b0ada6e4fe4046f42a8eb827865cdcef13e416e282f33c76dc460f2117e08de8"), looks := false }, kinds := [], alts := [], laidByText := true, laidKinds := [.data, .pinned], laidTests := true, laidLooks := .later }
def TablesDecidesUptoCardSaid : Prop := Claim7.holds Tryd.pinned (.plain (OpenSpec.upto tablesDecidesSpec)) tablesDecidesUptoCard
end Rows
end Go.Proofs.YtjpfalanoifpbaaDoor
