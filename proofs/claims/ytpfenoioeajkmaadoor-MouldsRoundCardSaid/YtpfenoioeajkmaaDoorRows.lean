/-
  NARROWER THAN 'FOR EVERY INPUT', by the rows' own cells (each row's printed sentence says how): MouldsBacks: laid · MouldsTurns: laid · MouldsMirrors: laid · MouldsTiles: laid · MouldsEither: laid · MouldsFactors: laid · MouldsQuarters: laid · MouldsFills: laid · MouldsRoom: laid · MouldsOutlines: laid · MouldsLong: laid · MouldsIs: laid · MouldsLaid: laid · MouldsRound: laid.
  DERIVED. THE GIVEN ROWS OF THIS SEAT. 14 by the template 'for every input the law returns true; each argument reads behind the call as it read before'; 0 by the template 'total and deterministic' (their statements: YtpfenoioeajkmaaDoorTotals.lean).
  GIVEN WITH THE SEED: the statements are not yours to turn. If you find one false, say at which input.
  Laid BY PROGRAM, IN A SANDBOX (cutbox-rows.mjs): the forced cells as the released guide's own fill.sh prints them over the translation 0c6ef8d5279315d9… (all of the seat's roots in one cut). By AI agents, Wed Nov 11 2026. No macro, syntax, notation, axiom, sorry.
-/
import Derived.Test.YtpfenoioeajkmaaDoorChecked
import GoSem.PinnedTables
import GoSem.Claim
import GoSem.ClaimJoined
import GoSem.ClaimMapViews
import Derived.JoinedTies
import Derived.KernelRfl
namespace Go.Proofs.YtpfenoioeajkmaaDoor
/- THE CELL 'sum', in the pinned program and in every row, IS THE sha256 OF THE DUMP (.gsa) THAT YtpfenoioeajkmaaDoorProg.lean LOADS. Nothing in Lean hashes anything: it is a label: what it is worth is what the hold of that sum in a sandbox is worth. -/
noncomputable def Tryd.pinned : Pinned := { name := "ytpfenoioeajkmaadoor", sum := "0c6ef8d5279315d996f2f4dc5a4b4ab6b1115955299aa210bd2ecc85364fba48", checked := Tryd.checked }
namespace Rows
def none {H : Type} : Left H := { results := [], args := [] }

/- WHAT THE LISTED PACKAGE-LEVEL VARIABLES READ AS WHEN THE CALL BEGINS. Each datum BY PROGRAM (the guide's laid-datum.mjs) off the statement by which the dump's own 'gosem.cut.vars' lays the variable. In a bare row this is a premise. The card (YtpfenoioeajkmaaDoorCards.lean) ties it to the program's text. -/
def laid_unicode_utf8_acceptRanges {H : Type} : DataW H := .agg [.agg [.lit (.int .u8 128), .lit (.int .u8 191)], .agg [.lit (.int .u8 160), .lit (.int .u8 191)], .agg [.lit (.int .u8 128), .lit (.int .u8 159)], .agg [.lit (.int .u8 144), .lit (.int .u8 191)], .agg [.lit (.int .u8 128), .lit (.int .u8 143)], .agg [.lit (.int .u8 0), .lit (.int .u8 0)], .agg [.lit (.int .u8 0), .lit (.int .u8 0)], .agg [.lit (.int .u8 0), .lit (.int .u8 0)], .agg [.lit (.int .u8 0), .lit (.int .u8 0)], .agg [.lit (.int .u8 0), .lit (.int .u8 0)], .agg [.lit (.int .u8 0), .lit (.int .u8 0)], .agg [.lit (.int .u8 0), .lit (.int .u8 0)], .agg [.lit (.int .u8 0), .lit (.int .u8 0)], .agg [.lit (.int .u8 0), .lit (.int .u8 0)], .agg [.lit (.int .u8 0), .lit (.int .u8 0)], .agg [.lit (.int .u8 0), .lit (.int .u8 0)]]
/-- One of Go's own tables, pinned by name: the form's constant. -/
def laid_unicode_utf8_first : DataW Unit := Go.Pinned.utf8First

/-- 'comfitlaw07.MouldsBacks': WHATEVER THE INPUT: true; the input reads as it did. -/
def mouldsBacksSpec : ChangeSpec := { name := "mouldsBacks", fn := fun _ => fun
  | [d1, d2] => { results := [.lit (.bool true)], args := [d1, d2] }
  | _ => none }
def mouldsBacksRow : OpenClaim := { program := "ytpfenoioeajkmaadoor", sum := "0c6ef8d5279315d996f2f4dc5a4b4ab6b1115955299aa210bd2ecc85364fba48", func := "comfit/comfitlaw07.MouldsBacks", spec := "mouldsBacks", inPlace := ["internal/bytealg.IndexByteString", "internal/bytealg.IndexString"], named := ["unicode/utf8.first", "unicode/utf8.acceptRanges", "internal/bytealg.MaxLen"], plainKeys := false, apart := false, laid := [("unicode/utf8.acceptRanges", laid_unicode_utf8_acceptRanges), ("unicode/utf8.first", laid_unicode_utf8_first)] }
def MouldsBacksSaid : Prop := mouldsBacksRow.holds Tryd.pinned (OpenSpec.ofChange mouldsBacksSpec)

/-- ITS FALSE NEIGHBOUR: 'it returns false'. Refute it at one input. -/
def mouldsBacksWrong : ChangeSpec := { name := "mouldsBacks", fn := fun _ => fun
  | [d1, d2] => { results := [.lit (.bool false)], args := [d1, d2] }
  | _ => none }
def MouldsBacksWrongFalsely : Prop := mouldsBacksRow.holds Tryd.pinned (OpenSpec.ofChange mouldsBacksWrong)

/-- 'comfitlaw07.MouldsTurns': WHATEVER THE INPUT: true; the input reads as it did. -/
def mouldsTurnsSpec : ChangeSpec := { name := "mouldsTurns", fn := fun _ => fun
  | [d] => { results := [.lit (.bool true)], args := [d] }
  | _ => none }
def mouldsTurnsRow : OpenClaim := { program := "ytpfenoioeajkmaadoor", sum := "0c6ef8d5279315d996f2f4dc5a4b4ab6b1115955299aa210bd2ecc85364fba48", func := "comfit/comfitlaw07.MouldsTurns", spec := "mouldsTurns", inPlace := ["internal/bytealg.IndexByteString", "internal/bytealg.IndexString"], named := ["unicode/utf8.first", "unicode/utf8.acceptRanges", "internal/bytealg.MaxLen"], plainKeys := false, apart := false, laid := [("unicode/utf8.acceptRanges", laid_unicode_utf8_acceptRanges), ("unicode/utf8.first", laid_unicode_utf8_first)] }
def MouldsTurnsSaid : Prop := mouldsTurnsRow.holds Tryd.pinned (OpenSpec.ofChange mouldsTurnsSpec)

/-- ITS FALSE NEIGHBOUR: 'it returns false'. Refute it at one input. -/
def mouldsTurnsWrong : ChangeSpec := { name := "mouldsTurns", fn := fun _ => fun
  | [d] => { results := [.lit (.bool false)], args := [d] }
  | _ => none }
def MouldsTurnsWrongFalsely : Prop := mouldsTurnsRow.holds Tryd.pinned (OpenSpec.ofChange mouldsTurnsWrong)

/-- 'comfitlaw07.MouldsMirrors': WHATEVER THE INPUT: true; the input reads as it did. -/
def mouldsMirrorsSpec : ChangeSpec := { name := "mouldsMirrors", fn := fun _ => fun
  | [d] => { results := [.lit (.bool true)], args := [d] }
  | _ => none }
def mouldsMirrorsRow : OpenClaim := { program := "ytpfenoioeajkmaadoor", sum := "0c6ef8d5279315d996f2f4dc5a4b4ab6b1115955299aa210bd2ecc85364fba48", func := "comfit/comfitlaw07.MouldsMirrors", spec := "mouldsMirrors", inPlace := ["internal/bytealg.IndexByteString", "internal/bytealg.IndexString"], named := ["unicode/utf8.first", "unicode/utf8.acceptRanges", "internal/bytealg.MaxLen"], plainKeys := false, apart := false, laid := [("unicode/utf8.acceptRanges", laid_unicode_utf8_acceptRanges), ("unicode/utf8.first", laid_unicode_utf8_first)] }
def MouldsMirrorsSaid : Prop := mouldsMirrorsRow.holds Tryd.pinned (OpenSpec.ofChange mouldsMirrorsSpec)

/-- ITS FALSE NEIGHBOUR: 'it returns false'. Refute it at one input. -/
def mouldsMirrorsWrong : ChangeSpec := { name := "mouldsMirrors", fn := fun _ => fun
  | [d] => { results := [.lit (.bool false)], args := [d] }
  | _ => none }
def MouldsMirrorsWrongFalsely : Prop := mouldsMirrorsRow.holds Tryd.pinned (OpenSpec.ofChange mouldsMirrorsWrong)

/-- 'comfitlaw07.MouldsTiles': WHATEVER THE INPUT: true; the input reads as it did. -/
def mouldsTilesSpec : ChangeSpec := { name := "mouldsTiles", fn := fun _ => fun
  | [d] => { results := [.lit (.bool true)], args := [d] }
  | _ => none }
def mouldsTilesRow : OpenClaim := { program := "ytpfenoioeajkmaadoor", sum := "0c6ef8d5279315d996f2f4dc5a4b4ab6b1115955299aa210bd2ecc85364fba48", func := "comfit/comfitlaw07.MouldsTiles", spec := "mouldsTiles", inPlace := ["internal/bytealg.IndexByteString", "internal/bytealg.IndexString"], unfollowed := true, recurses := true, named := ["unicode/utf8.first", "unicode/utf8.acceptRanges", "internal/bytealg.MaxLen"], plainKeys := false, apart := false, laid := [("unicode/utf8.acceptRanges", laid_unicode_utf8_acceptRanges), ("unicode/utf8.first", laid_unicode_utf8_first)] }
def MouldsTilesSaid : Prop := mouldsTilesRow.holds Tryd.pinned (OpenSpec.ofChange mouldsTilesSpec)

/-- ITS FALSE NEIGHBOUR: 'it returns false'. Refute it at one input. -/
def mouldsTilesWrong : ChangeSpec := { name := "mouldsTiles", fn := fun _ => fun
  | [d] => { results := [.lit (.bool false)], args := [d] }
  | _ => none }
def MouldsTilesWrongFalsely : Prop := mouldsTilesRow.holds Tryd.pinned (OpenSpec.ofChange mouldsTilesWrong)

/-- 'comfitlaw07.MouldsEither': WHATEVER THE INPUT: true; the input reads as it did. -/
def mouldsEitherSpec : ChangeSpec := { name := "mouldsEither", fn := fun _ => fun
  | [d] => { results := [.lit (.bool true)], args := [d] }
  | _ => none }
def mouldsEitherRow : OpenClaim := { program := "ytpfenoioeajkmaadoor", sum := "0c6ef8d5279315d996f2f4dc5a4b4ab6b1115955299aa210bd2ecc85364fba48", func := "comfit/comfitlaw07.MouldsEither", spec := "mouldsEither", inPlace := ["internal/bytealg.IndexByteString", "internal/bytealg.IndexString"], unfollowed := true, recurses := true, named := ["unicode/utf8.first", "unicode/utf8.acceptRanges", "internal/bytealg.MaxLen"], plainKeys := false, apart := false, laid := [("unicode/utf8.acceptRanges", laid_unicode_utf8_acceptRanges), ("unicode/utf8.first", laid_unicode_utf8_first)] }
def MouldsEitherSaid : Prop := mouldsEitherRow.holds Tryd.pinned (OpenSpec.ofChange mouldsEitherSpec)

/-- ITS FALSE NEIGHBOUR: 'it returns false'. Refute it at one input. -/
def mouldsEitherWrong : ChangeSpec := { name := "mouldsEither", fn := fun _ => fun
  | [d] => { results := [.lit (.bool false)], args := [d] }
  | _ => none }
def MouldsEitherWrongFalsely : Prop := mouldsEitherRow.holds Tryd.pinned (OpenSpec.ofChange mouldsEitherWrong)

/-- 'comfitlaw07.MouldsFactors': WHATEVER THE INPUT: true; the input reads as it did. -/
def mouldsFactorsSpec : ChangeSpec := { name := "mouldsFactors", fn := fun _ => fun
  | [d] => { results := [.lit (.bool true)], args := [d] }
  | _ => none }
def mouldsFactorsRow : OpenClaim := { program := "ytpfenoioeajkmaadoor", sum := "0c6ef8d5279315d996f2f4dc5a4b4ab6b1115955299aa210bd2ecc85364fba48", func := "comfit/comfitlaw07.MouldsFactors", spec := "mouldsFactors", inPlace := ["internal/bytealg.IndexByteString", "internal/bytealg.IndexString"], unfollowed := true, recurses := true, named := ["unicode/utf8.first", "unicode/utf8.acceptRanges", "internal/bytealg.MaxLen"], plainKeys := false, apart := false, laid := [("unicode/utf8.acceptRanges", laid_unicode_utf8_acceptRanges), ("unicode/utf8.first", laid_unicode_utf8_first)] }
def MouldsFactorsSaid : Prop := mouldsFactorsRow.holds Tryd.pinned (OpenSpec.ofChange mouldsFactorsSpec)

/-- ITS FALSE NEIGHBOUR: 'it returns false'. Refute it at one input. -/
def mouldsFactorsWrong : ChangeSpec := { name := "mouldsFactors", fn := fun _ => fun
  | [d] => { results := [.lit (.bool false)], args := [d] }
  | _ => none }
def MouldsFactorsWrongFalsely : Prop := mouldsFactorsRow.holds Tryd.pinned (OpenSpec.ofChange mouldsFactorsWrong)

/-- 'comfitlaw07.MouldsQuarters': WHATEVER THE INPUT: true; the input reads as it did. -/
def mouldsQuartersSpec : ChangeSpec := { name := "mouldsQuarters", fn := fun _ => fun
  | [d] => { results := [.lit (.bool true)], args := [d] }
  | _ => none }
def mouldsQuartersRow : OpenClaim := { program := "ytpfenoioeajkmaadoor", sum := "0c6ef8d5279315d996f2f4dc5a4b4ab6b1115955299aa210bd2ecc85364fba48", func := "comfit/comfitlaw07.MouldsQuarters", spec := "mouldsQuarters", inPlace := ["internal/bytealg.IndexByteString", "internal/bytealg.IndexString"], unfollowed := true, recurses := true, named := ["unicode/utf8.first", "unicode/utf8.acceptRanges", "internal/bytealg.MaxLen"], plainKeys := false, apart := false, laid := [("unicode/utf8.acceptRanges", laid_unicode_utf8_acceptRanges), ("unicode/utf8.first", laid_unicode_utf8_first)] }
def MouldsQuartersSaid : Prop := mouldsQuartersRow.holds Tryd.pinned (OpenSpec.ofChange mouldsQuartersSpec)

/-- ITS FALSE NEIGHBOUR: 'it returns false'. Refute it at one input. -/
def mouldsQuartersWrong : ChangeSpec := { name := "mouldsQuarters", fn := fun _ => fun
  | [d] => { results := [.lit (.bool false)], args := [d] }
  | _ => none }
def MouldsQuartersWrongFalsely : Prop := mouldsQuartersRow.holds Tryd.pinned (OpenSpec.ofChange mouldsQuartersWrong)

/-- 'comfitlaw07.MouldsFills': WHATEVER THE INPUT: true; the input reads as it did. -/
def mouldsFillsSpec : ChangeSpec := { name := "mouldsFills", fn := fun _ => fun
  | [d1, d2, d3] => { results := [.lit (.bool true)], args := [d1, d2, d3] }
  | _ => none }
def mouldsFillsRow : OpenClaim := { program := "ytpfenoioeajkmaadoor", sum := "0c6ef8d5279315d996f2f4dc5a4b4ab6b1115955299aa210bd2ecc85364fba48", func := "comfit/comfitlaw07.MouldsFills", spec := "mouldsFills", inPlace := ["internal/bytealg.IndexByteString", "internal/bytealg.IndexString"], named := ["unicode/utf8.first", "unicode/utf8.acceptRanges", "internal/bytealg.MaxLen"], plainKeys := false, apart := false, laid := [("unicode/utf8.acceptRanges", laid_unicode_utf8_acceptRanges), ("unicode/utf8.first", laid_unicode_utf8_first)] }
def MouldsFillsSaid : Prop := mouldsFillsRow.holds Tryd.pinned (OpenSpec.ofChange mouldsFillsSpec)

/-- ITS FALSE NEIGHBOUR: 'it returns false'. Refute it at one input. -/
def mouldsFillsWrong : ChangeSpec := { name := "mouldsFills", fn := fun _ => fun
  | [d1, d2, d3] => { results := [.lit (.bool false)], args := [d1, d2, d3] }
  | _ => none }
def MouldsFillsWrongFalsely : Prop := mouldsFillsRow.holds Tryd.pinned (OpenSpec.ofChange mouldsFillsWrong)

/-- 'comfitlaw07.MouldsRoom': WHATEVER THE INPUT: true; the input reads as it did. -/
def mouldsRoomSpec : ChangeSpec := { name := "mouldsRoom", fn := fun _ => fun
  | [d1, d2, d3, d4, d5] => { results := [.lit (.bool true)], args := [d1, d2, d3, d4, d5] }
  | _ => none }
def mouldsRoomRow : OpenClaim := { program := "ytpfenoioeajkmaadoor", sum := "0c6ef8d5279315d996f2f4dc5a4b4ab6b1115955299aa210bd2ecc85364fba48", func := "comfit/comfitlaw07.MouldsRoom", spec := "mouldsRoom", inPlace := ["internal/bytealg.IndexByteString", "internal/bytealg.IndexString"], named := ["unicode/utf8.first", "unicode/utf8.acceptRanges", "internal/bytealg.MaxLen"], plainKeys := false, apart := false, laid := [("unicode/utf8.acceptRanges", laid_unicode_utf8_acceptRanges), ("unicode/utf8.first", laid_unicode_utf8_first)] }
def MouldsRoomSaid : Prop := mouldsRoomRow.holds Tryd.pinned (OpenSpec.ofChange mouldsRoomSpec)

/-- ITS FALSE NEIGHBOUR: 'it returns false'. Refute it at one input. -/
def mouldsRoomWrong : ChangeSpec := { name := "mouldsRoom", fn := fun _ => fun
  | [d1, d2, d3, d4, d5] => { results := [.lit (.bool false)], args := [d1, d2, d3, d4, d5] }
  | _ => none }
def MouldsRoomWrongFalsely : Prop := mouldsRoomRow.holds Tryd.pinned (OpenSpec.ofChange mouldsRoomWrong)

/-- 'comfitlaw07.MouldsOutlines': WHATEVER THE INPUT: true; the input reads as it did. -/
def mouldsOutlinesSpec : ChangeSpec := { name := "mouldsOutlines", fn := fun _ => fun
  | [d] => { results := [.lit (.bool true)], args := [d] }
  | _ => none }
def mouldsOutlinesRow : OpenClaim := { program := "ytpfenoioeajkmaadoor", sum := "0c6ef8d5279315d996f2f4dc5a4b4ab6b1115955299aa210bd2ecc85364fba48", func := "comfit/comfitlaw07.MouldsOutlines", spec := "mouldsOutlines", inPlace := ["internal/abi.NoEscape", "internal/bytealg.IndexByteString", "internal/bytealg.IndexString"], unfollowed := true, recurses := true, named := ["unicode/utf8.first", "unicode/utf8.acceptRanges", "internal/bytealg.MaxLen"], plainKeys := false, apart := false, laid := [("unicode/utf8.acceptRanges", laid_unicode_utf8_acceptRanges), ("unicode/utf8.first", laid_unicode_utf8_first)] }
def MouldsOutlinesSaid : Prop := mouldsOutlinesRow.holds Tryd.pinned (OpenSpec.ofChange mouldsOutlinesSpec)

/-- ITS FALSE NEIGHBOUR: 'it returns false'. Refute it at one input. -/
def mouldsOutlinesWrong : ChangeSpec := { name := "mouldsOutlines", fn := fun _ => fun
  | [d] => { results := [.lit (.bool false)], args := [d] }
  | _ => none }
def MouldsOutlinesWrongFalsely : Prop := mouldsOutlinesRow.holds Tryd.pinned (OpenSpec.ofChange mouldsOutlinesWrong)

/-- 'comfitlaw07.MouldsLong': WHATEVER THE INPUT: true; the input reads as it did. -/
def mouldsLongSpec : ChangeSpec := { name := "mouldsLong", fn := fun _ => fun
  | [d] => { results := [.lit (.bool true)], args := [d] }
  | _ => none }
def mouldsLongRow : OpenClaim := { program := "ytpfenoioeajkmaadoor", sum := "0c6ef8d5279315d996f2f4dc5a4b4ab6b1115955299aa210bd2ecc85364fba48", func := "comfit/comfitlaw07.MouldsLong", spec := "mouldsLong", inPlace := ["internal/bytealg.IndexByteString", "internal/bytealg.IndexString"], unfollowed := true, recurses := true, named := ["unicode/utf8.first", "unicode/utf8.acceptRanges", "internal/bytealg.MaxLen"], plainKeys := false, apart := false, laid := [("unicode/utf8.acceptRanges", laid_unicode_utf8_acceptRanges), ("unicode/utf8.first", laid_unicode_utf8_first)] }
def MouldsLongSaid : Prop := mouldsLongRow.holds Tryd.pinned (OpenSpec.ofChange mouldsLongSpec)

/-- ITS FALSE NEIGHBOUR: 'it returns false'. Refute it at one input. -/
def mouldsLongWrong : ChangeSpec := { name := "mouldsLong", fn := fun _ => fun
  | [d] => { results := [.lit (.bool false)], args := [d] }
  | _ => none }
def MouldsLongWrongFalsely : Prop := mouldsLongRow.holds Tryd.pinned (OpenSpec.ofChange mouldsLongWrong)

/-- 'comfitlaw07.MouldsIs': WHATEVER THE INPUT: true; the input reads as it did. -/
def mouldsIsSpec : ChangeSpec := { name := "mouldsIs", fn := fun _ => fun
  | [d] => { results := [.lit (.bool true)], args := [d] }
  | _ => none }
def mouldsIsRow : OpenClaim := { program := "ytpfenoioeajkmaadoor", sum := "0c6ef8d5279315d996f2f4dc5a4b4ab6b1115955299aa210bd2ecc85364fba48", func := "comfit/comfitlaw07.MouldsIs", spec := "mouldsIs", inPlace := ["internal/bytealg.IndexByteString", "internal/bytealg.IndexString"], unfollowed := true, recurses := true, named := ["unicode/utf8.first", "unicode/utf8.acceptRanges", "internal/bytealg.MaxLen"], plainKeys := false, apart := false, laid := [("unicode/utf8.acceptRanges", laid_unicode_utf8_acceptRanges), ("unicode/utf8.first", laid_unicode_utf8_first)] }
def MouldsIsSaid : Prop := mouldsIsRow.holds Tryd.pinned (OpenSpec.ofChange mouldsIsSpec)

/-- ITS FALSE NEIGHBOUR: 'it returns false'. Refute it at one input. -/
def mouldsIsWrong : ChangeSpec := { name := "mouldsIs", fn := fun _ => fun
  | [d] => { results := [.lit (.bool false)], args := [d] }
  | _ => none }
def MouldsIsWrongFalsely : Prop := mouldsIsRow.holds Tryd.pinned (OpenSpec.ofChange mouldsIsWrong)

/-- 'comfitlaw07.MouldsLaid': WHATEVER THE INPUT: true; the input reads as it did. -/
def mouldsLaidSpec : ChangeSpec := { name := "mouldsLaid", fn := fun _ => fun
  | [d] => { results := [.lit (.bool true)], args := [d] }
  | _ => none }
def mouldsLaidRow : OpenClaim := { program := "ytpfenoioeajkmaadoor", sum := "0c6ef8d5279315d996f2f4dc5a4b4ab6b1115955299aa210bd2ecc85364fba48", func := "comfit/comfitlaw07.MouldsLaid", spec := "mouldsLaid", inPlace := ["internal/bytealg.IndexByteString", "internal/bytealg.IndexString"], unfollowed := true, recurses := true, named := ["unicode/utf8.first", "unicode/utf8.acceptRanges", "internal/bytealg.MaxLen"], plainKeys := false, apart := false, laid := [("unicode/utf8.acceptRanges", laid_unicode_utf8_acceptRanges), ("unicode/utf8.first", laid_unicode_utf8_first)] }
def MouldsLaidSaid : Prop := mouldsLaidRow.holds Tryd.pinned (OpenSpec.ofChange mouldsLaidSpec)

/-- ITS FALSE NEIGHBOUR: 'it returns false'. Refute it at one input. -/
def mouldsLaidWrong : ChangeSpec := { name := "mouldsLaid", fn := fun _ => fun
  | [d] => { results := [.lit (.bool false)], args := [d] }
  | _ => none }
def MouldsLaidWrongFalsely : Prop := mouldsLaidRow.holds Tryd.pinned (OpenSpec.ofChange mouldsLaidWrong)

/-- 'comfitlaw07.MouldsRound': WHATEVER THE INPUT: true; the input reads as it did. -/
def mouldsRoundSpec : ChangeSpec := { name := "mouldsRound", fn := fun _ => fun
  | [d1, d2] => { results := [.lit (.bool true)], args := [d1, d2] }
  | _ => none }
def mouldsRoundRow : OpenClaim := { program := "ytpfenoioeajkmaadoor", sum := "0c6ef8d5279315d996f2f4dc5a4b4ab6b1115955299aa210bd2ecc85364fba48", func := "comfit/comfitlaw07.MouldsRound", spec := "mouldsRound", inPlace := ["internal/bytealg.IndexByteString", "internal/bytealg.IndexString", "internal/abi.NoEscape"], unfollowed := true, recurses := true, named := ["unicode/utf8.first", "unicode/utf8.acceptRanges", "internal/bytealg.MaxLen"], plainKeys := false, apart := false, laid := [("unicode/utf8.acceptRanges", laid_unicode_utf8_acceptRanges), ("unicode/utf8.first", laid_unicode_utf8_first)] }
def MouldsRoundSaid : Prop := mouldsRoundRow.holds Tryd.pinned (OpenSpec.ofChange mouldsRoundSpec)

/-- ITS FALSE NEIGHBOUR: 'it returns false'. Refute it at one input. -/
def mouldsRoundWrong : ChangeSpec := { name := "mouldsRound", fn := fun _ => fun
  | [d1, d2] => { results := [.lit (.bool false)], args := [d1, d2] }
  | _ => none }
def MouldsRoundWrongFalsely : Prop := mouldsRoundRow.holds Tryd.pinned (OpenSpec.ofChange mouldsRoundWrong)

/- THE SECOND FORM. 'bulk': how many values and letters a reading holds, each counted each time it is reached (what is shared counts as often as it is met; a slice's spare places count too). A statement '..UptoSaid' is the law's where the arguments, and the package variables that the reading takes, are together of bulk at most 1048576: NARROWER than '..Said'. Prove '..Said' where nothing that the law and all that it calls make is longer than what came in: it says more and counts as full. Else prove '..UptoSaid'. A law counts once. -/
mutual
def uptoBulk {H : Type} : DataW H → Nat
  | .lit (.string bytes) => bytes.length + 1
  | .lit _ => 1
  | .nil => 1
  | .ptr d => uptoBulk d + 1
  | .slice elems spare => uptoBulkAll elems + uptoBulkAll spare + 1
  | .agg parts => uptoBulkAll parts + 1
  | .iface _ d => uptoBulk d + 1
  | .map entries => uptoBulkEntries entries + 1
  | .held _ => 1
def uptoBulkAll {H : Type} : List (DataW H) → Nat
  | [] => 0
  | d :: r => uptoBulk d + uptoBulkAll r
def uptoBulkEntries {H : Type} : List (Lit × DataW H) → Nat
  | [] => 0
  | x :: r => uptoBulkEntry x + uptoBulkEntries r
def uptoBulkEntry {H : Type} : Lit × DataW H → Nat
  | (.string bytes, d) => bytes.length + uptoBulk d + 1
  | (_, d) => uptoBulk d + 1
 end
def uptoSmall : (H : Type) → List (DataW H) → Bool := fun _ ds => decide (uptoBulkAll ds ≤ 1048576)
def OpenSpec.upto (s : _root_.Go.ChangeSpec) : _root_.Go.OpenSpec := { _root_.Go.OpenSpec.ofChange s with cond := some uptoSmall }

/-- 'comfitlaw07.MouldsBacks', WHERE WHAT IT READS IS OF BULK AT MOST 1048576: true; the input reads as it did. -/
def mouldsBacksUptoRow : OpenClaim := { program := "ytpfenoioeajkmaadoor", sum := "0c6ef8d5279315d996f2f4dc5a4b4ab6b1115955299aa210bd2ecc85364fba48", func := "comfit/comfitlaw07.MouldsBacks", spec := "mouldsBacks", inPlace := ["internal/bytealg.IndexByteString", "internal/bytealg.IndexString"], named := ["unicode/utf8.first", "unicode/utf8.acceptRanges", "internal/bytealg.MaxLen"], plainKeys := false, apart := false, laid := [("unicode/utf8.acceptRanges", laid_unicode_utf8_acceptRanges), ("unicode/utf8.first", laid_unicode_utf8_first)], narrowed := true }
def MouldsBacksUptoSaid : Prop := mouldsBacksUptoRow.holds Tryd.pinned (OpenSpec.upto mouldsBacksSpec)

/-- 'comfitlaw07.MouldsTurns', WHERE WHAT IT READS IS OF BULK AT MOST 1048576: true; the input reads as it did. -/
def mouldsTurnsUptoRow : OpenClaim := { program := "ytpfenoioeajkmaadoor", sum := "0c6ef8d5279315d996f2f4dc5a4b4ab6b1115955299aa210bd2ecc85364fba48", func := "comfit/comfitlaw07.MouldsTurns", spec := "mouldsTurns", inPlace := ["internal/bytealg.IndexByteString", "internal/bytealg.IndexString"], named := ["unicode/utf8.first", "unicode/utf8.acceptRanges", "internal/bytealg.MaxLen"], plainKeys := false, apart := false, laid := [("unicode/utf8.acceptRanges", laid_unicode_utf8_acceptRanges), ("unicode/utf8.first", laid_unicode_utf8_first)], narrowed := true }
def MouldsTurnsUptoSaid : Prop := mouldsTurnsUptoRow.holds Tryd.pinned (OpenSpec.upto mouldsTurnsSpec)

/-- 'comfitlaw07.MouldsMirrors', WHERE WHAT IT READS IS OF BULK AT MOST 1048576: true; the input reads as it did. -/
def mouldsMirrorsUptoRow : OpenClaim := { program := "ytpfenoioeajkmaadoor", sum := "0c6ef8d5279315d996f2f4dc5a4b4ab6b1115955299aa210bd2ecc85364fba48", func := "comfit/comfitlaw07.MouldsMirrors", spec := "mouldsMirrors", inPlace := ["internal/bytealg.IndexByteString", "internal/bytealg.IndexString"], named := ["unicode/utf8.first", "unicode/utf8.acceptRanges", "internal/bytealg.MaxLen"], plainKeys := false, apart := false, laid := [("unicode/utf8.acceptRanges", laid_unicode_utf8_acceptRanges), ("unicode/utf8.first", laid_unicode_utf8_first)], narrowed := true }
def MouldsMirrorsUptoSaid : Prop := mouldsMirrorsUptoRow.holds Tryd.pinned (OpenSpec.upto mouldsMirrorsSpec)

/-- 'comfitlaw07.MouldsTiles', WHERE WHAT IT READS IS OF BULK AT MOST 1048576: true; the input reads as it did. -/
def mouldsTilesUptoRow : OpenClaim := { program := "ytpfenoioeajkmaadoor", sum := "0c6ef8d5279315d996f2f4dc5a4b4ab6b1115955299aa210bd2ecc85364fba48", func := "comfit/comfitlaw07.MouldsTiles", spec := "mouldsTiles", inPlace := ["internal/bytealg.IndexByteString", "internal/bytealg.IndexString"], unfollowed := true, recurses := true, named := ["unicode/utf8.first", "unicode/utf8.acceptRanges", "internal/bytealg.MaxLen"], plainKeys := false, apart := false, laid := [("unicode/utf8.acceptRanges", laid_unicode_utf8_acceptRanges), ("unicode/utf8.first", laid_unicode_utf8_first)], narrowed := true }
def MouldsTilesUptoSaid : Prop := mouldsTilesUptoRow.holds Tryd.pinned (OpenSpec.upto mouldsTilesSpec)

/-- 'comfitlaw07.MouldsEither', WHERE WHAT IT READS IS OF BULK AT MOST 1048576: true; the input reads as it did. -/
def mouldsEitherUptoRow : OpenClaim := { program := "ytpfenoioeajkmaadoor", sum := "0c6ef8d5279315d996f2f4dc5a4b4ab6b1115955299aa210bd2ecc85364fba48", func := "comfit/comfitlaw07.MouldsEither", spec := "mouldsEither", inPlace := ["internal/bytealg.IndexByteString", "internal/bytealg.IndexString"], unfollowed := true, recurses := true, named := ["unicode/utf8.first", "unicode/utf8.acceptRanges", "internal/bytealg.MaxLen"], plainKeys := false, apart := false, laid := [("unicode/utf8.acceptRanges", laid_unicode_utf8_acceptRanges), ("unicode/utf8.first", laid_unicode_utf8_first)], narrowed := true }
def MouldsEitherUptoSaid : Prop := mouldsEitherUptoRow.holds Tryd.pinned (OpenSpec.upto mouldsEitherSpec)

/-- 'comfitlaw07.MouldsFactors', WHERE WHAT IT READS IS OF BULK AT MOST 1048576: true; the input reads as it did. -/
def mouldsFactorsUptoRow : OpenClaim := { program := "ytpfenoioeajkmaadoor", sum := "0c6ef8d5279315d996f2f4dc5a4b4ab6b1115955299aa210bd2ecc85364fba48", func := "comfit/comfitlaw07.MouldsFactors", spec := "mouldsFactors", inPlace := ["internal/bytealg.IndexByteString", "internal/bytealg.IndexString"], unfollowed := true, recurses := true, named := ["unicode/utf8.first", "unicode/utf8.acceptRanges", "internal/bytealg.MaxLen"], plainKeys := false, apart := false, laid := [("unicode/utf8.acceptRanges", laid_unicode_utf8_acceptRanges), ("unicode/utf8.first", laid_unicode_utf8_first)], narrowed := true }
def MouldsFactorsUptoSaid : Prop := mouldsFactorsUptoRow.holds Tryd.pinned (OpenSpec.upto mouldsFactorsSpec)

/-- 'comfitlaw07.MouldsQuarters', WHERE WHAT IT READS IS OF BULK AT MOST 1048576: true; the input reads as it did. -/
def mouldsQuartersUptoRow : OpenClaim := { program := "ytpfenoioeajkmaadoor", sum := "0c6ef8d5279315d996f2f4dc5a4b4ab6b1115955299aa210bd2ecc85364fba48", func := "comfit/comfitlaw07.MouldsQuarters", spec := "mouldsQuarters", inPlace := ["internal/bytealg.IndexByteString", "internal/bytealg.IndexString"], unfollowed := true, recurses := true, named := ["unicode/utf8.first", "unicode/utf8.acceptRanges", "internal/bytealg.MaxLen"], plainKeys := false, apart := false, laid := [("unicode/utf8.acceptRanges", laid_unicode_utf8_acceptRanges), ("unicode/utf8.first", laid_unicode_utf8_first)], narrowed := true }
def MouldsQuartersUptoSaid : Prop := mouldsQuartersUptoRow.holds Tryd.pinned (OpenSpec.upto mouldsQuartersSpec)

/-- 'comfitlaw07.MouldsFills', WHERE WHAT IT READS IS OF BULK AT MOST 1048576: true; the input reads as it did. -/
def mouldsFillsUptoRow : OpenClaim := { program := "ytpfenoioeajkmaadoor", sum := "0c6ef8d5279315d996f2f4dc5a4b4ab6b1115955299aa210bd2ecc85364fba48", func := "comfit/comfitlaw07.MouldsFills", spec := "mouldsFills", inPlace := ["internal/bytealg.IndexByteString", "internal/bytealg.IndexString"], named := ["unicode/utf8.first", "unicode/utf8.acceptRanges", "internal/bytealg.MaxLen"], plainKeys := false, apart := false, laid := [("unicode/utf8.acceptRanges", laid_unicode_utf8_acceptRanges), ("unicode/utf8.first", laid_unicode_utf8_first)], narrowed := true }
def MouldsFillsUptoSaid : Prop := mouldsFillsUptoRow.holds Tryd.pinned (OpenSpec.upto mouldsFillsSpec)

/-- 'comfitlaw07.MouldsRoom', WHERE WHAT IT READS IS OF BULK AT MOST 1048576: true; the input reads as it did. -/
def mouldsRoomUptoRow : OpenClaim := { program := "ytpfenoioeajkmaadoor", sum := "0c6ef8d5279315d996f2f4dc5a4b4ab6b1115955299aa210bd2ecc85364fba48", func := "comfit/comfitlaw07.MouldsRoom", spec := "mouldsRoom", inPlace := ["internal/bytealg.IndexByteString", "internal/bytealg.IndexString"], named := ["unicode/utf8.first", "unicode/utf8.acceptRanges", "internal/bytealg.MaxLen"], plainKeys := false, apart := false, laid := [("unicode/utf8.acceptRanges", laid_unicode_utf8_acceptRanges), ("unicode/utf8.first", laid_unicode_utf8_first)], narrowed := true }
def MouldsRoomUptoSaid : Prop := mouldsRoomUptoRow.holds Tryd.pinned (OpenSpec.upto mouldsRoomSpec)

/-- 'comfitlaw07.MouldsOutlines', WHERE WHAT IT READS IS OF BULK AT MOST 1048576: true; the input reads as it did. -/
def mouldsOutlinesUptoRow : OpenClaim := { program := "ytpfenoioeajkmaadoor", sum := "0c6ef8d5279315d996f2f4dc5a4b4ab6b1115955299aa210bd2ecc85364fba48", func := "comfit/comfitlaw07.MouldsOutlines", spec := "mouldsOutlines", inPlace := ["internal/abi.NoEscape", "internal/bytealg.IndexByteString", "internal/bytealg.IndexString"], unfollowed := true, recurses := true, named := ["unicode/utf8.first", "unicode/utf8.acceptRanges", "internal/bytealg.MaxLen"], plainKeys := false, apart := false, laid := [("unicode/utf8.acceptRanges", laid_unicode_utf8_acceptRanges), ("unicode/utf8.first", laid_unicode_utf8_first)], narrowed := true }
def MouldsOutlinesUptoSaid : Prop := mouldsOutlinesUptoRow.holds Tryd.pinned (OpenSpec.upto mouldsOutlinesSpec)

/-- 'comfitlaw07.MouldsLong', WHERE WHAT IT READS IS OF BULK AT MOST 1048576: true; the input reads as it did. -/
def mouldsLongUptoRow : OpenClaim := { program := "ytpfenoioeajkmaadoor", sum := "0c6ef8d5279315d996f2f4dc5a4b4ab6b1115955299aa210bd2ecc85364fba48", func := "comfit/comfitlaw07.MouldsLong", spec := "mouldsLong", inPlace := ["internal/bytealg.IndexByteString", "internal/bytealg.IndexString"], unfollowed := true, recurses := true, named := ["unicode/utf8.first", "unicode/utf8.acceptRanges", "internal/bytealg.MaxLen"], plainKeys := false, apart := false, laid := [("unicode/utf8.acceptRanges", laid_unicode_utf8_acceptRanges), ("unicode/utf8.first", laid_unicode_utf8_first)], narrowed := true }
def MouldsLongUptoSaid : Prop := mouldsLongUptoRow.holds Tryd.pinned (OpenSpec.upto mouldsLongSpec)

/-- 'comfitlaw07.MouldsIs', WHERE WHAT IT READS IS OF BULK AT MOST 1048576: true; the input reads as it did. -/
def mouldsIsUptoRow : OpenClaim := { program := "ytpfenoioeajkmaadoor", sum := "0c6ef8d5279315d996f2f4dc5a4b4ab6b1115955299aa210bd2ecc85364fba48", func := "comfit/comfitlaw07.MouldsIs", spec := "mouldsIs", inPlace := ["internal/bytealg.IndexByteString", "internal/bytealg.IndexString"], unfollowed := true, recurses := true, named := ["unicode/utf8.first", "unicode/utf8.acceptRanges", "internal/bytealg.MaxLen"], plainKeys := false, apart := false, laid := [("unicode/utf8.acceptRanges", laid_unicode_utf8_acceptRanges), ("unicode/utf8.first", laid_unicode_utf8_first)], narrowed := true }
def MouldsIsUptoSaid : Prop := mouldsIsUptoRow.holds Tryd.pinned (OpenSpec.upto mouldsIsSpec)

/-- 'comfitlaw07.MouldsLaid', WHERE WHAT IT READS IS OF BULK AT MOST 1048576: true; the input reads as it did. -/
def mouldsLaidUptoRow : OpenClaim := { program := "ytpfenoioeajkmaadoor", sum := "0c6ef8d5279315d996f2f4dc5a4b4ab6b1115955299aa210bd2ecc85364fba48", func := "comfit/comfitlaw07.MouldsLaid", spec := "mouldsLaid", inPlace := ["internal/bytealg.IndexByteString", "internal/bytealg.IndexString"], unfollowed := true, recurses := true, named := ["unicode/utf8.first", "unicode/utf8.acceptRanges", "internal/bytealg.MaxLen"], plainKeys := false, apart := false, laid := [("unicode/utf8.acceptRanges", laid_unicode_utf8_acceptRanges), ("unicode/utf8.first", laid_unicode_utf8_first)], narrowed := true }
def MouldsLaidUptoSaid : Prop := mouldsLaidUptoRow.holds Tryd.pinned (OpenSpec.upto mouldsLaidSpec)

/-- 'comfitlaw07.MouldsRound', WHERE WHAT IT READS IS OF BULK AT MOST 1048576: true; the input reads as it did. -/
def mouldsRoundUptoRow : OpenClaim := { program := "ytpfenoioeajkmaadoor", sum := "0c6ef8d5279315d996f2f4dc5a4b4ab6b1115955299aa210bd2ecc85364fba48", func := "comfit/comfitlaw07.MouldsRound", spec := "mouldsRound", inPlace := ["internal/bytealg.IndexByteString", "internal/bytealg.IndexString", "internal/abi.NoEscape"], unfollowed := true, recurses := true, named := ["unicode/utf8.first", "unicode/utf8.acceptRanges", "internal/bytealg.MaxLen"], plainKeys := false, apart := false, laid := [("unicode/utf8.acceptRanges", laid_unicode_utf8_acceptRanges), ("unicode/utf8.first", laid_unicode_utf8_first)], narrowed := true }
def MouldsRoundUptoSaid : Prop := mouldsRoundUptoRow.holds Tryd.pinned (OpenSpec.upto mouldsRoundSpec)

end Rows
end Go.Proofs.YtpfenoioeajkmaaDoor
