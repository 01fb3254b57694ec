/-
  NARROWER THAN 'FOR EVERY INPUT', by the rows' own cells (each row's printed sentence says how): TablesFirst: laid · TablesTrees: laid · TablesBegins: laid · TablesWords: laid · TablesTrims: laid · TablesTrimmed: laid · TablesStates: laid · TablesReached: laid · TablesGo: laid · TablesRenamed: laid · TablesReads: laid · TablesMakes: laid · TablesDoubled: laid · TablesDecides: laid.
  DERIVED. THE GIVEN ROWS OF THIS SEAT. 14 by the template 'for every input the law returns true; each argument reads behind the call as it read before'; 0 by the template 'total and deterministic' (their statements: YtjpfalanoifpbaaDoorTotals.lean).
  GIVEN WITH THE SEED: the statements are not yours to turn. If you find one false, say at which input.
  Laid BY PROGRAM, IN A SANDBOX (cutbox-rows.mjs): the forced cells as the released guide's own fill.sh prints them over the translation 2caad86e777bfb01… (all of the seat's roots in one cut). By AI agents, Wed Nov 11 2026. No macro, syntax, notation, axiom, sorry.
-/
import Derived.Test.YtjpfalanoifpbaaDoorChecked
import GoSem.PinnedTables
import GoSem.Claim
import GoSem.ClaimJoined
import GoSem.ClaimMapViews
import Derived.JoinedTies
import Derived.KernelRfl
namespace Go.Proofs.YtjpfalanoifpbaaDoor
/- THE CELL 'sum', in the pinned program and in every row, IS THE sha256 OF THE DUMP (.gsa) THAT YtjpfalanoifpbaaDoorProg.lean LOADS. Nothing in Lean hashes anything: it is a label: what it is worth is what the hold of that sum in a sandbox is worth. -/
noncomputable def Tryd.pinned : Pinned := { name := "ytjpfalanoifpbaadoor", sum := "2caad86e777bfb01fe9a4b07787a88db333f1bf65b1dd0c8e8bbf222df6f8c1b", checked := Tryd.checked }
namespace Rows
def none {H : Type} : Left H := { results := [], args := [] }

/- WHAT THE LISTED PACKAGE-LEVEL VARIABLES READ AS WHEN THE CALL BEGINS. Each datum BY PROGRAM (the guide's laid-datum.mjs) off the statement by which the dump's own 'gosem.cut.vars' lays the variable. In a bare row this is a premise. The card (YtjpfalanoifpbaaDoorCards.lean) ties it to the program's text. -/
def laid_unicode_utf8_acceptRanges {H : Type} : DataW H := .agg [.agg [.lit (.int .u8 128), .lit (.int .u8 191)], .agg [.lit (.int .u8 160), .lit (.int .u8 191)], .agg [.lit (.int .u8 128), .lit (.int .u8 159)], .agg [.lit (.int .u8 144), .lit (.int .u8 191)], .agg [.lit (.int .u8 128), .lit (.int .u8 143)], .agg [.lit (.int .u8 0), .lit (.int .u8 0)], .agg [.lit (.int .u8 0), .lit (.int .u8 0)], .agg [.lit (.int .u8 0), .lit (.int .u8 0)], .agg [.lit (.int .u8 0), .lit (.int .u8 0)], .agg [.lit (.int .u8 0), .lit (.int .u8 0)], .agg [.lit (.int .u8 0), .lit (.int .u8 0)], .agg [.lit (.int .u8 0), .lit (.int .u8 0)], .agg [.lit (.int .u8 0), .lit (.int .u8 0)], .agg [.lit (.int .u8 0), .lit (.int .u8 0)], .agg [.lit (.int .u8 0), .lit (.int .u8 0)], .agg [.lit (.int .u8 0), .lit (.int .u8 0)]]
/-- One of Go's own tables, pinned by name: the form's constant. -/
def laid_unicode_utf8_first : DataW Unit := Go.Pinned.utf8First

/-- 'comfitlaw05.TablesFirst': WHATEVER THE INPUT: true; the input reads as it did. -/
def tablesFirstSpec : ChangeSpec := { name := "tablesFirst", fn := fun _ => fun
  | [d] => { results := [.lit (.bool true)], args := [d] }
  | _ => none }
def tablesFirstRow : OpenClaim := { program := "ytjpfalanoifpbaadoor", sum := "2caad86e777bfb01fe9a4b07787a88db333f1bf65b1dd0c8e8bbf222df6f8c1b", func := "comfit/comfitlaw05.TablesFirst", spec := "tablesFirst", inPlace := ["internal/bytealg.IndexByteString", "internal/bytealg.IndexString"], unfollowed := true, recurses := true, named := ["unicode/utf8.first", "unicode/utf8.acceptRanges", "internal/bytealg.MaxLen"], plainKeys := false, apart := false, laid := [("unicode/utf8.acceptRanges", laid_unicode_utf8_acceptRanges), ("unicode/utf8.first", laid_unicode_utf8_first)] }
def TablesFirstSaid : Prop := tablesFirstRow.holds Tryd.pinned (OpenSpec.ofChange tablesFirstSpec)

/-- ITS FALSE NEIGHBOUR: 'it returns false'. Refute it at one input. -/
def tablesFirstWrong : ChangeSpec := { name := "tablesFirst", fn := fun _ => fun
  | [d] => { results := [.lit (.bool false)], args := [d] }
  | _ => none }
def TablesFirstWrongFalsely : Prop := tablesFirstRow.holds Tryd.pinned (OpenSpec.ofChange tablesFirstWrong)

/-- 'comfitlaw05.TablesTrees': WHATEVER THE INPUT: true; the input reads as it did. -/
def tablesTreesSpec : ChangeSpec := { name := "tablesTrees", fn := fun _ => fun
  | [d1, d2] => { results := [.lit (.bool true)], args := [d1, d2] }
  | _ => none }
def tablesTreesRow : OpenClaim := { program := "ytjpfalanoifpbaadoor", sum := "2caad86e777bfb01fe9a4b07787a88db333f1bf65b1dd0c8e8bbf222df6f8c1b", func := "comfit/comfitlaw05.TablesTrees", spec := "tablesTrees", inPlace := ["internal/bytealg.IndexByteString", "internal/bytealg.IndexString"], unfollowed := true, recurses := true, named := ["unicode/utf8.first", "unicode/utf8.acceptRanges", "internal/bytealg.MaxLen"], plainKeys := false, apart := false, laid := [("unicode/utf8.acceptRanges", laid_unicode_utf8_acceptRanges), ("unicode/utf8.first", laid_unicode_utf8_first)] }
def TablesTreesSaid : Prop := tablesTreesRow.holds Tryd.pinned (OpenSpec.ofChange tablesTreesSpec)

/-- ITS FALSE NEIGHBOUR: 'it returns false'. Refute it at one input. -/
def tablesTreesWrong : ChangeSpec := { name := "tablesTrees", fn := fun _ => fun
  | [d1, d2] => { results := [.lit (.bool false)], args := [d1, d2] }
  | _ => none }
def TablesTreesWrongFalsely : Prop := tablesTreesRow.holds Tryd.pinned (OpenSpec.ofChange tablesTreesWrong)

/-- 'comfitlaw05.TablesBegins': WHATEVER THE INPUT: true; the input reads as it did. -/
def tablesBeginsSpec : ChangeSpec := { name := "tablesBegins", fn := fun _ => fun
  | [d1, d2, d3] => { results := [.lit (.bool true)], args := [d1, d2, d3] }
  | _ => none }
def tablesBeginsRow : OpenClaim := { program := "ytjpfalanoifpbaadoor", sum := "2caad86e777bfb01fe9a4b07787a88db333f1bf65b1dd0c8e8bbf222df6f8c1b", func := "comfit/comfitlaw05.TablesBegins", spec := "tablesBegins", inPlace := ["internal/bytealg.IndexByteString", "internal/bytealg.IndexString"], unfollowed := true, recurses := true, named := ["unicode/utf8.first", "unicode/utf8.acceptRanges", "internal/bytealg.MaxLen"], plainKeys := false, apart := false, laid := [("unicode/utf8.acceptRanges", laid_unicode_utf8_acceptRanges), ("unicode/utf8.first", laid_unicode_utf8_first)] }
def TablesBeginsSaid : Prop := tablesBeginsRow.holds Tryd.pinned (OpenSpec.ofChange tablesBeginsSpec)

/-- ITS FALSE NEIGHBOUR: 'it returns false'. Refute it at one input. -/
def tablesBeginsWrong : ChangeSpec := { name := "tablesBegins", fn := fun _ => fun
  | [d1, d2, d3] => { results := [.lit (.bool false)], args := [d1, d2, d3] }
  | _ => none }
def TablesBeginsWrongFalsely : Prop := tablesBeginsRow.holds Tryd.pinned (OpenSpec.ofChange tablesBeginsWrong)

/-- 'comfitlaw05.TablesWords': WHATEVER THE INPUT: true; the input reads as it did. -/
def tablesWordsSpec : ChangeSpec := { name := "tablesWords", fn := fun _ => fun
  | [d1, d2] => { results := [.lit (.bool true)], args := [d1, d2] }
  | _ => none }
def tablesWordsRow : OpenClaim := { program := "ytjpfalanoifpbaadoor", sum := "2caad86e777bfb01fe9a4b07787a88db333f1bf65b1dd0c8e8bbf222df6f8c1b", func := "comfit/comfitlaw05.TablesWords", spec := "tablesWords", inPlace := ["internal/bytealg.IndexByteString", "internal/bytealg.IndexString"], unfollowed := true, recurses := true, named := ["unicode/utf8.first", "unicode/utf8.acceptRanges", "internal/bytealg.MaxLen"], plainKeys := false, apart := false, laid := [("unicode/utf8.acceptRanges", laid_unicode_utf8_acceptRanges), ("unicode/utf8.first", laid_unicode_utf8_first)] }
def TablesWordsSaid : Prop := tablesWordsRow.holds Tryd.pinned (OpenSpec.ofChange tablesWordsSpec)

/-- ITS FALSE NEIGHBOUR: 'it returns false'. Refute it at one input. -/
def tablesWordsWrong : ChangeSpec := { name := "tablesWords", fn := fun _ => fun
  | [d1, d2] => { results := [.lit (.bool false)], args := [d1, d2] }
  | _ => none }
def TablesWordsWrongFalsely : Prop := tablesWordsRow.holds Tryd.pinned (OpenSpec.ofChange tablesWordsWrong)

/-- 'comfitlaw05.TablesTrims': WHATEVER THE INPUT: true; the input reads as it did. -/
def tablesTrimsSpec : ChangeSpec := { name := "tablesTrims", fn := fun _ => fun
  | [d] => { results := [.lit (.bool true)], args := [d] }
  | _ => none }
def tablesTrimsRow : OpenClaim := { program := "ytjpfalanoifpbaadoor", sum := "2caad86e777bfb01fe9a4b07787a88db333f1bf65b1dd0c8e8bbf222df6f8c1b", func := "comfit/comfitlaw05.TablesTrims", spec := "tablesTrims", inPlace := ["internal/bytealg.IndexByteString", "internal/bytealg.IndexString"], unfollowed := true, recurses := true, named := ["unicode/utf8.first", "unicode/utf8.acceptRanges", "internal/bytealg.MaxLen"], plainKeys := false, apart := false, laid := [("unicode/utf8.acceptRanges", laid_unicode_utf8_acceptRanges), ("unicode/utf8.first", laid_unicode_utf8_first)] }
def TablesTrimsSaid : Prop := tablesTrimsRow.holds Tryd.pinned (OpenSpec.ofChange tablesTrimsSpec)

/-- ITS FALSE NEIGHBOUR: 'it returns false'. Refute it at one input. -/
def tablesTrimsWrong : ChangeSpec := { name := "tablesTrims", fn := fun _ => fun
  | [d] => { results := [.lit (.bool false)], args := [d] }
  | _ => none }
def TablesTrimsWrongFalsely : Prop := tablesTrimsRow.holds Tryd.pinned (OpenSpec.ofChange tablesTrimsWrong)

/-- 'comfitlaw05.TablesTrimmed': WHATEVER THE INPUT: true; the input reads as it did. -/
def tablesTrimmedSpec : ChangeSpec := { name := "tablesTrimmed", fn := fun _ => fun
  | [d1, d2] => { results := [.lit (.bool true)], args := [d1, d2] }
  | _ => none }
def tablesTrimmedRow : OpenClaim := { program := "ytjpfalanoifpbaadoor", sum := "2caad86e777bfb01fe9a4b07787a88db333f1bf65b1dd0c8e8bbf222df6f8c1b", func := "comfit/comfitlaw05.TablesTrimmed", spec := "tablesTrimmed", inPlace := ["internal/bytealg.IndexByteString", "internal/bytealg.IndexString"], unfollowed := true, recurses := true, named := ["unicode/utf8.first", "unicode/utf8.acceptRanges", "internal/bytealg.MaxLen"], plainKeys := false, apart := false, laid := [("unicode/utf8.acceptRanges", laid_unicode_utf8_acceptRanges), ("unicode/utf8.first", laid_unicode_utf8_first)] }
def TablesTrimmedSaid : Prop := tablesTrimmedRow.holds Tryd.pinned (OpenSpec.ofChange tablesTrimmedSpec)

/-- ITS FALSE NEIGHBOUR: 'it returns false'. Refute it at one input. -/
def tablesTrimmedWrong : ChangeSpec := { name := "tablesTrimmed", fn := fun _ => fun
  | [d1, d2] => { results := [.lit (.bool false)], args := [d1, d2] }
  | _ => none }
def TablesTrimmedWrongFalsely : Prop := tablesTrimmedRow.holds Tryd.pinned (OpenSpec.ofChange tablesTrimmedWrong)

/-- 'comfitlaw05.TablesStates': WHATEVER THE INPUT: true; the input reads as it did. -/
def tablesStatesSpec : ChangeSpec := { name := "tablesStates", fn := fun _ => fun
  | [d] => { results := [.lit (.bool true)], args := [d] }
  | _ => none }
def tablesStatesRow : OpenClaim := { program := "ytjpfalanoifpbaadoor", sum := "2caad86e777bfb01fe9a4b07787a88db333f1bf65b1dd0c8e8bbf222df6f8c1b", func := "comfit/comfitlaw05.TablesStates", spec := "tablesStates", inPlace := ["internal/bytealg.IndexByteString", "internal/bytealg.IndexString"], unfollowed := true, recurses := true, named := ["unicode/utf8.first", "unicode/utf8.acceptRanges", "internal/bytealg.MaxLen"], plainKeys := false, apart := false, laid := [("unicode/utf8.acceptRanges", laid_unicode_utf8_acceptRanges), ("unicode/utf8.first", laid_unicode_utf8_first)] }
def TablesStatesSaid : Prop := tablesStatesRow.holds Tryd.pinned (OpenSpec.ofChange tablesStatesSpec)

/-- ITS FALSE NEIGHBOUR: 'it returns false'. Refute it at one input. -/
def tablesStatesWrong : ChangeSpec := { name := "tablesStates", fn := fun _ => fun
  | [d] => { results := [.lit (.bool false)], args := [d] }
  | _ => none }
def TablesStatesWrongFalsely : Prop := tablesStatesRow.holds Tryd.pinned (OpenSpec.ofChange tablesStatesWrong)

/-- 'comfitlaw05.TablesReached': WHATEVER THE INPUT: true; the input reads as it did. -/
def tablesReachedSpec : ChangeSpec := { name := "tablesReached", fn := fun _ => fun
  | [d] => { results := [.lit (.bool true)], args := [d] }
  | _ => none }
def tablesReachedRow : OpenClaim := { program := "ytjpfalanoifpbaadoor", sum := "2caad86e777bfb01fe9a4b07787a88db333f1bf65b1dd0c8e8bbf222df6f8c1b", func := "comfit/comfitlaw05.TablesReached", spec := "tablesReached", inPlace := ["internal/bytealg.IndexByteString", "internal/bytealg.IndexString"], unfollowed := true, recurses := true, named := ["unicode/utf8.first", "unicode/utf8.acceptRanges", "internal/bytealg.MaxLen"], plainKeys := false, apart := false, laid := [("unicode/utf8.acceptRanges", laid_unicode_utf8_acceptRanges), ("unicode/utf8.first", laid_unicode_utf8_first)] }
def TablesReachedSaid : Prop := tablesReachedRow.holds Tryd.pinned (OpenSpec.ofChange tablesReachedSpec)

/-- ITS FALSE NEIGHBOUR: 'it returns false'. Refute it at one input. -/
def tablesReachedWrong : ChangeSpec := { name := "tablesReached", fn := fun _ => fun
  | [d] => { results := [.lit (.bool false)], args := [d] }
  | _ => none }
def TablesReachedWrongFalsely : Prop := tablesReachedRow.holds Tryd.pinned (OpenSpec.ofChange tablesReachedWrong)

/-- 'comfitlaw05.TablesGo': WHATEVER THE INPUT: true; the input reads as it did. -/
def tablesGoSpec : ChangeSpec := { name := "tablesGo", fn := fun _ => fun
  | [d1, d2, d3] => { results := [.lit (.bool true)], args := [d1, d2, d3] }
  | _ => none }
def tablesGoRow : OpenClaim := { program := "ytjpfalanoifpbaadoor", sum := "2caad86e777bfb01fe9a4b07787a88db333f1bf65b1dd0c8e8bbf222df6f8c1b", func := "comfit/comfitlaw05.TablesGo", spec := "tablesGo", inPlace := ["internal/bytealg.IndexByteString", "internal/bytealg.IndexString"], unfollowed := true, recurses := true, named := ["unicode/utf8.first", "unicode/utf8.acceptRanges", "internal/bytealg.MaxLen"], plainKeys := false, apart := false, laid := [("unicode/utf8.acceptRanges", laid_unicode_utf8_acceptRanges), ("unicode/utf8.first", laid_unicode_utf8_first)] }
def TablesGoSaid : Prop := tablesGoRow.holds Tryd.pinned (OpenSpec.ofChange tablesGoSpec)

/-- ITS FALSE NEIGHBOUR: 'it returns false'. Refute it at one input. -/
def tablesGoWrong : ChangeSpec := { name := "tablesGo", fn := fun _ => fun
  | [d1, d2, d3] => { results := [.lit (.bool false)], args := [d1, d2, d3] }
  | _ => none }
def TablesGoWrongFalsely : Prop := tablesGoRow.holds Tryd.pinned (OpenSpec.ofChange tablesGoWrong)

/-- 'comfitlaw05.TablesRenamed': WHATEVER THE INPUT: true; the input reads as it did. -/
def tablesRenamedSpec : ChangeSpec := { name := "tablesRenamed", fn := fun _ => fun
  | [d1, d2, d3, d4, d5] => { results := [.lit (.bool true)], args := [d1, d2, d3, d4, d5] }
  | _ => none }
def tablesRenamedRow : OpenClaim := { program := "ytjpfalanoifpbaadoor", sum := "2caad86e777bfb01fe9a4b07787a88db333f1bf65b1dd0c8e8bbf222df6f8c1b", func := "comfit/comfitlaw05.TablesRenamed", spec := "tablesRenamed", inPlace := ["internal/bytealg.IndexByteString", "internal/bytealg.IndexString"], unfollowed := true, recurses := true, named := ["unicode/utf8.first", "unicode/utf8.acceptRanges", "internal/bytealg.MaxLen"], plainKeys := false, apart := false, laid := [("unicode/utf8.acceptRanges", laid_unicode_utf8_acceptRanges), ("unicode/utf8.first", laid_unicode_utf8_first)] }
def TablesRenamedSaid : Prop := tablesRenamedRow.holds Tryd.pinned (OpenSpec.ofChange tablesRenamedSpec)

/-- ITS FALSE NEIGHBOUR: 'it returns false'. Refute it at one input. -/
def tablesRenamedWrong : ChangeSpec := { name := "tablesRenamed", fn := fun _ => fun
  | [d1, d2, d3, d4, d5] => { results := [.lit (.bool false)], args := [d1, d2, d3, d4, d5] }
  | _ => none }
def TablesRenamedWrongFalsely : Prop := tablesRenamedRow.holds Tryd.pinned (OpenSpec.ofChange tablesRenamedWrong)

/-- 'comfitlaw05.TablesReads': WHATEVER THE INPUT: true; the input reads as it did. -/
def tablesReadsSpec : ChangeSpec := { name := "tablesReads", fn := fun _ => fun
  | [d1, d2] => { results := [.lit (.bool true)], args := [d1, d2] }
  | _ => none }
def tablesReadsRow : OpenClaim := { program := "ytjpfalanoifpbaadoor", sum := "2caad86e777bfb01fe9a4b07787a88db333f1bf65b1dd0c8e8bbf222df6f8c1b", func := "comfit/comfitlaw05.TablesReads", spec := "tablesReads", inPlace := ["internal/bytealg.IndexByteString", "internal/bytealg.IndexString"], unfollowed := true, recurses := true, named := ["unicode/utf8.first", "unicode/utf8.acceptRanges", "internal/bytealg.MaxLen"], plainKeys := false, apart := false, laid := [("unicode/utf8.acceptRanges", laid_unicode_utf8_acceptRanges), ("unicode/utf8.first", laid_unicode_utf8_first)] }
def TablesReadsSaid : Prop := tablesReadsRow.holds Tryd.pinned (OpenSpec.ofChange tablesReadsSpec)

/-- ITS FALSE NEIGHBOUR: 'it returns false'. Refute it at one input. -/
def tablesReadsWrong : ChangeSpec := { name := "tablesReads", fn := fun _ => fun
  | [d1, d2] => { results := [.lit (.bool false)], args := [d1, d2] }
  | _ => none }
def TablesReadsWrongFalsely : Prop := tablesReadsRow.holds Tryd.pinned (OpenSpec.ofChange tablesReadsWrong)

/-- 'comfitlaw05.TablesMakes': WHATEVER THE INPUT: true; the input reads as it did. -/
def tablesMakesSpec : ChangeSpec := { name := "tablesMakes", fn := fun _ => fun
  | [d1, d2] => { results := [.lit (.bool true)], args := [d1, d2] }
  | _ => none }
def tablesMakesRow : OpenClaim := { program := "ytjpfalanoifpbaadoor", sum := "2caad86e777bfb01fe9a4b07787a88db333f1bf65b1dd0c8e8bbf222df6f8c1b", func := "comfit/comfitlaw05.TablesMakes", spec := "tablesMakes", inPlace := ["internal/bytealg.IndexByteString", "internal/bytealg.IndexString"], unfollowed := true, recurses := true, named := ["unicode/utf8.first", "unicode/utf8.acceptRanges", "internal/bytealg.MaxLen"], plainKeys := false, apart := false, laid := [("unicode/utf8.acceptRanges", laid_unicode_utf8_acceptRanges), ("unicode/utf8.first", laid_unicode_utf8_first)] }
def TablesMakesSaid : Prop := tablesMakesRow.holds Tryd.pinned (OpenSpec.ofChange tablesMakesSpec)

/-- ITS FALSE NEIGHBOUR: 'it returns false'. Refute it at one input. -/
def tablesMakesWrong : ChangeSpec := { name := "tablesMakes", fn := fun _ => fun
  | [d1, d2] => { results := [.lit (.bool false)], args := [d1, d2] }
  | _ => none }
def TablesMakesWrongFalsely : Prop := tablesMakesRow.holds Tryd.pinned (OpenSpec.ofChange tablesMakesWrong)

/-- 'comfitlaw05.TablesDoubled': WHATEVER THE INPUT: true; the input reads as it did. -/
def tablesDoubledSpec : ChangeSpec := { name := "tablesDoubled", fn := fun _ => fun
  | [d1, d2] => { results := [.lit (.bool true)], args := [d1, d2] }
  | _ => none }
def tablesDoubledRow : OpenClaim := { program := "ytjpfalanoifpbaadoor", sum := "2caad86e777bfb01fe9a4b07787a88db333f1bf65b1dd0c8e8bbf222df6f8c1b", func := "comfit/comfitlaw05.TablesDoubled", spec := "tablesDoubled", inPlace := ["internal/bytealg.IndexByteString", "internal/bytealg.IndexString"], unfollowed := true, recurses := true, named := ["unicode/utf8.first", "unicode/utf8.acceptRanges", "internal/bytealg.MaxLen"], plainKeys := false, apart := false, laid := [("unicode/utf8.acceptRanges", laid_unicode_utf8_acceptRanges), ("unicode/utf8.first", laid_unicode_utf8_first)] }
def TablesDoubledSaid : Prop := tablesDoubledRow.holds Tryd.pinned (OpenSpec.ofChange tablesDoubledSpec)

/-- ITS FALSE NEIGHBOUR: 'it returns false'. Refute it at one input. -/
def tablesDoubledWrong : ChangeSpec := { name := "tablesDoubled", fn := fun _ => fun
  | [d1, d2] => { results := [.lit (.bool false)], args := [d1, d2] }
  | _ => none }
def TablesDoubledWrongFalsely : Prop := tablesDoubledRow.holds Tryd.pinned (OpenSpec.ofChange tablesDoubledWrong)

/-- 'comfitlaw05.TablesDecides': WHATEVER THE INPUT: true; the input reads as it did. -/
def tablesDecidesSpec : ChangeSpec := { name := "tablesDecides", fn := fun _ => fun
  | [d1, d2] => { results := [.lit (.bool true)], args := [d1, d2] }
  | _ => none }
def tablesDecidesRow : OpenClaim := { program := "ytjpfalanoifpbaadoor", sum := "2caad86e777bfb01fe9a4b07787a88db333f1bf65b1dd0c8e8bbf222df6f8c1b", func := "comfit/comfitlaw05.TablesDecides", spec := "tablesDecides", inPlace := ["internal/bytealg.IndexByteString", "internal/bytealg.IndexString"], unfollowed := true, recurses := true, named := ["unicode/utf8.first", "unicode/utf8.acceptRanges", "internal/bytealg.MaxLen"], plainKeys := false, apart := false, laid := [("unicode/utf8.acceptRanges", laid_unicode_utf8_acceptRanges), ("unicode/utf8.first", laid_unicode_utf8_first)] }
def TablesDecidesSaid : Prop := tablesDecidesRow.holds Tryd.pinned (OpenSpec.ofChange tablesDecidesSpec)

/-- ITS FALSE NEIGHBOUR: 'it returns false'. Refute it at one input. -/
def tablesDecidesWrong : ChangeSpec := { name := "tablesDecides", fn := fun _ => fun
  | [d1, d2] => { results := [.lit (.bool false)], args := [d1, d2] }
  | _ => none }
def TablesDecidesWrongFalsely : Prop := tablesDecidesRow.holds Tryd.pinned (OpenSpec.ofChange tablesDecidesWrong)

/- THE SECOND FORM. 'bulk': how many values and letters a reading holds, each counted each time it is reached (what is shared counts as often as it is met; a slice's spare places count too). A statement '..UptoSaid' is the law's where the arguments, and the package variables that the reading takes, are together of bulk at most 1048576: NARROWER than '..Said'. Prove '..Said' where nothing that the law and all that it calls make is longer than what came in: it says more and counts as full. Else prove '..UptoSaid'. A law counts once. -/
mutual
def uptoBulk {H : Type} : DataW H → Nat
  | .lit (.string bytes) => bytes.length + 1
  | .lit _ => 1
  | .nil => 1
  | .ptr d => uptoBulk d + 1
  | .slice elems spare => uptoBulkAll elems + uptoBulkAll spare + 1
  | .agg parts => uptoBulkAll parts + 1
  | .iface _ d => uptoBulk d + 1
  | .map entries => uptoBulkEntries entries + 1
  | .held _ => 1
def uptoBulkAll {H : Type} : List (DataW H) → Nat
  | [] => 0
  | d :: r => uptoBulk d + uptoBulkAll r
def uptoBulkEntries {H : Type} : List (Lit × DataW H) → Nat
  | [] => 0
  | x :: r => uptoBulkEntry x + uptoBulkEntries r
def uptoBulkEntry {H : Type} : Lit × DataW H → Nat
  | (.string bytes, d) => bytes.length + uptoBulk d + 1
  | (_, d) => uptoBulk d + 1
 end
def uptoSmall : (H : Type) → List (DataW H) → Bool := fun _ ds => decide (uptoBulkAll ds ≤ 1048576)
def OpenSpec.upto (s : _root_.Go.ChangeSpec) : _root_.Go.OpenSpec := { _root_.Go.OpenSpec.ofChange s with cond := some uptoSmall }

/-- 'comfitlaw05.TablesFirst', WHERE WHAT IT READS IS OF BULK AT MOST 1048576: true; the input reads as it did. -/
def tablesFirstUptoRow : OpenClaim := { program := "ytjpfalanoifpbaadoor", sum := "2caad86e777bfb01fe9a4b07787a88db333f1bf65b1dd0c8e8bbf222df6f8c1b", func := "comfit/comfitlaw05.TablesFirst", spec := "tablesFirst", inPlace := ["internal/bytealg.IndexByteString", "internal/bytealg.IndexString"], unfollowed := true, recurses := true, named := ["unicode/utf8.first", "unicode/utf8.acceptRanges", "internal/bytealg.MaxLen"], plainKeys := false, apart := false, laid := [("unicode/utf8.acceptRanges", laid_unicode_utf8_acceptRanges), ("unicode/utf8.first", laid_unicode_utf8_first)], narrowed := true }
def TablesFirstUptoSaid : Prop := tablesFirstUptoRow.holds Tryd.pinned (OpenSpec.upto tablesFirstSpec)

/-- 'comfitlaw05.TablesTrees', WHERE WHAT IT READS IS OF BULK AT MOST 1048576: true; the input reads as it did. -/
def tablesTreesUptoRow : OpenClaim := { program := "ytjpfalanoifpbaadoor", sum := "2caad86e777bfb01fe9a4b07787a88db333f1bf65b1dd0c8e8bbf222df6f8c1b", func := "comfit/comfitlaw05.TablesTrees", spec := "tablesTrees", inPlace := ["internal/bytealg.IndexByteString", "internal/bytealg.IndexString"], unfollowed := true, recurses := true, named := ["unicode/utf8.first", "unicode/utf8.acceptRanges", "internal/bytealg.MaxLen"], plainKeys := false, apart := false, laid := [("unicode/utf8.acceptRanges", laid_unicode_utf8_acceptRanges), ("unicode/utf8.first", laid_unicode_utf8_first)], narrowed := true }
def TablesTreesUptoSaid : Prop := tablesTreesUptoRow.holds Tryd.pinned (OpenSpec.upto tablesTreesSpec)

/-- 'comfitlaw05.TablesBegins', WHERE WHAT IT READS IS OF BULK AT MOST 1048576: true; the input reads as it did. -/
def tablesBeginsUptoRow : OpenClaim := { program := "ytjpfalanoifpbaadoor", sum := "2caad86e777bfb01fe9a4b07787a88db333f1bf65b1dd0c8e8bbf222df6f8c1b", func := "comfit/comfitlaw05.TablesBegins", spec := "tablesBegins", inPlace := ["internal/bytealg.IndexByteString", "internal/bytealg.IndexString"], unfollowed := true, recurses := true, named := ["unicode/utf8.first", "unicode/utf8.acceptRanges", "internal/bytealg.MaxLen"], plainKeys := false, apart := false, laid := [("unicode/utf8.acceptRanges", laid_unicode_utf8_acceptRanges), ("unicode/utf8.first", laid_unicode_utf8_first)], narrowed := true }
def TablesBeginsUptoSaid : Prop := tablesBeginsUptoRow.holds Tryd.pinned (OpenSpec.upto tablesBeginsSpec)

/-- 'comfitlaw05.TablesWords', WHERE WHAT IT READS IS OF BULK AT MOST 1048576: true; the input reads as it did. -/
def tablesWordsUptoRow : OpenClaim := { program := "ytjpfalanoifpbaadoor", sum := "2caad86e777bfb01fe9a4b07787a88db333f1bf65b1dd0c8e8bbf222df6f8c1b", func := "comfit/comfitlaw05.TablesWords", spec := "tablesWords", inPlace := ["internal/bytealg.IndexByteString", "internal/bytealg.IndexString"], unfollowed := true, recurses := true, named := ["unicode/utf8.first", "unicode/utf8.acceptRanges", "internal/bytealg.MaxLen"], plainKeys := false, apart := false, laid := [("unicode/utf8.acceptRanges", laid_unicode_utf8_acceptRanges), ("unicode/utf8.first", laid_unicode_utf8_first)], narrowed := true }
def TablesWordsUptoSaid : Prop := tablesWordsUptoRow.holds Tryd.pinned (OpenSpec.upto tablesWordsSpec)

/-- 'comfitlaw05.TablesTrims', WHERE WHAT IT READS IS OF BULK AT MOST 1048576: true; the input reads as it did. -/
def tablesTrimsUptoRow : OpenClaim := { program := "ytjpfalanoifpbaadoor", sum := "2caad86e777bfb01fe9a4b07787a88db333f1bf65b1dd0c8e8bbf222df6f8c1b", func := "comfit/comfitlaw05.TablesTrims", spec := "tablesTrims", inPlace := ["internal/bytealg.IndexByteString", "internal/bytealg.IndexString"], unfollowed := true, recurses := true, named := ["unicode/utf8.first", "unicode/utf8.acceptRanges", "internal/bytealg.MaxLen"], plainKeys := false, apart := false, laid := [("unicode/utf8.acceptRanges", laid_unicode_utf8_acceptRanges), ("unicode/utf8.first", laid_unicode_utf8_first)], narrowed := true }
def TablesTrimsUptoSaid : Prop := tablesTrimsUptoRow.holds Tryd.pinned (OpenSpec.upto tablesTrimsSpec)

/-- 'comfitlaw05.TablesTrimmed', WHERE WHAT IT READS IS OF BULK AT MOST 1048576: true; the input reads as it did. -/
def tablesTrimmedUptoRow : OpenClaim := { program := "ytjpfalanoifpbaadoor", sum := "2caad86e777bfb01fe9a4b07787a88db333f1bf65b1dd0c8e8bbf222df6f8c1b", func := "comfit/comfitlaw05.TablesTrimmed", spec := "tablesTrimmed", inPlace := ["internal/bytealg.IndexByteString", "internal/bytealg.IndexString"], unfollowed := true, recurses := true, named := ["unicode/utf8.first", "unicode/utf8.acceptRanges", "internal/bytealg.MaxLen"], plainKeys := false, apart := false, laid := [("unicode/utf8.acceptRanges", laid_unicode_utf8_acceptRanges), ("unicode/utf8.first", laid_unicode_utf8_first)], narrowed := true }
def TablesTrimmedUptoSaid : Prop := tablesTrimmedUptoRow.holds Tryd.pinned (OpenSpec.upto tablesTrimmedSpec)

/-- 'comfitlaw05.TablesStates', WHERE WHAT IT READS IS OF BULK AT MOST 1048576: true; the input reads as it did. -/
def tablesStatesUptoRow : OpenClaim := { program := "ytjpfalanoifpbaadoor", sum := "2caad86e777bfb01fe9a4b07787a88db333f1bf65b1dd0c8e8bbf222df6f8c1b", func := "comfit/comfitlaw05.TablesStates", spec := "tablesStates", inPlace := ["internal/bytealg.IndexByteString", "internal/bytealg.IndexString"], unfollowed := true, recurses := true, named := ["unicode/utf8.first", "unicode/utf8.acceptRanges", "internal/bytealg.MaxLen"], plainKeys := false, apart := false, laid := [("unicode/utf8.acceptRanges", laid_unicode_utf8_acceptRanges), ("unicode/utf8.first", laid_unicode_utf8_first)], narrowed := true }
def TablesStatesUptoSaid : Prop := tablesStatesUptoRow.holds Tryd.pinned (OpenSpec.upto tablesStatesSpec)

/-- 'comfitlaw05.TablesReached', WHERE WHAT IT READS IS OF BULK AT MOST 1048576: true; the input reads as it did. -/
def tablesReachedUptoRow : OpenClaim := { program := "ytjpfalanoifpbaadoor", sum := "2caad86e777bfb01fe9a4b07787a88db333f1bf65b1dd0c8e8bbf222df6f8c1b", func := "comfit/comfitlaw05.TablesReached", spec := "tablesReached", inPlace := ["internal/bytealg.IndexByteString", "internal/bytealg.IndexString"], unfollowed := true, recurses := true, named := ["unicode/utf8.first", "unicode/utf8.acceptRanges", "internal/bytealg.MaxLen"], plainKeys := false, apart := false, laid := [("unicode/utf8.acceptRanges", laid_unicode_utf8_acceptRanges), ("unicode/utf8.first", laid_unicode_utf8_first)], narrowed := true }
def TablesReachedUptoSaid : Prop := tablesReachedUptoRow.holds Tryd.pinned (OpenSpec.upto tablesReachedSpec)

/-- 'comfitlaw05.TablesGo', WHERE WHAT IT READS IS OF BULK AT MOST 1048576: true; the input reads as it did. -/
def tablesGoUptoRow : OpenClaim := { program := "ytjpfalanoifpbaadoor", sum := "2caad86e777bfb01fe9a4b07787a88db333f1bf65b1dd0c8e8bbf222df6f8c1b", func := "comfit/comfitlaw05.TablesGo", spec := "tablesGo", inPlace := ["internal/bytealg.IndexByteString", "internal/bytealg.IndexString"], unfollowed := true, recurses := true, named := ["unicode/utf8.first", "unicode/utf8.acceptRanges", "internal/bytealg.MaxLen"], plainKeys := false, apart := false, laid := [("unicode/utf8.acceptRanges", laid_unicode_utf8_acceptRanges), ("unicode/utf8.first", laid_unicode_utf8_first)], narrowed := true }
def TablesGoUptoSaid : Prop := tablesGoUptoRow.holds Tryd.pinned (OpenSpec.upto tablesGoSpec)

/-- 'comfitlaw05.TablesRenamed', WHERE WHAT IT READS IS OF BULK AT MOST 1048576: true; the input reads as it did. -/
def tablesRenamedUptoRow : OpenClaim := { program := "ytjpfalanoifpbaadoor", sum := "2caad86e777bfb01fe9a4b07787a88db333f1bf65b1dd0c8e8bbf222df6f8c1b", func := "comfit/comfitlaw05.TablesRenamed", spec := "tablesRenamed", inPlace := ["internal/bytealg.IndexByteString", "internal/bytealg.IndexString"], unfollowed := true, recurses := true, named := ["unicode/utf8.first", "unicode/utf8.acceptRanges", "internal/bytealg.MaxLen"], plainKeys := false, apart := false, laid := [("unicode/utf8.acceptRanges", laid_unicode_utf8_acceptRanges), ("unicode/utf8.first", laid_unicode_utf8_first)], narrowed := true }
def TablesRenamedUptoSaid : Prop := tablesRenamedUptoRow.holds Tryd.pinned (OpenSpec.upto tablesRenamedSpec)

/-- 'comfitlaw05.TablesReads', WHERE WHAT IT READS IS OF BULK AT MOST 1048576: true; the input reads as it did. -/
def tablesReadsUptoRow : OpenClaim := { program := "ytjpfalanoifpbaadoor", sum := "2caad86e777bfb01fe9a4b07787a88db333f1bf65b1dd0c8e8bbf222df6f8c1b", func := "comfit/comfitlaw05.TablesReads", spec := "tablesReads", inPlace := ["internal/bytealg.IndexByteString", "internal/bytealg.IndexString"], unfollowed := true, recurses := true, named := ["unicode/utf8.first", "unicode/utf8.acceptRanges", "internal/bytealg.MaxLen"], plainKeys := false, apart := false, laid := [("unicode/utf8.acceptRanges", laid_unicode_utf8_acceptRanges), ("unicode/utf8.first", laid_unicode_utf8_first)], narrowed := true }
def TablesReadsUptoSaid : Prop := tablesReadsUptoRow.holds Tryd.pinned (OpenSpec.upto tablesReadsSpec)

/-- 'comfitlaw05.TablesMakes', WHERE WHAT IT READS IS OF BULK AT MOST 1048576: true; the input reads as it did. -/
def tablesMakesUptoRow : OpenClaim := { program := "ytjpfalanoifpbaadoor", sum := "2caad86e777bfb01fe9a4b07787a88db333f1bf65b1dd0c8e8bbf222df6f8c1b", func := "comfit/comfitlaw05.TablesMakes", spec := "tablesMakes", inPlace := ["internal/bytealg.IndexByteString", "internal/bytealg.IndexString"], unfollowed := true, recurses := true, named := ["unicode/utf8.first", "unicode/utf8.acceptRanges", "internal/bytealg.MaxLen"], plainKeys := false, apart := false, laid := [("unicode/utf8.acceptRanges", laid_unicode_utf8_acceptRanges), ("unicode/utf8.first", laid_unicode_utf8_first)], narrowed := true }
def TablesMakesUptoSaid : Prop := tablesMakesUptoRow.holds Tryd.pinned (OpenSpec.upto tablesMakesSpec)

/-- 'comfitlaw05.TablesDoubled', WHERE WHAT IT READS IS OF BULK AT MOST 1048576: true; the input reads as it did. -/
def tablesDoubledUptoRow : OpenClaim := { program := "ytjpfalanoifpbaadoor", sum := "2caad86e777bfb01fe9a4b07787a88db333f1bf65b1dd0c8e8bbf222df6f8c1b", func := "comfit/comfitlaw05.TablesDoubled", spec := "tablesDoubled", inPlace := ["internal/bytealg.IndexByteString", "internal/bytealg.IndexString"], unfollowed := true, recurses := true, named := ["unicode/utf8.first", "unicode/utf8.acceptRanges", "internal/bytealg.MaxLen"], plainKeys := false, apart := false, laid := [("unicode/utf8.acceptRanges", laid_unicode_utf8_acceptRanges), ("unicode/utf8.first", laid_unicode_utf8_first)], narrowed := true }
def TablesDoubledUptoSaid : Prop := tablesDoubledUptoRow.holds Tryd.pinned (OpenSpec.upto tablesDoubledSpec)

/-- 'comfitlaw05.TablesDecides', WHERE WHAT IT READS IS OF BULK AT MOST 1048576: true; the input reads as it did. -/
def tablesDecidesUptoRow : OpenClaim := { program := "ytjpfalanoifpbaadoor", sum := "2caad86e777bfb01fe9a4b07787a88db333f1bf65b1dd0c8e8bbf222df6f8c1b", func := "comfit/comfitlaw05.TablesDecides", spec := "tablesDecides", inPlace := ["internal/bytealg.IndexByteString", "internal/bytealg.IndexString"], unfollowed := true, recurses := true, named := ["unicode/utf8.first", "unicode/utf8.acceptRanges", "internal/bytealg.MaxLen"], plainKeys := false, apart := false, laid := [("unicode/utf8.acceptRanges", laid_unicode_utf8_acceptRanges), ("unicode/utf8.first", laid_unicode_utf8_first)], narrowed := true }
def TablesDecidesUptoSaid : Prop := tablesDecidesUptoRow.holds Tryd.pinned (OpenSpec.upto tablesDecidesSpec)

end Rows
end Go.Proofs.YtjpfalanoifpbaaDoor
