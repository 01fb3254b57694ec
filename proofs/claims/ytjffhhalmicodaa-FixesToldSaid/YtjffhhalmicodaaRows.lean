/-
  No cell of these rows narrows 'for every input' (looked for: loops, veiled, ifaces, maps, wideKeys, modest, calm, conditions, laid).
  DERIVED. THE GIVEN ROWS OF THIS SEAT. 13 by the template 'for every input the law returns true; each argument reads behind the call as it read before'; 0 by the template 'total and deterministic' (their statements: YtjffhhalmicodaaTotals.lean).
  GIVEN WITH THE SEED: the statements are not yours to turn. If you find one false, say at which input.
  Laid BY PROGRAM, IN A SANDBOX (cutbox-rows.mjs): the forced cells as the released guide's own fill.sh prints them over the translation 9589ed4052e6cd53… (all of the seat's roots in one cut). By AI agents, Wed Nov 11 2026. No macro, syntax, notation, axiom, sorry.
-/
import Derived.Test.YtjffhhalmicodaaChecked
import GoSem.Claim
import GoSem.ClaimJoined
import GoSem.ClaimMapViews
import Derived.JoinedTies
import Derived.KernelRfl
namespace Go.Proofs.Ytjffhhalmicodaa
/- THE CELL 'sum', in the pinned program and in every row, IS THE sha256 OF THE DUMP (.gsa) THAT YtjffhhalmicodaaProg.lean LOADS. Nothing in Lean hashes anything: it is a label: what it is worth is what the hold of that sum in a sandbox is worth. -/
noncomputable def Try.pinned : Pinned := { name := "ytjffhhalmicodaa", sum := "9589ed4052e6cd531de7007b4c2ecba1743a8d5bf7d6a1a66dcec9fe6111dc10", checked := Try.checked }
namespace Rows
def none {H : Type} : Left H := { results := [], args := [] }

/-- 'comfitlaw08.FixesHolds': WHATEVER THE INPUT: true; the input reads as it did. -/
def fixesHoldsSpec : ChangeSpec := { name := "fixesHolds", fn := fun _ => fun
  | [d1, d2] => { results := [.lit (.bool true)], args := [d1, d2] }
  | _ => none }
def fixesHoldsRow : OpenClaim := { program := "ytjffhhalmicodaa", sum := "9589ed4052e6cd531de7007b4c2ecba1743a8d5bf7d6a1a66dcec9fe6111dc10", func := "comfit/comfitlaw08.FixesHolds", spec := "fixesHolds", inPlace := ["internal/bytealg.IndexByteString"], unfollowed := true, recurses := true, plainKeys := false, apart := false }
def FixesHoldsSaid : Prop := fixesHoldsRow.holds Try.pinned (OpenSpec.ofChange fixesHoldsSpec)

/-- ITS FALSE NEIGHBOUR: 'it returns false'. Refute it at one input. -/
def fixesHoldsWrong : ChangeSpec := { name := "fixesHolds", fn := fun _ => fun
  | [d1, d2] => { results := [.lit (.bool false)], args := [d1, d2] }
  | _ => none }
def FixesHoldsWrongFalsely : Prop := fixesHoldsRow.holds Try.pinned (OpenSpec.ofChange fixesHoldsWrong)

/-- 'comfitlaw08.FixesSteps': WHATEVER THE INPUT: true; the input reads as it did. -/
def fixesStepsSpec : ChangeSpec := { name := "fixesSteps", fn := fun _ => fun
  | [d1, d2] => { results := [.lit (.bool true)], args := [d1, d2] }
  | _ => none }
def fixesStepsRow : OpenClaim := { program := "ytjffhhalmicodaa", sum := "9589ed4052e6cd531de7007b4c2ecba1743a8d5bf7d6a1a66dcec9fe6111dc10", func := "comfit/comfitlaw08.FixesSteps", spec := "fixesSteps", inPlace := ["internal/bytealg.IndexByteString"], unfollowed := true, recurses := true, plainKeys := false, apart := false }
def FixesStepsSaid : Prop := fixesStepsRow.holds Try.pinned (OpenSpec.ofChange fixesStepsSpec)

/-- ITS FALSE NEIGHBOUR: 'it returns false'. Refute it at one input. -/
def fixesStepsWrong : ChangeSpec := { name := "fixesSteps", fn := fun _ => fun
  | [d1, d2] => { results := [.lit (.bool false)], args := [d1, d2] }
  | _ => none }
def FixesStepsWrongFalsely : Prop := fixesStepsRow.holds Try.pinned (OpenSpec.ofChange fixesStepsWrong)

/-- 'comfitlaw08.FixesBound': WHATEVER THE INPUT: true; the input reads as it did. -/
def fixesBoundSpec : ChangeSpec := { name := "fixesBound", fn := fun _ => fun
  | [d1, d2] => { results := [.lit (.bool true)], args := [d1, d2] }
  | _ => none }
def fixesBoundRow : OpenClaim := { program := "ytjffhhalmicodaa", sum := "9589ed4052e6cd531de7007b4c2ecba1743a8d5bf7d6a1a66dcec9fe6111dc10", func := "comfit/comfitlaw08.FixesBound", spec := "fixesBound", inPlace := ["internal/bytealg.IndexByteString"], unfollowed := true, recurses := true, plainKeys := false, apart := false }
def FixesBoundSaid : Prop := fixesBoundRow.holds Try.pinned (OpenSpec.ofChange fixesBoundSpec)

/-- ITS FALSE NEIGHBOUR: 'it returns false'. Refute it at one input. -/
def fixesBoundWrong : ChangeSpec := { name := "fixesBound", fn := fun _ => fun
  | [d1, d2] => { results := [.lit (.bool false)], args := [d1, d2] }
  | _ => none }
def FixesBoundWrongFalsely : Prop := fixesBoundRow.holds Try.pinned (OpenSpec.ofChange fixesBoundWrong)

/-- 'comfitlaw08.FixesReaches': WHATEVER THE INPUT: true; the input reads as it did. -/
def fixesReachesSpec : ChangeSpec := { name := "fixesReaches", fn := fun _ => fun
  | [d1, d2] => { results := [.lit (.bool true)], args := [d1, d2] }
  | _ => none }
def fixesReachesRow : OpenClaim := { program := "ytjffhhalmicodaa", sum := "9589ed4052e6cd531de7007b4c2ecba1743a8d5bf7d6a1a66dcec9fe6111dc10", func := "comfit/comfitlaw08.FixesReaches", spec := "fixesReaches", inPlace := ["internal/bytealg.IndexByteString"], unfollowed := true, recurses := true, plainKeys := false, apart := false }
def FixesReachesSaid : Prop := fixesReachesRow.holds Try.pinned (OpenSpec.ofChange fixesReachesSpec)

/-- ITS FALSE NEIGHBOUR: 'it returns false'. Refute it at one input. -/
def fixesReachesWrong : ChangeSpec := { name := "fixesReaches", fn := fun _ => fun
  | [d1, d2] => { results := [.lit (.bool false)], args := [d1, d2] }
  | _ => none }
def FixesReachesWrongFalsely : Prop := fixesReachesRow.holds Try.pinned (OpenSpec.ofChange fixesReachesWrong)

/-- 'comfitlaw08.FixesWays': WHATEVER THE INPUT: true; the input reads as it did. -/
def fixesWaysSpec : ChangeSpec := { name := "fixesWays", fn := fun _ => fun
  | [d1, d2] => { results := [.lit (.bool true)], args := [d1, d2] }
  | _ => none }
def fixesWaysRow : OpenClaim := { program := "ytjffhhalmicodaa", sum := "9589ed4052e6cd531de7007b4c2ecba1743a8d5bf7d6a1a66dcec9fe6111dc10", func := "comfit/comfitlaw08.FixesWays", spec := "fixesWays", inPlace := ["internal/bytealg.IndexByteString"], unfollowed := true, recurses := true, plainKeys := false, apart := false }
def FixesWaysSaid : Prop := fixesWaysRow.holds Try.pinned (OpenSpec.ofChange fixesWaysSpec)

/-- ITS FALSE NEIGHBOUR: 'it returns false'. Refute it at one input. -/
def fixesWaysWrong : ChangeSpec := { name := "fixesWays", fn := fun _ => fun
  | [d1, d2] => { results := [.lit (.bool false)], args := [d1, d2] }
  | _ => none }
def FixesWaysWrongFalsely : Prop := fixesWaysRow.holds Try.pinned (OpenSpec.ofChange fixesWaysWrong)

/-- 'comfitlaw08.FixesNots': WHATEVER THE INPUT: true; the input reads as it did. -/
def fixesNotsSpec : ChangeSpec := { name := "fixesNots", fn := fun _ => fun
  | [d] => { results := [.lit (.bool true)], args := [d] }
  | _ => none }
def fixesNotsRow : OpenClaim := { program := "ytjffhhalmicodaa", sum := "9589ed4052e6cd531de7007b4c2ecba1743a8d5bf7d6a1a66dcec9fe6111dc10", func := "comfit/comfitlaw08.FixesNots", spec := "fixesNots", inPlace := ["internal/bytealg.IndexByteString"], unfollowed := true, recurses := true, plainKeys := false, apart := false }
def FixesNotsSaid : Prop := fixesNotsRow.holds Try.pinned (OpenSpec.ofChange fixesNotsSpec)

/-- ITS FALSE NEIGHBOUR: 'it returns false'. Refute it at one input. -/
def fixesNotsWrong : ChangeSpec := { name := "fixesNots", fn := fun _ => fun
  | [d] => { results := [.lit (.bool false)], args := [d] }
  | _ => none }
def FixesNotsWrongFalsely : Prop := fixesNotsRow.holds Try.pinned (OpenSpec.ofChange fixesNotsWrong)

/-- 'comfitlaw08.FixesOthers': WHATEVER THE INPUT: true; the input reads as it did. -/
def fixesOthersSpec : ChangeSpec := { name := "fixesOthers", fn := fun _ => fun
  | [d1, d2] => { results := [.lit (.bool true)], args := [d1, d2] }
  | _ => none }
def fixesOthersRow : OpenClaim := { program := "ytjffhhalmicodaa", sum := "9589ed4052e6cd531de7007b4c2ecba1743a8d5bf7d6a1a66dcec9fe6111dc10", func := "comfit/comfitlaw08.FixesOthers", spec := "fixesOthers", inPlace := ["internal/bytealg.IndexByteString"], unfollowed := true, recurses := true, plainKeys := false, apart := false }
def FixesOthersSaid : Prop := fixesOthersRow.holds Try.pinned (OpenSpec.ofChange fixesOthersSpec)

/-- ITS FALSE NEIGHBOUR: 'it returns false'. Refute it at one input. -/
def fixesOthersWrong : ChangeSpec := { name := "fixesOthers", fn := fun _ => fun
  | [d1, d2] => { results := [.lit (.bool false)], args := [d1, d2] }
  | _ => none }
def FixesOthersWrongFalsely : Prop := fixesOthersRow.holds Try.pinned (OpenSpec.ofChange fixesOthersWrong)

/-- 'comfitlaw08.FixesEqual': WHATEVER THE INPUT: true; the input reads as it did. -/
def fixesEqualSpec : ChangeSpec := { name := "fixesEqual", fn := fun _ => fun
  | [d1, d2] => { results := [.lit (.bool true)], args := [d1, d2] }
  | _ => none }
def fixesEqualRow : OpenClaim := { program := "ytjffhhalmicodaa", sum := "9589ed4052e6cd531de7007b4c2ecba1743a8d5bf7d6a1a66dcec9fe6111dc10", func := "comfit/comfitlaw08.FixesEqual", spec := "fixesEqual", inPlace := ["internal/bytealg.IndexByteString"], unfollowed := true, recurses := true, plainKeys := false, apart := false }
def FixesEqualSaid : Prop := fixesEqualRow.holds Try.pinned (OpenSpec.ofChange fixesEqualSpec)

/-- ITS FALSE NEIGHBOUR: 'it returns false'. Refute it at one input. -/
def fixesEqualWrong : ChangeSpec := { name := "fixesEqual", fn := fun _ => fun
  | [d1, d2] => { results := [.lit (.bool false)], args := [d1, d2] }
  | _ => none }
def FixesEqualWrongFalsely : Prop := fixesEqualRow.holds Try.pinned (OpenSpec.ofChange fixesEqualWrong)

/-- 'comfitlaw08.FixesQuotients': WHATEVER THE INPUT: true; the input reads as it did. -/
def fixesQuotientsSpec : ChangeSpec := { name := "fixesQuotients", fn := fun _ => fun
  | [d] => { results := [.lit (.bool true)], args := [d] }
  | _ => none }
def fixesQuotientsRow : OpenClaim := { program := "ytjffhhalmicodaa", sum := "9589ed4052e6cd531de7007b4c2ecba1743a8d5bf7d6a1a66dcec9fe6111dc10", func := "comfit/comfitlaw08.FixesQuotients", spec := "fixesQuotients", inPlace := ["internal/bytealg.IndexByteString"], unfollowed := true, recurses := true, plainKeys := false, apart := false }
def FixesQuotientsSaid : Prop := fixesQuotientsRow.holds Try.pinned (OpenSpec.ofChange fixesQuotientsSpec)

/-- ITS FALSE NEIGHBOUR: 'it returns false'. Refute it at one input. -/
def fixesQuotientsWrong : ChangeSpec := { name := "fixesQuotients", fn := fun _ => fun
  | [d] => { results := [.lit (.bool false)], args := [d] }
  | _ => none }
def FixesQuotientsWrongFalsely : Prop := fixesQuotientsRow.holds Try.pinned (OpenSpec.ofChange fixesQuotientsWrong)

/-- 'comfitlaw08.FixesQuotient': WHATEVER THE INPUT: true; the input reads as it did. -/
def fixesQuotientSpec : ChangeSpec := { name := "fixesQuotient", fn := fun _ => fun
  | [d1, d2] => { results := [.lit (.bool true)], args := [d1, d2] }
  | _ => none }
def fixesQuotientRow : OpenClaim := { program := "ytjffhhalmicodaa", sum := "9589ed4052e6cd531de7007b4c2ecba1743a8d5bf7d6a1a66dcec9fe6111dc10", func := "comfit/comfitlaw08.FixesQuotient", spec := "fixesQuotient", inPlace := ["internal/bytealg.IndexByteString"], unfollowed := true, recurses := true, plainKeys := false, apart := false }
def FixesQuotientSaid : Prop := fixesQuotientRow.holds Try.pinned (OpenSpec.ofChange fixesQuotientSpec)

/-- ITS FALSE NEIGHBOUR: 'it returns false'. Refute it at one input. -/
def fixesQuotientWrong : ChangeSpec := { name := "fixesQuotient", fn := fun _ => fun
  | [d1, d2] => { results := [.lit (.bool false)], args := [d1, d2] }
  | _ => none }
def FixesQuotientWrongFalsely : Prop := fixesQuotientRow.holds Try.pinned (OpenSpec.ofChange fixesQuotientWrong)

/-- 'comfitlaw08.FixesClasses': WHATEVER THE INPUT: true; the input reads as it did. -/
def fixesClassesSpec : ChangeSpec := { name := "fixesClasses", fn := fun _ => fun
  | [d1, d2, d3] => { results := [.lit (.bool true)], args := [d1, d2, d3] }
  | _ => none }
def fixesClassesRow : OpenClaim := { program := "ytjffhhalmicodaa", sum := "9589ed4052e6cd531de7007b4c2ecba1743a8d5bf7d6a1a66dcec9fe6111dc10", func := "comfit/comfitlaw08.FixesClasses", spec := "fixesClasses", inPlace := ["internal/bytealg.IndexByteString"], unfollowed := true, recurses := true, plainKeys := false, apart := false }
def FixesClassesSaid : Prop := fixesClassesRow.holds Try.pinned (OpenSpec.ofChange fixesClassesSpec)

/-- ITS FALSE NEIGHBOUR: 'it returns false'. Refute it at one input. -/
def fixesClassesWrong : ChangeSpec := { name := "fixesClasses", fn := fun _ => fun
  | [d1, d2, d3] => { results := [.lit (.bool false)], args := [d1, d2, d3] }
  | _ => none }
def FixesClassesWrongFalsely : Prop := fixesClassesRow.holds Try.pinned (OpenSpec.ofChange fixesClassesWrong)

/-- 'comfitlaw08.FixesTells': WHATEVER THE INPUT: true; the input reads as it did. -/
def fixesTellsSpec : ChangeSpec := { name := "fixesTells", fn := fun _ => fun
  | [d1, d2, d3, d4] => { results := [.lit (.bool true)], args := [d1, d2, d3, d4] }
  | _ => none }
def fixesTellsRow : OpenClaim := { program := "ytjffhhalmicodaa", sum := "9589ed4052e6cd531de7007b4c2ecba1743a8d5bf7d6a1a66dcec9fe6111dc10", func := "comfit/comfitlaw08.FixesTells", spec := "fixesTells", inPlace := ["internal/bytealg.IndexByteString"], unfollowed := true, recurses := true, plainKeys := false, apart := false }
def FixesTellsSaid : Prop := fixesTellsRow.holds Try.pinned (OpenSpec.ofChange fixesTellsSpec)

/-- ITS FALSE NEIGHBOUR: 'it returns false'. Refute it at one input. -/
def fixesTellsWrong : ChangeSpec := { name := "fixesTells", fn := fun _ => fun
  | [d1, d2, d3, d4] => { results := [.lit (.bool false)], args := [d1, d2, d3, d4] }
  | _ => none }
def FixesTellsWrongFalsely : Prop := fixesTellsRow.holds Try.pinned (OpenSpec.ofChange fixesTellsWrong)

/-- 'comfitlaw08.FixesTold': WHATEVER THE INPUT: true; the input reads as it did. -/
def fixesToldSpec : ChangeSpec := { name := "fixesTold", fn := fun _ => fun
  | [d1, d2, d3] => { results := [.lit (.bool true)], args := [d1, d2, d3] }
  | _ => none }
def fixesToldRow : OpenClaim := { program := "ytjffhhalmicodaa", sum := "9589ed4052e6cd531de7007b4c2ecba1743a8d5bf7d6a1a66dcec9fe6111dc10", func := "comfit/comfitlaw08.FixesTold", spec := "fixesTold", inPlace := ["internal/bytealg.IndexByteString"], unfollowed := true, recurses := true, plainKeys := false, apart := false }
def FixesToldSaid : Prop := fixesToldRow.holds Try.pinned (OpenSpec.ofChange fixesToldSpec)

/-- ITS FALSE NEIGHBOUR: 'it returns false'. Refute it at one input. -/
def fixesToldWrong : ChangeSpec := { name := "fixesTold", fn := fun _ => fun
  | [d1, d2, d3] => { results := [.lit (.bool false)], args := [d1, d2, d3] }
  | _ => none }
def FixesToldWrongFalsely : Prop := fixesToldRow.holds Try.pinned (OpenSpec.ofChange fixesToldWrong)

/- THE SECOND FORM. 'bulk': how many values and letters a reading holds, each counted each time it is reached (what is shared counts as often as it is met; a slice's spare places count too). A statement '..UptoSaid' is the law's where the arguments, and the package variables that the reading takes, are together of bulk at most 1048576: NARROWER than '..Said'. Prove '..Said' where nothing that the law and all that it calls make is longer than what came in: it says more and counts as full. Else prove '..UptoSaid'. A law counts once. -/
mutual
def uptoBulk {H : Type} : DataW H → Nat
  | .lit (.string bytes) => bytes.length + 1
  | .lit _ => 1
  | .nil => 1
  | .ptr d => uptoBulk d + 1
  | .slice elems spare => uptoBulkAll elems + uptoBulkAll spare + 1
  | .agg parts => uptoBulkAll parts + 1
  | .iface _ d => uptoBulk d + 1
  | .map entries => uptoBulkEntries entries + 1
  | .held _ => 1
def uptoBulkAll {H : Type} : List (DataW H) → Nat
  | [] => 0
  | d :: r => uptoBulk d + uptoBulkAll r
def uptoBulkEntries {H : Type} : List (Lit × DataW H) → Nat
  | [] => 0
  | x :: r => uptoBulkEntry x + uptoBulkEntries r
def uptoBulkEntry {H : Type} : Lit × DataW H → Nat
  | (.string bytes, d) => bytes.length + uptoBulk d + 1
  | (_, d) => uptoBulk d + 1
 end
def uptoSmall : (H : Type) → List (DataW H) → Bool := fun _ ds => decide (uptoBulkAll ds ≤ 1048576)
def OpenSpec.upto (s : _root_.Go.ChangeSpec) : _root_.Go.OpenSpec := { _root_.Go.OpenSpec.ofChange s with cond := some uptoSmall }

/-- 'comfitlaw08.FixesHolds', WHERE WHAT IT READS IS OF BULK AT MOST 1048576: true; the input reads as it did. -/
def fixesHoldsUptoRow : OpenClaim := { program := "ytjffhhalmicodaa", sum := "9589ed4052e6cd531de7007b4c2ecba1743a8d5bf7d6a1a66dcec9fe6111dc10", func := "comfit/comfitlaw08.FixesHolds", spec := "fixesHolds", inPlace := ["internal/bytealg.IndexByteString"], unfollowed := true, recurses := true, plainKeys := false, apart := false, narrowed := true }
def FixesHoldsUptoSaid : Prop := fixesHoldsUptoRow.holds Try.pinned (OpenSpec.upto fixesHoldsSpec)

/-- 'comfitlaw08.FixesSteps', WHERE WHAT IT READS IS OF BULK AT MOST 1048576: true; the input reads as it did. -/
def fixesStepsUptoRow : OpenClaim := { program := "ytjffhhalmicodaa", sum := "9589ed4052e6cd531de7007b4c2ecba1743a8d5bf7d6a1a66dcec9fe6111dc10", func := "comfit/comfitlaw08.FixesSteps", spec := "fixesSteps", inPlace := ["internal/bytealg.IndexByteString"], unfollowed := true, recurses := true, plainKeys := false, apart := false, narrowed := true }
def FixesStepsUptoSaid : Prop := fixesStepsUptoRow.holds Try.pinned (OpenSpec.upto fixesStepsSpec)

/-- 'comfitlaw08.FixesBound', WHERE WHAT IT READS IS OF BULK AT MOST 1048576: true; the input reads as it did. -/
def fixesBoundUptoRow : OpenClaim := { program := "ytjffhhalmicodaa", sum := "9589ed4052e6cd531de7007b4c2ecba1743a8d5bf7d6a1a66dcec9fe6111dc10", func := "comfit/comfitlaw08.FixesBound", spec := "fixesBound", inPlace := ["internal/bytealg.IndexByteString"], unfollowed := true, recurses := true, plainKeys := false, apart := false, narrowed := true }
def FixesBoundUptoSaid : Prop := fixesBoundUptoRow.holds Try.pinned (OpenSpec.upto fixesBoundSpec)

/-- 'comfitlaw08.FixesReaches', WHERE WHAT IT READS IS OF BULK AT MOST 1048576: true; the input reads as it did. -/
def fixesReachesUptoRow : OpenClaim := { program := "ytjffhhalmicodaa", sum := "9589ed4052e6cd531de7007b4c2ecba1743a8d5bf7d6a1a66dcec9fe6111dc10", func := "comfit/comfitlaw08.FixesReaches", spec := "fixesReaches", inPlace := ["internal/bytealg.IndexByteString"], unfollowed := true, recurses := true, plainKeys := false, apart := false, narrowed := true }
def FixesReachesUptoSaid : Prop := fixesReachesUptoRow.holds Try.pinned (OpenSpec.upto fixesReachesSpec)

/-- 'comfitlaw08.FixesWays', WHERE WHAT IT READS IS OF BULK AT MOST 1048576: true; the input reads as it did. -/
def fixesWaysUptoRow : OpenClaim := { program := "ytjffhhalmicodaa", sum := "9589ed4052e6cd531de7007b4c2ecba1743a8d5bf7d6a1a66dcec9fe6111dc10", func := "comfit/comfitlaw08.FixesWays", spec := "fixesWays", inPlace := ["internal/bytealg.IndexByteString"], unfollowed := true, recurses := true, plainKeys := false, apart := false, narrowed := true }
def FixesWaysUptoSaid : Prop := fixesWaysUptoRow.holds Try.pinned (OpenSpec.upto fixesWaysSpec)

/-- 'comfitlaw08.FixesNots', WHERE WHAT IT READS IS OF BULK AT MOST 1048576: true; the input reads as it did. -/
def fixesNotsUptoRow : OpenClaim := { program := "ytjffhhalmicodaa", sum := "9589ed4052e6cd531de7007b4c2ecba1743a8d5bf7d6a1a66dcec9fe6111dc10", func := "comfit/comfitlaw08.FixesNots", spec := "fixesNots", inPlace := ["internal/bytealg.IndexByteString"], unfollowed := true, recurses := true, plainKeys := false, apart := false, narrowed := true }
def FixesNotsUptoSaid : Prop := fixesNotsUptoRow.holds Try.pinned (OpenSpec.upto fixesNotsSpec)

/-- 'comfitlaw08.FixesOthers', WHERE WHAT IT READS IS OF BULK AT MOST 1048576: true; the input reads as it did. -/
def fixesOthersUptoRow : OpenClaim := { program := "ytjffhhalmicodaa", sum := "9589ed4052e6cd531de7007b4c2ecba1743a8d5bf7d6a1a66dcec9fe6111dc10", func := "comfit/comfitlaw08.FixesOthers", spec := "fixesOthers", inPlace := ["internal/bytealg.IndexByteString"], unfollowed := true, recurses := true, plainKeys := false, apart := false, narrowed := true }
def FixesOthersUptoSaid : Prop := fixesOthersUptoRow.holds Try.pinned (OpenSpec.upto fixesOthersSpec)

/-- 'comfitlaw08.FixesEqual', WHERE WHAT IT READS IS OF BULK AT MOST 1048576: true; the input reads as it did. -/
def fixesEqualUptoRow : OpenClaim := { program := "ytjffhhalmicodaa", sum := "9589ed4052e6cd531de7007b4c2ecba1743a8d5bf7d6a1a66dcec9fe6111dc10", func := "comfit/comfitlaw08.FixesEqual", spec := "fixesEqual", inPlace := ["internal/bytealg.IndexByteString"], unfollowed := true, recurses := true, plainKeys := false, apart := false, narrowed := true }
def FixesEqualUptoSaid : Prop := fixesEqualUptoRow.holds Try.pinned (OpenSpec.upto fixesEqualSpec)

/-- 'comfitlaw08.FixesQuotients', WHERE WHAT IT READS IS OF BULK AT MOST 1048576: true; the input reads as it did. -/
def fixesQuotientsUptoRow : OpenClaim := { program := "ytjffhhalmicodaa", sum := "9589ed4052e6cd531de7007b4c2ecba1743a8d5bf7d6a1a66dcec9fe6111dc10", func := "comfit/comfitlaw08.FixesQuotients", spec := "fixesQuotients", inPlace := ["internal/bytealg.IndexByteString"], unfollowed := true, recurses := true, plainKeys := false, apart := false, narrowed := true }
def FixesQuotientsUptoSaid : Prop := fixesQuotientsUptoRow.holds Try.pinned (OpenSpec.upto fixesQuotientsSpec)

/-- 'comfitlaw08.FixesQuotient', WHERE WHAT IT READS IS OF BULK AT MOST 1048576: true; the input reads as it did. -/
def fixesQuotientUptoRow : OpenClaim := { program := "ytjffhhalmicodaa", sum := "9589ed4052e6cd531de7007b4c2ecba1743a8d5bf7d6a1a66dcec9fe6111dc10", func := "comfit/comfitlaw08.FixesQuotient", spec := "fixesQuotient", inPlace := ["internal/bytealg.IndexByteString"], unfollowed := true, recurses := true, plainKeys := false, apart := false, narrowed := true }
def FixesQuotientUptoSaid : Prop := fixesQuotientUptoRow.holds Try.pinned (OpenSpec.upto fixesQuotientSpec)

/-- 'comfitlaw08.FixesClasses', WHERE WHAT IT READS IS OF BULK AT MOST 1048576: true; the input reads as it did. -/
def fixesClassesUptoRow : OpenClaim := { program := "ytjffhhalmicodaa", sum := "9589ed4052e6cd531de7007b4c2ecba1743a8d5bf7d6a1a66dcec9fe6111dc10", func := "comfit/comfitlaw08.FixesClasses", spec := "fixesClasses", inPlace := ["internal/bytealg.IndexByteString"], unfollowed := true, recurses := true, plainKeys := false, apart := false, narrowed := true }
def FixesClassesUptoSaid : Prop := fixesClassesUptoRow.holds Try.pinned (OpenSpec.upto fixesClassesSpec)

/-- 'comfitlaw08.FixesTells', WHERE WHAT IT READS IS OF BULK AT MOST 1048576: true; the input reads as it did. -/
def fixesTellsUptoRow : OpenClaim := { program := "ytjffhhalmicodaa", sum := "9589ed4052e6cd531de7007b4c2ecba1743a8d5bf7d6a1a66dcec9fe6111dc10", func := "comfit/comfitlaw08.FixesTells", spec := "fixesTells", inPlace := ["internal/bytealg.IndexByteString"], unfollowed := true, recurses := true, plainKeys := false, apart := false, narrowed := true }
def FixesTellsUptoSaid : Prop := fixesTellsUptoRow.holds Try.pinned (OpenSpec.upto fixesTellsSpec)

/-- 'comfitlaw08.FixesTold', WHERE WHAT IT READS IS OF BULK AT MOST 1048576: true; the input reads as it did. -/
def fixesToldUptoRow : OpenClaim := { program := "ytjffhhalmicodaa", sum := "9589ed4052e6cd531de7007b4c2ecba1743a8d5bf7d6a1a66dcec9fe6111dc10", func := "comfit/comfitlaw08.FixesTold", spec := "fixesTold", inPlace := ["internal/bytealg.IndexByteString"], unfollowed := true, recurses := true, plainKeys := false, apart := false, narrowed := true }
def FixesToldUptoSaid : Prop := fixesToldUptoRow.holds Try.pinned (OpenSpec.upto fixesToldSpec)

end Rows
end Go.Proofs.Ytjffhhalmicodaa
