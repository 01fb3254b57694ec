/- The law TablesReached of the given program returns true for every input, and leaves what its arguments read as it was; the listed variables of unicode/utf8 hold what the program's text lays.
   (Printed by wip/tools/rowcard.py, a program of this repo.) -/
import Derived.Test.YtjpfalanoifpbaaDoorRows
import Derived.Test.YtjpfalanoifpbaaDoorCards
import Derived.Test.YtjpfalanoifpbaaDoorTie
import Derived.WalkKit
import Derived.ProofKit
import Derived.OpenShut
import Derived.ShutString
import Derived.ChangeOld
import Derived.Below
import Derived.SizedLaws
import Derived.Lib.SmallJoins
import Derived.Carry
import Derived.LaidMore
import Derived.Lay
import Derived.SevenTiedAt
import Derived.Stop.Joined
import Derived.Test.YtjpfalanoifpbaaDoorSib
set_option linter.unusedVariables false
namespace Go.Proofs.YtjpfalanoifpbaaDoor.tablesReached
open Go.ChangeShapes Go.WideShapes Go.ChangeAt Go.RowKit Go.Joins Go.Proofs.YtjpfalanoifpbaaDoorW.PrintWords Go.Proofs.YtjpfalanoifpbaaDoorW.PrintLast Go.Proofs.YtjpfalanoifpbaaDoorW.PrintMore
open Go.ChangeMaps (open_string shut_string)
theorem own : ownKnob Tryd.prog.godebug = none := by kernel_rfl
theorem laidOut : laidOutB Tryd.prog = true := by kernel_rfl
theorem walk (A0 : Option Addr) (n0 c0 : Nat) (L0 : Nat → Int) (R0 : Nat → ByteArray) (w : World) (w0 : X.Sr w A0 n0 c0 L0 R0) (z0 : ∀ k, k < n0 → (R0 k).size ≤ 9223372036854775807) (m0 : n0 ≤ 9223372036854775807) (o0 : c0 ≤ 9223372036854775807) :
    Calls Tryd.prog 10 #[.slice A0 n0 c0] w fun e w' => e = .returned (.bool true) ∧ Below w.heap.size w w' := by
  exact Go.Proofs.YtjpfalanoifpbaaDoor.X.TablesReached.calls A0 n0 c0 L0 R0 w w0 z0 m0 o0
set_option maxRecDepth 100000 in
theorem lifted (os : Os) (started : os.Started) (H : Type) (enc : TypeId × Value → H) :
    ReturnsInHanded {} Tryd.checked os 10 .any (fun w args => (Rows.tablesReachedSpec.pre enc Tryd.prog Tryd.f10 Rows.tablesReachedRow.domain false w args ∧ laidMetH Tryd.prog Rows.tablesReachedRow.laid w) ∧ sizedMet enc Tryd.prog Tryd.f10 (OpenSpec.ofChange Rows.tablesReachedSpec) false w args)
      (Rows.tablesReachedSpec.post enc Tryd.prog Tryd.f10 false true false false) := by
  refine returnsInHanded_of_change_and (C := Tryd.checked) (X := fun w _ => laidMetH Tryd.prog Rows.tablesReachedRow.laid w) (fun _ _ _ hh h => h.of_heap hh) own started (by kernel_rfl) Tryd.func10
    (ChangeSpec.witness_shaped (enc := enc) (C := Tryd.checked) (os := os) (X := fun w _ => laidMetH Tryd.prog Rows.tablesReachedRow.laid w) false (World.laidAll Tryd.prog os Rows.tablesReachedRow.laid) #[.slice none 0 0] 8 (World.laidAll_os _ _ _)
      (World.shaped_of_ZipB (by kernel_rfl) (by kernel_rfl)) (by kernel_rfl) (by kernel_rfl) (by kernel_rfl)
      (by rw [MakeChecks.laidMetH_plain _ _ _ (by kernel_rfl)]; exact laidMet_laidAll _ (by kernel_rfl) (by kernel_rfl))) ?_
  intro W base args ds gs before hval0 hW _ hsz0 _ _
  have hsz : (DataW.weightsEach Tryd.prog (Tryd.f10.params.toList ++ Rows.tablesReachedSpec.plain.varTypes Tryd.prog) (ds ++ gs)).all (· ≤ reachBytes) = true := hsz0
  have hval : ∀ (j : Nat) t v, Tryd.f10.params[j]? = some t → args[j]? = some v → Value.okWide Tryd.prog W .any base t v := hval0
  have hW' := hW
  obtain ⟨p, q, hA0, hV, rfl, hfz, hnd⟩ := hW
  have hA : DataW.TrodAll enc Tryd.prog W 0 (fun _ => true) true Tryd.f10.params.toList args.toList ds p := hA0
  rw [Tryd.params10] at hA hval hsz
  obtain ⟨v0, vs0, d0, ds0, pl0, ql0, hargs, rfl, rfl, h0, r0⟩ := trodAll_cons hA
  obtain ⟨rfl, rfl, rfl⟩ := trodAll_nil r0
  obtain rfl : args = #[v0] := by cases args; simp_all
  obtain ⟨rfl, rfl⟩ := trodVars_none hV
  have k0 := h0
  have lt0 : ∀ x ∈ pl0, x.block < W.heap.size := by obtain ⟨m, hm⟩ := k0; exact DataW.trod_lt m _ _ _ hm
  obtain ⟨A0, n0, c0, rfl⟩ := okWide_slice Tryd.underlying22 (hval 0 22 v0 rfl rfl)
  obtain ⟨⟨L0, R0, w0, z0⟩, m0, o0⟩ := X.open_rlsT h0
  clear hA0 hval0 hsz0 hsz
  refine (walk A0 n0 c0 L0 R0 W w0 z0 m0 o0).mono fun e W' ⟨he, bel⟩ => ?_
  subst he
  exact ⟨_, rfl, _, _, _, [], _, [], hW', trodAll_mk1 (shut_bool Tryd.underlying4 _), (trodAll_cons_mk (Below.trod laidOut (by kernel_rfl) (of_decide_eq_true (by kernel_rfl)) k0 bel lt0) trodAll_mk0), rfl, bel.frame _, fun h => by cases h⟩
theorem over : Rows.tablesReachedRow.holds Tryd.pinned (OpenSpec.ofChange Rows.tablesReachedSpec) :=
  OpenClaim.holds_of_wide 10 Tryd.f10 rfl rfl rfl rfl rfl rfl rfl ⟨rfl, rfl, rfl, rfl, rfl⟩ rfl rfl rfl rfl rfl (by kernel_rfl) Tryd.func10 (by kernel_rfl)
    (of_decide_eq_true (by kernel_rfl)) (by unfold Func.isWrapper; first | (rw [if_pos (by decide +kernel)]; kernel_rfl) | (rw [if_neg (by decide +kernel)]; exact ⟨rfl, rfl⟩))
    (fun os started H enc _ => lifted os started H enc)
theorem card : Rows.TablesReachedCardSaid :=
  Claim7.holds_tied_plain_at .later [] [.data, .pinned] true (true, "b0ada6e4fe4046f42a8eb827865cdcef13e416e282f33c76dc460f2117e08de8") false over (fun _ h => by cases h) (by kernel_rfl) (fun _ h => by cases h) tablesReached_row_tie rfl ⟨rfl, rfl⟩ (by kernel_rfl) rfl
    (fun f fn hf hfn => by
      obtain rfl : f = 10 := Option.some.inj ((show Tryd.prog.funcNamed "comfit/comfitlaw05.TablesReached" = some 10 by kernel_rfl).symm.trans hf) |>.symm
      obtain rfl : fn = Tryd.f10 := (Option.some.inj (Tryd.func10.symm.trans hfn)).symm
      exact ⟨by kernel_rfl, fun j t ht => by
        rw [Tryd.params10] at ht
        have hm : t ∈ [22] := by simpa using Array.mem_of_getElem? ht
        have hall : ([22].all fun u => !Tryd.prog.wantsStandIn u) = true := by kernel_rfl
        exact (show Tryd.prog.wantsStandIn t = false by simpa using List.all_eq_true.1 hall t hm)⟩)
    (by kernel_rfl)
#print axioms card
end Go.Proofs.YtjpfalanoifpbaaDoor.tablesReached
namespace Go.Proofs.YtjpfalanoifpbaaDoor
/-- The card, under a short name, for the claim. -/
theorem tablesReached_holds : Rows.TablesReachedCardSaid := tablesReached.card
end Go.Proofs.YtjpfalanoifpbaaDoor
