/- Texts of this claim, merged by a program (wip/tools/shake.py); what nothing names is left out. -/
import Derived.KernelRfl
import Derived.Below
import Derived.Deep.Draws
import Derived.Deep.AppendLies
import Derived.Maps.AppendAt
import Derived.OwnWalk
import Derived.Laws.BytesArg
import Derived.Laws.MakeOwn
import Derived.Laws.OwnMore
import Derived.Deep.OwnRows
import Derived.Tactics
import Derived.Lib.ConvBytes
import Derived.Laws.Slices
import Derived.WalkKit
import Derived.RowKit3
import Derived.Deep.LoopGhost
import Derived.Deep.QuietTactic
import Derived.BigQuiet
import Derived.WideLaws
import Derived.Deep.DeepCutAuto
import Derived.Deep.CutBlock
import Derived.Deep.RegionHeld3
import Derived.Laws.Rows
import Derived.Lib.AppendStr
import Derived.ArgAppend
import Derived.Laws.IdiomCopy
import Derived.RowKit
import Derived.OrdersHeld
import Derived.Laws.BitsLemmas
import Derived.Test.YtjffhhalmicodaaDoorProg
import Derived.Lib.Replace
import Derived.Shelf.Strings.Builder1
import Derived.Shelf.Strings.Builder2
import Derived.Shelf.Small.Strs
import Derived.Shelf.Utf8.RuneCount
import Derived.Shelf.Strings.Search1
import Derived.Shelf.Strings.Search2
import Derived.Shelf.Strings.Search3
import Derived.Shelf.Strings.Count
import Derived.Shelf.LaysM
import Derived.Shelf.Strings.Shaped
import Derived.Shelf.Strings.Split
import Derived.Shelf.Strings.Replace
import Derived.Shelf.Strings.SplitShaped
import Derived.Shelf.Unicode.Decode
import Derived.Shelf.Strings.RuneCount
import Derived.Shelf.Unicode.DecodeSlow
import Derived.Shelf.Unicode.DecodeAny
import Derived.Shelf.Slices.Turned
import Derived.Ground.Names2Prog
import Derived.Shelf.Slices.Clone
import Derived.Ground.SlgnProg
import Derived.Shelf.SlicesE.Clone
import Derived.Test.YtjffhhalmicodaaDoorSpc
section
section
namespace Go.Proofs.YtjffhhalmicodaaDoor.PB
open Go.RowKit Go.Proofs.YtjffhhalmicodaaDoorW.PrintWords Go.Proofs.YtjffhhalmicodaaDoorW.PrintLast Go.Proofs.YtjffhhalmicodaaDoorW.PrintMore
attribute [local go_sem] max2_int min2_int max_two min_two max_three min_three max_four min_four
set_option linter.unusedVariables false
set_option linter.unusedSimpArgs false
mutual
def comfitref08_read.j0 : Nat → ByteArray → Int → Int → Int → Bool → Option (Int × Int)
  | 0, _, _, _, _, _ => none
  | k + 1, x0, x1, x2, x8, x22 => if x22 = true then (some (wrap64 (x1 + 1), 0)) else (if x8 = 45 then (if (wrap64 (x1 + 1)) < (x0.size : Int) then (if 0 ≤ (wrap64 (x1 + 1)) then ((Go.Proofs.YtjffhhalmicodaaDoor.PA.comfitref08_digit.f (bt x0 (wrap64 (x1 + 1)))).bind fun t104 => (comfitref08_read.j1 k x0 x1 x2 x8 (decide (t104 ≥ 0)))) else (none)) else (comfitref08_read.j1 k x0 x1 x2 x8 false)) else (comfitref08_read.j1 k x0 x1 x2 x8 false))
def comfitref08_read.j1 : Nat → ByteArray → Int → Int → Int → Bool → Option (Int × Int)
  | 0, _, _, _, _, _ => none
  | k + 1, x0, x1, x2, x8, x49 => if x49 = true then (some (wrap64 (x1 + 2), 0)) else (if x8 = 38 then (comfitref08_read.j2 k x0 x1 x2 x8 true) else (comfitref08_read.j2 k x0 x1 x2 x8 (x8 == 124)))
def comfitref08_read.j2 : Nat → ByteArray → Int → Int → Int → Bool → Option (Int × Int)
  | 0, _, _, _, _, _ => none
  | k + 1, x0, x1, x2, x8, x69 => if x69 = true then ((comfitref08_read.f k x0 (wrap64 (x1 + 1)) x2).bind fun bt105 => (if bt105.1 < 0 then (some ((-1), 0)) else ((comfitref08_read.f k x0 bt105.1 x2).bind fun bt107 => (some (bt107.1, mx bt105.2 bt107.2))))) else (if x8 = 60 then (comfitref08_read.j3 k x0 x1 x2 x8 true) else (comfitref08_read.j3 k x0 x1 x2 x8 (x8 == 91)))
def comfitref08_read.j3 : Nat → ByteArray → Int → Int → Int → Bool → Option (Int × Int)
  | 0, _, _, _, _, _ => none
  | k + 1, x0, x1, x2, x8, x97 => if x97 = true then ((comfitref08_read.f k x0 (wrap64 (x1 + 1)) x2).bind fun bt109 => (some (bt109.1, wrap64 (bt109.2 + 1)))) else (if x8 = 109 then (if (wrap64 (x1 + 1)) < (x0.size : Int) then (if 0 ≤ (wrap64 (x1 + 1)) then ((Go.Proofs.YtjffhhalmicodaaDoor.PA.comfitref08_letter.f (bt x0 (wrap64 (x1 + 1)))).bind fun t111 => (if t111 ≥ 0 then ((Go.Proofs.YtjffhhalmicodaaDoor.PA.comfitref08_letter.f (bt x0 (wrap64 (x1 + 1)))).bind fun t112 => (if 0 ≤ t112 then (comfitref08_read.j4 k x0 x1 x2 ((Go.bits .and .i64 (shr .i64 x2 t112) 1) == 0)) else (none))) else (comfitref08_read.j4 k x0 x1 x2 false))) else (none)) else (comfitref08_read.j4 k x0 x1 x2 false)) else (if x8 = 103 then (if (wrap64 (x1 + 1)) < (x0.size : Int) then (if 0 ≤ (wrap64 (x1 + 1)) then ((Go.Proofs.YtjffhhalmicodaaDoor.PA.comfitref08_letter.f (bt x0 (wrap64 (x1 + 1)))).bind fun t113 => (if t113 ≥ 0 then ((Go.Proofs.YtjffhhalmicodaaDoor.PA.comfitref08_letter.f (bt x0 (wrap64 (x1 + 1)))).bind fun t114 => (if 0 ≤ t114 then (comfitref08_read.j4 k x0 x1 x2 ((Go.bits .and .i64 (shr .i64 x2 t114) 1) == 0)) else (none))) else (comfitref08_read.j4 k x0 x1 x2 false))) else (none)) else (comfitref08_read.j4 k x0 x1 x2 false)) else (comfitref08_read.j4 k x0 x1 x2 false)))
def comfitref08_read.j4 : Nat → ByteArray → Int → Int → Bool → Option (Int × Int)
  | 0, _, _, _, _ => none
  | k + 1, x0, x1, x2, x115 => if x115 = true then (if 0 ≤ (wrap64 (x1 + 1)) then (if (wrap64 (x1 + 1)) < (x0.size : Int) then ((Go.Proofs.YtjffhhalmicodaaDoor.PA.comfitref08_letter.f (bt x0 (wrap64 (x1 + 1)))).bind fun t115 => (if 0 ≤ t115 then ((comfitref08_read.f k x0 (wrap64 (x1 + 2)) (Go.bits .or .i64 x2 (shl .i64 1 t115))).bind fun bt116 => (some (bt116.1, bt116.2))) else (none))) else (none)) else (none)) else (some ((-1), 0))
def comfitref08_read.f : Nat → ByteArray → Int → Int → Option (Int × Int)
  | 0, _, _, _ => none
  | k + 1, a0, a1, a2 => if a1 ≥ (a0.size : Int) then (some ((-1), 0)) else (if 0 ≤ a1 then (if a1 < (a0.size : Int) then ((Go.Proofs.YtjffhhalmicodaaDoor.PA.comfitref08_digit.f (bt a0 a1)).bind fun t101 => (if t101 ≥ 0 then (comfitref08_read.j0 k a0 a1 a2 (bt a0 a1) true) else (if (bt a0 a1) = 116 then (comfitref08_read.j0 k a0 a1 a2 (bt a0 a1) true) else (if (bt a0 a1) = 102 then (comfitref08_read.j0 k a0 a1 a2 (bt a0 a1) true) else ((Go.Proofs.YtjffhhalmicodaaDoor.PA.comfitref08_letter.f (bt a0 a1)).bind fun t102 => (if t102 ≥ 0 then ((Go.Proofs.YtjffhhalmicodaaDoor.PA.comfitref08_letter.f (bt a0 a1)).bind fun t103 => (if 0 ≤ t103 then (comfitref08_read.j0 k a0 a1 a2 (bt a0 a1) ((Go.bits .and .i64 (shr .i64 a2 t103) 1) == 1)) else (none))) else (comfitref08_read.j0 k a0 a1 a2 (bt a0 a1) false))))))) else (none)) else (none))
end
theorem comfitref08_read.mono_l : ∀ k, (∀ y0 y1 y2, LeO (comfitref08_read.f k y0 y1 y2) (comfitref08_read.f (k + 1) y0 y1 y2)) ∧ (∀ y0 y1 y2 y3 y4, LeO (comfitref08_read.j0 k y0 y1 y2 y3 y4) (comfitref08_read.j0 (k + 1) y0 y1 y2 y3 y4)) ∧ (∀ y0 y1 y2 y3 y4, LeO (comfitref08_read.j1 k y0 y1 y2 y3 y4) (comfitref08_read.j1 (k + 1) y0 y1 y2 y3 y4)) ∧ (∀ y0 y1 y2 y3 y4, LeO (comfitref08_read.j2 k y0 y1 y2 y3 y4) (comfitref08_read.j2 (k + 1) y0 y1 y2 y3 y4)) ∧ (∀ y0 y1 y2 y3 y4, LeO (comfitref08_read.j3 k y0 y1 y2 y3 y4) (comfitref08_read.j3 (k + 1) y0 y1 y2 y3 y4)) ∧ (∀ y0 y1 y2 y3, LeO (comfitref08_read.j4 k y0 y1 y2 y3) (comfitref08_read.j4 (k + 1) y0 y1 y2 y3))
  | 0 => ⟨fun _ _ _ r h => by simp [comfitref08_read.f] at h, fun _ _ _ _ _ r h => by simp [comfitref08_read.j0] at h, fun _ _ _ _ _ r h => by simp [comfitref08_read.j1] at h, fun _ _ _ _ _ r h => by simp [comfitref08_read.j2] at h, fun _ _ _ _ _ r h => by simp [comfitref08_read.j3] at h, fun _ _ _ _ r h => by simp [comfitref08_read.j4] at h⟩
  | k + 1 => by
    obtain ⟨ih0, ih1, ih2, ih3, ih4, ih5⟩ := comfitref08_read.mono_l k
    refine ⟨?_, ?_, ?_, ?_, ?_, ?_⟩
    · intro y0 y1 y2
      unfold comfitref08_read.f
      repeat' first
      | (with_reducible exact ih0 _ _ _)
      | (with_reducible exact ih1 _ _ _ _ _)
      | (with_reducible exact ih2 _ _ _ _ _)
      | (with_reducible exact ih3 _ _ _ _ _)
      | (with_reducible exact ih4 _ _ _ _ _)
      | (with_reducible exact ih5 _ _ _ _)
      | (with_reducible exact LeO.refl _)
      | (with_reducible exact LeO.none _)
      | (with_reducible refine LeO.ite ?_ ?_)
      | (with_reducible refine LeO.bind ?_ (fun _ => ?_))
      | exact ih0 _ _ _
      | exact ih1 _ _ _ _ _
      | exact ih2 _ _ _ _ _
      | exact ih3 _ _ _ _ _
      | exact ih4 _ _ _ _ _
      | exact ih5 _ _ _ _
      | exact LeO.none _
      | refine LeO.ite ?_ ?_
      | refine LeO.bind ?_ (fun _ => ?_)
    · intro y0 y1 y2 y3 y4
      unfold comfitref08_read.j0
      repeat' first
      | (with_reducible exact ih0 _ _ _)
      | (with_reducible exact ih1 _ _ _ _ _)
      | (with_reducible exact ih2 _ _ _ _ _)
      | (with_reducible exact ih3 _ _ _ _ _)
      | (with_reducible exact ih4 _ _ _ _ _)
      | (with_reducible exact ih5 _ _ _ _)
      | (with_reducible exact LeO.refl _)
      | (with_reducible exact LeO.none _)
      | (with_reducible refine LeO.ite ?_ ?_)
      | (with_reducible refine LeO.bind ?_ (fun _ => ?_))
      | exact ih0 _ _ _
      | exact ih1 _ _ _ _ _
      | exact ih2 _ _ _ _ _
      | exact ih3 _ _ _ _ _
      | exact ih4 _ _ _ _ _
      | exact ih5 _ _ _ _
      | exact LeO.none _
      | refine LeO.ite ?_ ?_
      | refine LeO.bind ?_ (fun _ => ?_)
    · intro y0 y1 y2 y3 y4
      unfold comfitref08_read.j1
      repeat' first
      | (with_reducible exact ih0 _ _ _)
      | (with_reducible exact ih1 _ _ _ _ _)
      | (with_reducible exact ih2 _ _ _ _ _)
      | (with_reducible exact ih3 _ _ _ _ _)
      | (with_reducible exact ih4 _ _ _ _ _)
      | (with_reducible exact ih5 _ _ _ _)
      | (with_reducible exact LeO.refl _)
      | (with_reducible exact LeO.none _)
      | (with_reducible refine LeO.ite ?_ ?_)
      | (with_reducible refine LeO.bind ?_ (fun _ => ?_))
      | exact ih0 _ _ _
      | exact ih1 _ _ _ _ _
      | exact ih2 _ _ _ _ _
      | exact ih3 _ _ _ _ _
      | exact ih4 _ _ _ _ _
      | exact ih5 _ _ _ _
      | exact LeO.none _
      | refine LeO.ite ?_ ?_
      | refine LeO.bind ?_ (fun _ => ?_)
    · intro y0 y1 y2 y3 y4
      unfold comfitref08_read.j2
      repeat' first
      | (with_reducible exact ih0 _ _ _)
      | (with_reducible exact ih1 _ _ _ _ _)
      | (with_reducible exact ih2 _ _ _ _ _)
      | (with_reducible exact ih3 _ _ _ _ _)
      | (with_reducible exact ih4 _ _ _ _ _)
      | (with_reducible exact ih5 _ _ _ _)
      | (with_reducible exact LeO.refl _)
      | (with_reducible exact LeO.none _)
      | (with_reducible refine LeO.ite ?_ ?_)
      | (with_reducible refine LeO.bind ?_ (fun _ => ?_))
      | exact ih0 _ _ _
      | exact ih1 _ _ _ _ _
      | exact ih2 _ _ _ _ _
      | exact ih3 _ _ _ _ _
      | exact ih4 _ _ _ _ _
      | exact ih5 _ _ _ _
      | exact LeO.none _
      | refine LeO.ite ?_ ?_
      | refine LeO.bind ?_ (fun _ => ?_)
    · intro y0 y1 y2 y3 y4
      unfold comfitref08_read.j3
      repeat' first
      | (with_reducible exact ih0 _ _ _)
      | (with_reducible exact ih1 _ _ _ _ _)
      | (with_reducible exact ih2 _ _ _ _ _)
      | (with_reducible exact ih3 _ _ _ _ _)
      | (with_reducible exact ih4 _ _ _ _ _)
      | (with_reducible exact ih5 _ _ _ _)
      | (with_reducible exact LeO.refl _)
      | (with_reducible exact LeO.none _)
      | (with_reducible refine LeO.ite ?_ ?_)
      | (with_reducible refine LeO.bind ?_ (fun _ => ?_))
      | exact ih0 _ _ _
      | exact ih1 _ _ _ _ _
      | exact ih2 _ _ _ _ _
      | exact ih3 _ _ _ _ _
      | exact ih4 _ _ _ _ _
      | exact ih5 _ _ _ _
      | exact LeO.none _
      | refine LeO.ite ?_ ?_
      | refine LeO.bind ?_ (fun _ => ?_)
    · intro y0 y1 y2 y3
      unfold comfitref08_read.j4
      repeat' first
      | (with_reducible exact ih0 _ _ _)
      | (with_reducible exact ih1 _ _ _ _ _)
      | (with_reducible exact ih2 _ _ _ _ _)
      | (with_reducible exact ih3 _ _ _ _ _)
      | (with_reducible exact ih4 _ _ _ _ _)
      | (with_reducible exact ih5 _ _ _ _)
      | (with_reducible exact LeO.refl _)
      | (with_reducible exact LeO.none _)
      | (with_reducible refine LeO.ite ?_ ?_)
      | (with_reducible refine LeO.bind ?_ (fun _ => ?_))
      | exact ih0 _ _ _
      | exact ih1 _ _ _ _ _
      | exact ih2 _ _ _ _ _
      | exact ih3 _ _ _ _ _
      | exact ih4 _ _ _ _ _
      | exact ih5 _ _ _ _
      | exact LeO.none _
      | refine LeO.ite ?_ ?_
      | refine LeO.bind ?_ (fun _ => ?_)
theorem comfitref08_read.mono : ∀ a0 a1 a2 k, LeO (comfitref08_read.f k a0 a1 a2) (comfitref08_read.f (k + 1) a0 a1 a2) := by
  intro a0 a1 a2 k
  obtain ⟨ih0, ih1, ih2, ih3, ih4, ih5⟩ := comfitref08_read.mono_l k
  exact ih0 a0 a1 a2
set_option maxHeartbeats 8000000 in
set_option maxRecDepth 100000 in
theorem comfitref08_read.calls (k : Nat) : ∀ (a0 : ByteArray) (a1 : Int) (a2 : Int) (r1 : Int) (r2 : Int) (w : World) (h : comfitref08_read.f k a0 a1 a2 = some (r1, r2)),
    Calls Tryd.prog 14 #[.string a0, .int .i64 a1, .int .i64 a2] w fun e w' => e = .returned (.tuple #[.int .i64 r1, .int .i64 r2]) ∧ Below w.heap.size w w' := by
  induction k using Nat.strongRecOn with
  | _ k ih =>
  intro a0 a1 a2 r1 r2 w h
  cases k with
  | zero => exact absurd h (by simp [comfitref08_read.f])
  | succ k =>
  simp only [comfitref08_read.f] at h
  have HB := Aside0.mk (Below.refl w.heap.size w)
  have H : (if a1 ≥ (a0.size : Int) then (some ((-1), 0)) else (if 0 ≤ a1 then (if a1 < (a0.size : Int) then ((Go.Proofs.YtjffhhalmicodaaDoor.PA.comfitref08_digit.f (bt a0 a1)).bind fun t101 => (if t101 ≥ 0 then (comfitref08_read.j0 k a0 a1 a2 (bt a0 a1) true) else (if (bt a0 a1) = 116 then (comfitref08_read.j0 k a0 a1 a2 (bt a0 a1) true) else (if (bt a0 a1) = 102 then (comfitref08_read.j0 k a0 a1 a2 (bt a0 a1) true) else ((Go.Proofs.YtjffhhalmicodaaDoor.PA.comfitref08_letter.f (bt a0 a1)).bind fun t102 => (if t102 ≥ 0 then ((Go.Proofs.YtjffhhalmicodaaDoor.PA.comfitref08_letter.f (bt a0 a1)).bind fun t103 => (if 0 ≤ t103 then (comfitref08_read.j0 k a0 a1 a2 (bt a0 a1) ((Go.bits .and .i64 (shr .i64 a2 t103) 1) == 1)) else (none))) else (comfitref08_read.j0 k a0 a1 a2 (bt a0 a1) false))))))) else (none)) else (none))) = some (r1, r2) := h
  clear h
  by_cases c4 : a1 ≥ (a0.size : Int)
  · rw [if_pos c4] at H
    have c4b0 : decide ((a0.size : Int) ≤ a1) = true := decide_eq_true c4
    clear c4
    simp only [Option.some.injEq, Prod.mk.injEq] at H
    obtain ⟨rfl, rfl⟩ := H
    go_enter Tryd.func14, Tryd.ntmps14
    go_wp2
    go_ret2
    exact ⟨by first | rfl | (simp [errW_none, errW_some] <;> rfl) | (simp [*, errW_none, errW_some] <;> rfl), by repeat (first | (with_reducible first | exact HB.out | apply below_alloc | apply pw_below_drewN | apply below_drew1) | exact HB.out)⟩
  · rw [if_neg c4] at H
    have c4b0 : decide ((a0.size : Int) ≤ a1) = false := decide_eq_false c4
    clear c4
    by_cases c5 : 0 ≤ a1
    · rw [if_pos c5] at H
      have c5b0 : decide (0 ≤ a1) = true := decide_eq_true c5
      clear c5
      by_cases c6 : a1 < (a0.size : Int)
      · rw [if_pos c6] at H
        have c6b0 : decide (a1 < (a0.size : Int)) = true := decide_eq_true c6
        clear c6
        have HC8 := Aside0.mk H
        clear H
        have p7 : 0 ≤ (a1 : Int) := of_decide_eq_true (by first | (with_reducible assumption) | assumption)
        have q7 : a1 < (a0.size : Int) := of_decide_eq_true (by first | (with_reducible assumption) | assumption)
        have hx7 := bt_at a0 a1
        replace p7 := eq_true p7
        replace q7 := eq_true q7
        go_enter Tryd.func14, Tryd.ntmps14
        go_upto_region 4 with (fail)
        go_cut [22] (fun v22 wc => ∃ (kq : Nat) (x22_7 : Bool), v22 = .bool x22_7 ∧ Aside0 (comfitref08_read.j0 kq a0 a1 a2 (bt a0 a1) x22_7 = some (r1, r2)) ∧ Aside0 (kq ≤ k) ∧ Aside0 (Below w.heap.size w wc))
        case first =>
          have H := HC8.out
          clear HC8
          replace H := Option.bind_eq_some_iff.mp H
          obtain ⟨t101, A90, H⟩ := H
          replace H : (if t101 ≥ 0 then (comfitref08_read.j0 k a0 a1 a2 (bt a0 a1) true) else (if (bt a0 a1) = 116 then (comfitref08_read.j0 k a0 a1 a2 (bt a0 a1) true) else (if (bt a0 a1) = 102 then (comfitref08_read.j0 k a0 a1 a2 (bt a0 a1) true) else ((Go.Proofs.YtjffhhalmicodaaDoor.PA.comfitref08_letter.f (bt a0 a1)).bind fun t102 => (if t102 ≥ 0 then ((Go.Proofs.YtjffhhalmicodaaDoor.PA.comfitref08_letter.f (bt a0 a1)).bind fun t103 => (if 0 ≤ t103 then (comfitref08_read.j0 k a0 a1 a2 (bt a0 a1) ((Go.bits .and .i64 (shr .i64 a2 t103) 1) == 1)) else (none))) else (comfitref08_read.j0 k a0 a1 a2 (bt a0 a1) false)))))) = some (r1, r2) := H
          have A9 := Aside0.mk A90
          clear A90
          by_cases c10 : t101 ≥ 0
          · rw [if_pos c10] at H
            have c10b0 : decide (0 ≤ t101) = true := decide_eq_true c10
            clear c10
            (first | rw [c10b0] | (simp only [i64_w, i32_w]; rw [c10b0]) | skip)
            have H' := Aside0.mk H
            clear H
            go_wp2_with (first | ((with_reducible refine gate_callee (f := 20) rfl ?_); refine goesL_ (some 24) rfl rfl Tryd.func20 (by kernel_rfl) rfl #[.int .u8 (bt a0 a1)] rfl (by (try simp only [List.map_toArray, List.map_cons, List.map_nil]); first | done | rfl | (simp only [List.length_drop, List.length_take]; rfl)) ?_; (with_reducible refine (Go.Proofs.YtjffhhalmicodaaDoor.PA.comfitref08_digit.calls (bt a0 a1) t101 _ A9.out).mono ?_); rintro e w' ⟨rfl, ⟨nd, rfl⟩⟩; refine ⟨_, rfl, ?_⟩))
            go_meet
            case rel => exact ⟨_, (true), (by first | rfl | (simp; done) | (simp [*]; done)), H', ⟨by first | omega | exact Nat.le_refl _⟩, ⟨by repeat (first | (with_reducible first | exact HB.out | apply below_alloc | apply pw_below_drewN | apply below_drew1) | exact HB.out)⟩⟩
          · rw [if_neg c10] at H
            have c10b0 : decide (0 ≤ t101) = false := decide_eq_false c10
            clear c10
            (first | rw [c10b0] | (simp only [i64_w, i32_w]; rw [c10b0]) | skip)
            by_cases c11 : (bt a0 a1) = 116
            · rw [if_pos c11] at H
              have c11b0 : ((bt a0 a1) == 116) = true := beq_iff_eq.mpr c11
              have c11b1 : ((bt a0 a1) != 116) = false := bne_eq_false_iff_eq.mpr c11
              clear c11
              have H' := Aside0.mk H
              clear H
              go_wp2_with (first | ((with_reducible refine gate_callee (f := 20) rfl ?_); refine goesL_ (some 24) rfl rfl Tryd.func20 (by kernel_rfl) rfl #[.int .u8 (bt a0 a1)] rfl (by (try simp only [List.map_toArray, List.map_cons, List.map_nil]); first | done | rfl | (simp only [List.length_drop, List.length_take]; rfl)) ?_; (with_reducible refine (Go.Proofs.YtjffhhalmicodaaDoor.PA.comfitref08_digit.calls (bt a0 a1) t101 _ A9.out).mono ?_); rintro e w' ⟨rfl, ⟨nd, rfl⟩⟩; refine ⟨_, rfl, ?_⟩))
              go_meet
              case rel => exact ⟨_, (true), (by first | rfl | (simp; done) | (simp [*]; done)), H', ⟨by first | omega | exact Nat.le_refl _⟩, ⟨by repeat (first | (with_reducible first | exact HB.out | apply below_alloc | apply pw_below_drewN | apply below_drew1) | exact HB.out)⟩⟩
            · rw [if_neg c11] at H
              have c11b0 : ((bt a0 a1) == 116) = false := beq_eq_false_iff_ne.mpr c11
              have c11b1 : ((bt a0 a1) != 116) = true := bne_iff_ne.mpr c11
              by_cases c12 : (bt a0 a1) = 102
              · rw [if_pos c12] at H
                have c12b0 : ((bt a0 a1) == 102) = true := beq_iff_eq.mpr c12
                have c12b1 : ((bt a0 a1) != 102) = false := bne_eq_false_iff_eq.mpr c12
                clear c12
                have H' := Aside0.mk H
                clear H
                go_wp2_with (first | ((with_reducible refine gate_callee (f := 20) rfl ?_); refine goesL_ (some 24) rfl rfl Tryd.func20 (by kernel_rfl) rfl #[.int .u8 (bt a0 a1)] rfl (by (try simp only [List.map_toArray, List.map_cons, List.map_nil]); first | done | rfl | (simp only [List.length_drop, List.length_take]; rfl)) ?_; (with_reducible refine (Go.Proofs.YtjffhhalmicodaaDoor.PA.comfitref08_digit.calls (bt a0 a1) t101 _ A9.out).mono ?_); rintro e w' ⟨rfl, ⟨nd, rfl⟩⟩; refine ⟨_, rfl, ?_⟩))
                go_meet
                case rel => exact ⟨_, (true), (by first | rfl | (simp; done) | (simp [*]; done)), H', ⟨by first | omega | exact Nat.le_refl _⟩, ⟨by repeat (first | (with_reducible first | exact HB.out | apply below_alloc | apply pw_below_drewN | apply below_drew1) | exact HB.out)⟩⟩
              · rw [if_neg c12] at H
                have c12b0 : ((bt a0 a1) == 102) = false := beq_eq_false_iff_ne.mpr c12
                have c12b1 : ((bt a0 a1) != 102) = true := bne_iff_ne.mpr c12
                replace H := Option.bind_eq_some_iff.mp H
                obtain ⟨t102, A130, H⟩ := H
                replace H : (if t102 ≥ 0 then ((Go.Proofs.YtjffhhalmicodaaDoor.PA.comfitref08_letter.f (bt a0 a1)).bind fun t103 => (if 0 ≤ t103 then (comfitref08_read.j0 k a0 a1 a2 (bt a0 a1) ((Go.bits .and .i64 (shr .i64 a2 t103) 1) == 1)) else (none))) else (comfitref08_read.j0 k a0 a1 a2 (bt a0 a1) false)) = some (r1, r2) := H
                have A13 := Aside0.mk A130
                clear A130
                by_cases c14 : t102 ≥ 0
                · rw [if_pos c14] at H
                  have c14b0 : decide (0 ≤ t102) = true := decide_eq_true c14
                  clear c14
                  replace H := Option.bind_eq_some_iff.mp H
                  obtain ⟨t103, A150, H⟩ := H
                  replace H : (if 0 ≤ t103 then (comfitref08_read.j0 k a0 a1 a2 (bt a0 a1) ((Go.bits .and .i64 (shr .i64 a2 t103) 1) == 1)) else (none)) = some (r1, r2) := H
                  have A15 := Aside0.mk A150
                  clear A150
                  by_cases c16 : 0 ≤ t103
                  · rw [if_pos c16] at H
                    have c16b0 := eq_true c16
                    have c16b1 : decide (0 ≤ t103) = true := decide_eq_true c16
                    clear c16
                    obtain ⟨ji17, hji17⟩ : ∃ j_ : Int, (shr .i64 a2 t103) = j_ := ⟨_, rfl⟩
                    replace H : (comfitref08_read.j0 k a0 a1 a2 (bt a0 a1) ((Go.bits .and .i64 (ji17) 1) == 1)) = some (r1, r2) := by first | (rw [hji17] at H; exact H) | (simp only [hji17] at H ⊢; exact H)
                    (try rw [hji17] at A9)
                    (try rw [hji17] at A13)
                    (try rw [hji17] at A15)
                    have hji17_ : (a2 / 2 ^ min t103.toNat 64) = ji17 := hji17
                    have hji17z : t103 ≤ 64 → (a2 / 2 ^ t103.toNat) = ji17 := shr_small hji17
                    have H' := Aside0.mk H
                    clear H
                    have e_t103 : t103 = t102 := Option.some.inj (A15.out.symm.trans A13.out)
                    (try rw [e_t103] at c10b0)
                    (try rw [e_t103] at c11b0)
                    (try rw [e_t103] at c11b1)
                    (try rw [e_t103] at c12b0)
                    (try rw [e_t103] at c12b1)
                    (try rw [e_t103] at c14b0)
                    (try rw [e_t103] at c16b0)
                    (try rw [e_t103] at c16b1)
                    (try rw [e_t103] at hji17)
                    (try rw [e_t103] at hji17_)
                    (try rw [e_t103] at hji17z)
                    go_wp2_with (first | ((with_reducible refine gate_callee (f := 20) rfl ?_); refine goesL_ (some 24) rfl rfl Tryd.func20 (by kernel_rfl) rfl #[.int .u8 (bt a0 a1)] rfl (by (try simp only [List.map_toArray, List.map_cons, List.map_nil]); first | done | rfl | (simp only [List.length_drop, List.length_take]; rfl)) ?_; (with_reducible refine (Go.Proofs.YtjffhhalmicodaaDoor.PA.comfitref08_digit.calls (bt a0 a1) t101 _ A9.out).mono ?_); rintro e w' ⟨rfl, ⟨nd, rfl⟩⟩; refine ⟨_, rfl, ?_⟩) | (go_at_call 21; (with_reducible refine (Go.Proofs.YtjffhhalmicodaaDoor.PA.comfitref08_letter.calls (bt a0 a1) t102 _ A13.out).mono ?_); rintro e w' ⟨rfl, ⟨nd, rfl⟩⟩) | (go_at_call 21; (with_reducible refine (Go.Proofs.YtjffhhalmicodaaDoor.PA.comfitref08_letter.calls (bt a0 a1) t103 _ A15.out).mono ?_); rintro e w' ⟨rfl, ⟨nd, rfl⟩⟩))
                    go_meet
                    case rel => exact ⟨_, (((Go.bits .and .i64 (ji17) 1) == 1)), (by first | rfl | (simp; done) | (simp only [← hji17] <;> (first | rfl | simp)) | (simp [*]; done)), H', ⟨by first | omega | exact Nat.le_refl _⟩, ⟨by repeat (first | (with_reducible first | exact HB.out | apply below_alloc | apply pw_below_drewN | apply below_drew1) | exact HB.out)⟩⟩
                  · rw [if_neg c16] at H
                    exact absurd H (by simp)
                · rw [if_neg c14] at H
                  have c14b0 : decide (0 ≤ t102) = false := decide_eq_false c14
                  clear c14
                  have H' := Aside0.mk H
                  clear H
                  go_wp2_with (first | ((with_reducible refine gate_callee (f := 20) rfl ?_); refine goesL_ (some 24) rfl rfl Tryd.func20 (by kernel_rfl) rfl #[.int .u8 (bt a0 a1)] rfl (by (try simp only [List.map_toArray, List.map_cons, List.map_nil]); first | done | rfl | (simp only [List.length_drop, List.length_take]; rfl)) ?_; (with_reducible refine (Go.Proofs.YtjffhhalmicodaaDoor.PA.comfitref08_digit.calls (bt a0 a1) t101 _ A9.out).mono ?_); rintro e w' ⟨rfl, ⟨nd, rfl⟩⟩; refine ⟨_, rfl, ?_⟩) | (go_at_call 21; (with_reducible refine (Go.Proofs.YtjffhhalmicodaaDoor.PA.comfitref08_letter.calls (bt a0 a1) t102 _ A13.out).mono ?_); rintro e w' ⟨rfl, ⟨nd, rfl⟩⟩))
                  go_meet
                  case rel => exact ⟨_, (false), (by first | rfl | (simp; done) | (simp [*]; done)), H', ⟨by first | omega | exact Nat.le_refl _⟩, ⟨by repeat (first | (with_reducible first | exact HB.out | apply below_alloc | apply pw_below_drewN | apply below_drew1) | exact HB.out)⟩⟩
        case rest =>
          clear HC8
          try clear c1
          try clear p2
          try clear c4
          try clear c4b0
          try clear c5
          try clear c5b0
          try clear c6
          try clear c6b0
          try clear p7
          try clear q7
          try clear hx7
          try clear c10
          try clear c10b0
          try clear c11
          try clear c11b0
          try clear c11b1
          try clear c12
          try clear c12b0
          try clear c12b1
          try clear c14
          try clear c14b0
          try clear c16
          try clear c16b0
          try clear c16b1
          try clear p7
          try clear q7
          obtain ⟨kq, x22_7, rfl, HA, HJ7, HB⟩ := hcut
          cases kq with
          | zero => exact absurd HA.out (by simp [comfitref08_read.j0])
          | succ kj7 =>
            have H := HA.out
            clear HA
            simp only [comfitref08_read.j0] at H
            by_cases c18 : x22_7 = true
            · subst c18
              have H1 : (some (wrap64 (a1 + 1), 0)) = some (r1, r2) := by rw [if_pos rfl] at H; exact H
              clear H
              have H := H1
              clear H1
              simp only [Option.some.injEq, Prod.mk.injEq] at H
              obtain ⟨rfl, rfl⟩ := H
              go_wp2
              go_ret2
              exact ⟨by first | rfl | (simp [errW_none, errW_some] <;> rfl) | (simp [*, errW_none, errW_some] <;> rfl), by repeat (first | (with_reducible first | exact HB.out | apply below_alloc | apply pw_below_drewN | apply below_drew1) | exact HB.out)⟩
            · replace c18 := Bool.eq_false_iff.mpr c18
              subst c18
              have H1 : (if (bt a0 a1) = 45 then (if (wrap64 (a1 + 1)) < (a0.size : Int) then (if 0 ≤ (wrap64 (a1 + 1)) then ((Go.Proofs.YtjffhhalmicodaaDoor.PA.comfitref08_digit.f (bt a0 (wrap64 (a1 + 1)))).bind fun t104 => (comfitref08_read.j1 kj7 a0 a1 a2 (bt a0 a1) (decide (t104 ≥ 0)))) else (none)) else (comfitref08_read.j1 kj7 a0 a1 a2 (bt a0 a1) false)) else (comfitref08_read.j1 kj7 a0 a1 a2 (bt a0 a1) false)) = some (r1, r2) := by rw [if_neg (show ¬ (false = true) by decide)] at H; exact H
              clear H
              have H := H1
              clear H1
              have HC19 := Aside0.mk H
              clear H
              go_upto_region 6 with (fail)
              go_cut [49] (fun v49 wc => ∃ (kq : Nat) (x49_18 : Bool), v49 = .bool x49_18 ∧ Aside0 (comfitref08_read.j1 kq a0 a1 a2 (bt a0 a1) x49_18 = some (r1, r2)) ∧ Aside0 (kq ≤ kj7) ∧ Aside0 (Below w.heap.size w wc))
              case first =>
                have H := HC19.out
                clear HC19
                by_cases c20 : (bt a0 a1) = 45
                · rw [if_pos c20] at H
                  have c20b0 : ((bt a0 a1) == 45) = true := beq_iff_eq.mpr c20
                  have c20b1 : ((bt a0 a1) != 45) = false := bne_eq_false_iff_eq.mpr c20
                  clear c20
                  (first | rw [c20b0] | (simp only [i64_w, i32_w]; rw [c20b0]) | skip)
                  by_cases c21 : (wrap64 (a1 + 1)) < (a0.size : Int)
                  · rw [if_pos c21] at H
                    have c21b0 : decide ((wrap64 (a1 + 1)) < (a0.size : Int)) = true := decide_eq_true c21
                    clear c21
                    obtain ⟨ji22, hji22⟩ : ∃ j_ : Int, (wrap64 (a1 + 1)) = j_ := ⟨_, rfl⟩
                    replace H : (if 0 ≤ (ji22) then ((Go.Proofs.YtjffhhalmicodaaDoor.PA.comfitref08_digit.f (bt a0 (ji22))).bind fun t104 => (comfitref08_read.j1 kj7 a0 a1 a2 (bt a0 a1) (decide (t104 ≥ 0)))) else (none)) = some (r1, r2) := by first | (rw [hji22] at H; exact H) | (simp only [hji22] at H ⊢; exact H)
                    (try rw [hji22] at c21b0)
                    have hji22w : (IntKind.i64.wrap (a1 + 1)) = ji22 := (i64_w _).trans hji22
                    by_cases c23 : 0 ≤ (ji22)
                    · rw [if_pos c23] at H
                      have c23b0 : decide (0 ≤ (ji22)) = true := decide_eq_true c23
                      clear c23
                      replace H := Option.bind_eq_some_iff.mp H
                      obtain ⟨t104, A250, H⟩ := H
                      replace H : (comfitref08_read.j1 kj7 a0 a1 a2 (bt a0 a1) (decide (t104 ≥ 0))) = some (r1, r2) := H
                      have A25 := Aside0.mk A250
                      clear A250
                      have H' := Aside0.mk H
                      clear H
                      have p24 : 0 ≤ ((ji22) : Int) := of_decide_eq_true (by first | (with_reducible assumption) | assumption)
                      have q24 : (ji22) < (a0.size : Int) := of_decide_eq_true (by first | (with_reducible assumption) | assumption)
                      have hx24 := bt_at a0 (ji22)
                      replace p24 := eq_true p24
                      replace q24 := eq_true q24
                      go_wp2_with (first | (go_at_call 20; (with_reducible refine (Go.Proofs.YtjffhhalmicodaaDoor.PA.comfitref08_digit.calls (bt a0 (ji22)) t104 _ A25.out).mono ?_); rintro e w' ⟨rfl, ⟨nd, rfl⟩⟩))
                      go_meet
                      case rel => exact ⟨_, (decide (t104 ≥ 0)), (by first | rfl | (simp; done) | (simp [*]; done)), H', ⟨by have := HJ7.out; first | omega | exact Nat.le_refl _⟩, ⟨by repeat (first | (with_reducible first | exact HB.out | apply below_alloc | apply pw_below_drewN | apply below_drew1) | exact HB.out)⟩⟩
                    · rw [if_neg c23] at H
                      exact absurd H (by simp)
                  · rw [if_neg c21] at H
                    have c21b0 : decide ((wrap64 (a1 + 1)) < (a0.size : Int)) = false := decide_eq_false c21
                    clear c21
                    have H' := Aside0.mk H
                    clear H
                    go_wp2
                    go_meet
                    case rel => exact ⟨_, (false), (by first | rfl | (simp; done) | (simp [*]; done)), H', ⟨by have := HJ7.out; first | omega | exact Nat.le_refl _⟩, ⟨by repeat (first | (with_reducible first | exact HB.out | apply below_alloc | apply pw_below_drewN | apply below_drew1) | exact HB.out)⟩⟩
                · rw [if_neg c20] at H
                  have c20b0 : ((bt a0 a1) == 45) = false := beq_eq_false_iff_ne.mpr c20
                  have c20b1 : ((bt a0 a1) != 45) = true := bne_iff_ne.mpr c20
                  (first | rw [c20b0] | (simp only [i64_w, i32_w]; rw [c20b0]) | skip)
                  have H' := Aside0.mk H
                  clear H
                  go_wp2
                  go_meet
                  case rel => exact ⟨_, (false), (by first | rfl | (simp; done) | (simp [*]; done)), H', ⟨by have := HJ7.out; first | omega | exact Nat.le_refl _⟩, ⟨by repeat (first | (with_reducible first | exact HB.out | apply below_alloc | apply pw_below_drewN | apply below_drew1) | exact HB.out)⟩⟩
              case rest =>
                clear HC19
                try clear c1
                try clear c2
                try clear p2
                try clear q2
                try clear hx2
                try clear c4
                try clear c4b0
                try clear c5
                try clear c5b0
                try clear c6
                try clear c6b0
                try clear p6
                try clear p7
                try clear q7
                try clear hx7
                try clear c10
                try clear c10b0
                try clear c11
                try clear c11b0
                try clear c11b1
                try clear c12
                try clear c12b0
                try clear c12b1
                try clear c14
                try clear c14b0
                try clear c16
                try clear c16b0
                try clear c16b1
                try clear c18
                try clear c20
                try clear c20b0
                try clear c20b1
                try clear c21
                try clear c21b0
                try clear c23
                try clear c23b0
                try clear p24
                try clear q24
                try clear hx24
                try clear p2
                try clear p24
                try clear p7
                try clear q24
                try clear q7
                obtain ⟨kq, x49_18, rfl, HA, HJ18, HB⟩ := hcut
                cases kq with
                | zero => exact absurd HA.out (by simp [comfitref08_read.j1])
                | succ kj18 =>
                  have H := HA.out
                  clear HA
                  simp only [comfitref08_read.j1] at H
                  by_cases c26 : x49_18 = true
                  · subst c26
                    have H1 : (some (wrap64 (a1 + 2), 0)) = some (r1, r2) := by rw [if_pos rfl] at H; exact H
                    clear H
                    have H := H1
                    clear H1
                    simp only [Option.some.injEq, Prod.mk.injEq] at H
                    obtain ⟨rfl, rfl⟩ := H
                    go_wp2
                    go_ret2
                    exact ⟨by first | rfl | (simp [errW_none, errW_some] <;> rfl) | (simp [*, errW_none, errW_some] <;> rfl), by repeat (first | (with_reducible first | exact HB.out | apply below_alloc | apply pw_below_drewN | apply below_drew1) | exact HB.out)⟩
                  · replace c26 := Bool.eq_false_iff.mpr c26
                    subst c26
                    have H1 : (if (bt a0 a1) = 38 then (comfitref08_read.j2 kj18 a0 a1 a2 (bt a0 a1) true) else (comfitref08_read.j2 kj18 a0 a1 a2 (bt a0 a1) ((bt a0 a1) == 124))) = some (r1, r2) := by rw [if_neg (show ¬ (false = true) by decide)] at H; exact H
                    clear H
                    have H := H1
                    clear H1
                    have HC27 := Aside0.mk H
                    clear H
                    go_upto_region 8 with (fail)
                    go_cut [69] (fun v69 wc => ∃ (kq : Nat) (x69_26 : Bool), v69 = .bool x69_26 ∧ Aside0 (comfitref08_read.j2 kq a0 a1 a2 (bt a0 a1) x69_26 = some (r1, r2)) ∧ Aside0 (kq ≤ kj18) ∧ Aside0 (Below w.heap.size w wc))
                    case first =>
                      have H := HC27.out
                      clear HC27
                      by_cases c28 : (bt a0 a1) = 38
                      · rw [if_pos c28] at H
                        have c28b0 : ((bt a0 a1) == 38) = true := beq_iff_eq.mpr c28
                        have c28b1 : ((bt a0 a1) != 38) = false := bne_eq_false_iff_eq.mpr c28
                        clear c28
                        (first | rw [c28b0] | (simp only [i64_w, i32_w]; rw [c28b0]) | skip)
                        have H' := Aside0.mk H
                        clear H
                        go_wp2
                        go_meet
                        case rel => exact ⟨_, (true), (by first | rfl | (simp; done) | (simp [*]; done)), H', ⟨by have := HJ7.out; have := HJ18.out; first | omega | exact Nat.le_refl _⟩, ⟨by repeat (first | (with_reducible first | exact HB.out | apply below_alloc | apply pw_below_drewN | apply below_drew1) | exact HB.out)⟩⟩
                      · rw [if_neg c28] at H
                        have c28b0 : ((bt a0 a1) == 38) = false := beq_eq_false_iff_ne.mpr c28
                        have c28b1 : ((bt a0 a1) != 38) = true := bne_iff_ne.mpr c28
                        (first | rw [c28b0] | (simp only [i64_w, i32_w]; rw [c28b0]) | skip)
                        have H' := Aside0.mk H
                        clear H
                        go_wp2
                        go_meet
                        case rel => exact ⟨_, (((bt a0 a1) == 124)), (by first | rfl | (simp; done) | (simp [*]; done)), H', ⟨by have := HJ7.out; have := HJ18.out; first | omega | exact Nat.le_refl _⟩, ⟨by repeat (first | (with_reducible first | exact HB.out | apply below_alloc | apply pw_below_drewN | apply below_drew1) | exact HB.out)⟩⟩
                    case rest =>
                      clear HC27
                      try clear c1
                      try clear c2
                      try clear p2
                      try clear q2
                      try clear hx2
                      try clear c4
                      try clear c4b0
                      try clear c5
                      try clear c5b0
                      try clear c6
                      try clear c6b0
                      try clear p6
                      try clear p7
                      try clear q7
                      try clear hx7
                      try clear c10
                      try clear c10b0
                      try clear c11
                      try clear c11b0
                      try clear c11b1
                      try clear c12
                      try clear c12b0
                      try clear c12b1
                      try clear c14
                      try clear c14b0
                      try clear c16
                      try clear c16b0
                      try clear c16b1
                      try clear c18
                      try clear c20
                      try clear c20b0
                      try clear c20b1
                      try clear c21
                      try clear c21b0
                      try clear c23
                      try clear c23b0
                      try clear p24
                      try clear q24
                      try clear hx24
                      try clear c26
                      try clear c28
                      try clear c28b0
                      try clear c28b1
                      try clear p2
                      try clear p24
                      try clear p6
                      try clear p7
                      try clear q2
                      try clear q24
                      try clear q7
                      obtain ⟨kq, x69_26, rfl, HA, HJ26, HB⟩ := hcut
                      cases kq with
                      | zero => exact absurd HA.out (by simp [comfitref08_read.j2])
                      | succ kj26 =>
                        have H := HA.out
                        clear HA
                        simp only [comfitref08_read.j2] at H
                        by_cases c29 : x69_26 = true
                        · subst c29
                          have H1 : ((comfitref08_read.f kj26 a0 (wrap64 (a1 + 1)) a2).bind fun bt105 => (if bt105.1 < 0 then (some ((-1), 0)) else ((comfitref08_read.f kj26 a0 bt105.1 a2).bind fun bt107 => (some (bt107.1, mx bt105.2 bt107.2))))) = some (r1, r2) := by rw [if_pos rfl] at H; exact H
                          clear H
                          have H := H1
                          clear H1
                          replace H := Option.bind_eq_some_iff.mp H
                          obtain ⟨⟨t105, t106⟩, A300, H⟩ := H
                          replace H : (if t105 < 0 then (some ((-1), 0)) else ((comfitref08_read.f kj26 a0 t105 a2).bind fun bt107 => (some (bt107.1, mx t106 bt107.2)))) = some (r1, r2) := H
                          have A30 := Aside0.mk A300
                          clear A300
                          by_cases c31 : t105 < 0
                          · rw [if_pos c31] at H
                            have c31b0 : decide (t105 < 0) = true := decide_eq_true c31
                            clear c31
                            simp only [Option.some.injEq, Prod.mk.injEq] at H
                            obtain ⟨rfl, rfl⟩ := H
                            go_wp2_with (first | ((with_reducible refine gate_callee (f := 14) rfl ?_); refine goesL_ (some 81) rfl rfl Tryd.func14 (by kernel_rfl) rfl #[.string a0, .int .i64 (wrap64 (a1 + 1)), .int .i64 a2] rfl (by (try simp only [List.map_toArray, List.map_cons, List.map_nil]); first | done | rfl | (simp only [List.length_drop, List.length_take]; rfl)) ?_; (with_reducible refine (ih kj26 (by have := HJ7.out; have := HJ18.out; have := HJ26.out; omega) a0 (wrap64 (a1 + 1)) a2 t105 t106 _ A30.out).mono ?_); rintro e w32 ⟨rfl, hb⟩; refine ⟨_, rfl, ?_⟩; have n0_ := Aside0.mk (below_step (by repeat (first | (with_reducible first | exact HB.out | apply below_alloc | apply pw_below_drewN | apply below_drew1) | exact HB.out)) hb); clear HB; have HB := n0_; clear n0_; (try clear hb); (try clear hb2); (try clear hk); (try clear hi)))
                            go_ret2
                            exact ⟨by first | rfl | (simp [errW_none, errW_some] <;> rfl) | (simp [*, errW_none, errW_some] <;> rfl), by repeat (first | (with_reducible first | exact HB.out | apply below_alloc | apply pw_below_drewN | apply below_drew1) | exact HB.out)⟩
                          · rw [if_neg c31] at H
                            have c31b0 : decide (t105 < 0) = false := decide_eq_false c31
                            clear c31
                            replace H := Option.bind_eq_some_iff.mp H
                            obtain ⟨⟨t107, t108⟩, A330, H⟩ := H
                            replace H : (some (t107, mx t106 t108)) = some (r1, r2) := H
                            have A33 := Aside0.mk A330
                            clear A330
                            obtain ⟨ji34, hji34⟩ : ∃ j_ : Int, (mx t106 t108) = j_ := ⟨_, rfl⟩
                            replace H : (some (t107, ji34)) = some (r1, r2) := by first | (rw [hji34] at H; exact H) | (simp only [hji34] at H ⊢; exact H)
                            (try rw [hji34] at A30)
                            (try rw [hji34] at A33)
                            have hji34_ : (if t106 < t108 then t108 else t106) = ji34 := hji34
                            simp only [Option.some.injEq, Prod.mk.injEq] at H
                            obtain ⟨rfl, rfl⟩ := H
                            go_wp2_with (first | ((with_reducible refine gate_callee (f := 14) rfl ?_); refine goesL_ (some 81) rfl rfl Tryd.func14 (by kernel_rfl) rfl #[.string a0, .int .i64 (wrap64 (a1 + 1)), .int .i64 a2] rfl (by (try simp only [List.map_toArray, List.map_cons, List.map_nil]); first | done | rfl | (simp only [List.length_drop, List.length_take]; rfl)) ?_; (with_reducible refine (ih kj26 (by have := HJ7.out; have := HJ18.out; have := HJ26.out; omega) a0 (wrap64 (a1 + 1)) a2 t105 t106 _ A30.out).mono ?_); rintro e w35 ⟨rfl, hb⟩; refine ⟨_, rfl, ?_⟩; have n0_ := Aside0.mk (below_step (by repeat (first | (with_reducible first | exact HB.out | apply below_alloc | apply pw_below_drewN | apply below_drew1) | exact HB.out)) hb); clear HB; have HB := n0_; clear n0_; (try clear hb); (try clear hb2); (try clear hk); (try clear hi)) | ((with_reducible refine gate_callee (f := 14) rfl ?_); refine goesL_ (some 90) rfl rfl Tryd.func14 (by kernel_rfl) rfl #[.string a0, .int .i64 t105, .int .i64 a2] rfl (by (try simp only [List.map_toArray, List.map_cons, List.map_nil]); first | done | rfl | (simp only [List.length_drop, List.length_take]; rfl)) ?_; (with_reducible refine (ih kj26 (by have := HJ7.out; have := HJ18.out; have := HJ26.out; omega) a0 t105 a2 t107 t108 _ A33.out).mono ?_); rintro e w36 ⟨rfl, hb⟩; refine ⟨_, rfl, ?_⟩; have n0_ := Aside0.mk (below_step (by repeat (first | (with_reducible first | exact HB.out | apply below_alloc | apply pw_below_drewN | apply below_drew1) | exact HB.out)) hb); clear HB; have HB := n0_; clear n0_; (try clear hb); (try clear hb2); (try clear hk); (try clear hi)))
                            go_ret2
                            exact ⟨by first | rfl | (simp [errW_none, errW_some] <;> rfl) | (simp only [← hji34]; first | rfl | (simp [errW_none, errW_some] <;> rfl)) | (simp [*, errW_none, errW_some] <;> rfl), by repeat (first | (with_reducible first | exact HB.out | apply below_alloc | apply pw_below_drewN | apply below_drew1) | exact HB.out)⟩
                        · replace c29 := Bool.eq_false_iff.mpr c29
                          subst c29
                          have H1 : (if (bt a0 a1) = 60 then (comfitref08_read.j3 kj26 a0 a1 a2 (bt a0 a1) true) else (comfitref08_read.j3 kj26 a0 a1 a2 (bt a0 a1) ((bt a0 a1) == 91))) = some (r1, r2) := by rw [if_neg (show ¬ (false = true) by decide)] at H; exact H
                          clear H
                          have H := H1
                          clear H1
                          have HC37 := Aside0.mk H
                          clear H
                          go_upto_region 14 with (fail)
                          go_cut [97] (fun v97 wc => ∃ (kq : Nat) (x97_36 : Bool), v97 = .bool x97_36 ∧ Aside0 (comfitref08_read.j3 kq a0 a1 a2 (bt a0 a1) x97_36 = some (r1, r2)) ∧ Aside0 (kq ≤ kj26) ∧ Aside0 (Below w.heap.size w wc))
                          case first =>
                            have H := HC37.out
                            clear HC37
                            by_cases c38 : (bt a0 a1) = 60
                            · rw [if_pos c38] at H
                              have c38b0 : ((bt a0 a1) == 60) = true := beq_iff_eq.mpr c38
                              have c38b1 : ((bt a0 a1) != 60) = false := bne_eq_false_iff_eq.mpr c38
                              clear c38
                              (first | rw [c38b0] | (simp only [i64_w, i32_w]; rw [c38b0]) | skip)
                              have H' := Aside0.mk H
                              clear H
                              go_wp2
                              go_meet
                              case rel => exact ⟨_, (true), (by first | rfl | (simp; done) | (simp [*]; done)), H', ⟨by have := HJ7.out; have := HJ18.out; have := HJ26.out; first | omega | exact Nat.le_refl _⟩, ⟨by repeat (first | (with_reducible first | exact HB.out | apply below_alloc | apply pw_below_drewN | apply below_drew1) | exact HB.out)⟩⟩
                            · rw [if_neg c38] at H
                              have c38b0 : ((bt a0 a1) == 60) = false := beq_eq_false_iff_ne.mpr c38
                              have c38b1 : ((bt a0 a1) != 60) = true := bne_iff_ne.mpr c38
                              (first | rw [c38b0] | (simp only [i64_w, i32_w]; rw [c38b0]) | skip)
                              have H' := Aside0.mk H
                              clear H
                              go_wp2
                              go_meet
                              case rel => exact ⟨_, (((bt a0 a1) == 91)), (by first | rfl | (simp; done) | (simp [*]; done)), H', ⟨by have := HJ7.out; have := HJ18.out; have := HJ26.out; first | omega | exact Nat.le_refl _⟩, ⟨by repeat (first | (with_reducible first | exact HB.out | apply below_alloc | apply pw_below_drewN | apply below_drew1) | exact HB.out)⟩⟩
                          case rest =>
                            clear HC37
                            try clear c1
                            try clear c2
                            try clear p2
                            try clear q2
                            try clear hx2
                            try clear c3
                            try clear c4
                            try clear c4b0
                            try clear c5
                            try clear c5b0
                            try clear c6
                            try clear c6b0
                            try clear p6
                            try clear p7
                            try clear q7
                            try clear hx7
                            try clear c10
                            try clear c10b0
                            try clear c11
                            try clear c11b0
                            try clear c11b1
                            try clear c12
                            try clear c12b0
                            try clear c12b1
                            try clear c14
                            try clear c14b0
                            try clear c16
                            try clear c16b0
                            try clear c16b1
                            try clear c18
                            try clear c20
                            try clear c20b0
                            try clear c20b1
                            try clear c21
                            try clear c21b0
                            try clear c23
                            try clear c23b0
                            try clear p24
                            try clear q24
                            try clear hx24
                            try clear c26
                            try clear c28
                            try clear c28b0
                            try clear c28b1
                            try clear c29
                            try clear c31
                            try clear c31b0
                            try clear c38
                            try clear c38b0
                            try clear c38b1
                            try clear p2
                            try clear p24
                            try clear p6
                            try clear p7
                            try clear q2
                            try clear q24
                            try clear q7
                            obtain ⟨kq, x97_36, rfl, HA, HJ36, HB⟩ := hcut
                            cases kq with
                            | zero => exact absurd HA.out (by simp [comfitref08_read.j3])
                            | succ kj36 =>
                              have H := HA.out
                              clear HA
                              simp only [comfitref08_read.j3] at H
                              by_cases c39 : x97_36 = true
                              · subst c39
                                have H1 : ((comfitref08_read.f kj36 a0 (wrap64 (a1 + 1)) a2).bind fun bt109 => (some (bt109.1, wrap64 (bt109.2 + 1)))) = some (r1, r2) := by rw [if_pos rfl] at H; exact H
                                clear H
                                have H := H1
                                clear H1
                                replace H := Option.bind_eq_some_iff.mp H
                                obtain ⟨⟨t109, t110⟩, A400, H⟩ := H
                                replace H : (some (t109, wrap64 (t110 + 1))) = some (r1, r2) := H
                                have A40 := Aside0.mk A400
                                clear A400
                                simp only [Option.some.injEq, Prod.mk.injEq] at H
                                obtain ⟨rfl, rfl⟩ := H
                                go_wp2_with (first | ((with_reducible refine gate_callee (f := 14) rfl ?_); refine goesL_ (some 109) rfl rfl Tryd.func14 (by kernel_rfl) rfl #[.string a0, .int .i64 (wrap64 (a1 + 1)), .int .i64 a2] rfl (by (try simp only [List.map_toArray, List.map_cons, List.map_nil]); first | done | rfl | (simp only [List.length_drop, List.length_take]; rfl)) ?_; (with_reducible refine (ih kj36 (by have := HJ7.out; have := HJ18.out; have := HJ26.out; have := HJ36.out; omega) a0 (wrap64 (a1 + 1)) a2 t109 t110 _ A40.out).mono ?_); rintro e w41 ⟨rfl, hb⟩; refine ⟨_, rfl, ?_⟩; have n0_ := Aside0.mk (below_step (by repeat (first | (with_reducible first | exact HB.out | apply below_alloc | apply pw_below_drewN | apply below_drew1) | exact HB.out)) hb); clear HB; have HB := n0_; clear n0_; (try clear hb); (try clear hb2); (try clear hk); (try clear hi)))
                                go_ret2
                                exact ⟨by first | rfl | (simp [errW_none, errW_some] <;> rfl) | (simp [*, errW_none, errW_some] <;> rfl), by repeat (first | (with_reducible first | exact HB.out | apply below_alloc | apply pw_below_drewN | apply below_drew1) | exact HB.out)⟩
                              · replace c39 := Bool.eq_false_iff.mpr c39
                                subst c39
                                have H1 : (if (bt a0 a1) = 109 then (if (wrap64 (a1 + 1)) < (a0.size : Int) then (if 0 ≤ (wrap64 (a1 + 1)) then ((Go.Proofs.YtjffhhalmicodaaDoor.PA.comfitref08_letter.f (bt a0 (wrap64 (a1 + 1)))).bind fun t111 => (if t111 ≥ 0 then ((Go.Proofs.YtjffhhalmicodaaDoor.PA.comfitref08_letter.f (bt a0 (wrap64 (a1 + 1)))).bind fun t112 => (if 0 ≤ t112 then (comfitref08_read.j4 kj36 a0 a1 a2 ((Go.bits .and .i64 (shr .i64 a2 t112) 1) == 0)) else (none))) else (comfitref08_read.j4 kj36 a0 a1 a2 false))) else (none)) else (comfitref08_read.j4 kj36 a0 a1 a2 false)) else (if (bt a0 a1) = 103 then (if (wrap64 (a1 + 1)) < (a0.size : Int) then (if 0 ≤ (wrap64 (a1 + 1)) then ((Go.Proofs.YtjffhhalmicodaaDoor.PA.comfitref08_letter.f (bt a0 (wrap64 (a1 + 1)))).bind fun t113 => (if t113 ≥ 0 then ((Go.Proofs.YtjffhhalmicodaaDoor.PA.comfitref08_letter.f (bt a0 (wrap64 (a1 + 1)))).bind fun t114 => (if 0 ≤ t114 then (comfitref08_read.j4 kj36 a0 a1 a2 ((Go.bits .and .i64 (shr .i64 a2 t114) 1) == 0)) else (none))) else (comfitref08_read.j4 kj36 a0 a1 a2 false))) else (none)) else (comfitref08_read.j4 kj36 a0 a1 a2 false)) else (comfitref08_read.j4 kj36 a0 a1 a2 false))) = some (r1, r2) := by rw [if_neg (show ¬ (false = true) by decide)] at H; exact H
                                clear H
                                have H := H1
                                clear H1
                                have HC42 := Aside0.mk H
                                clear H
                                go_upto_region 17 with (fail)
                                go_cut [115] (fun v115 wc => ∃ (kq : Nat) (x115_41 : Bool), v115 = .bool x115_41 ∧ Aside0 (comfitref08_read.j4 kq a0 a1 a2 x115_41 = some (r1, r2)) ∧ Aside0 (kq ≤ kj36) ∧ Aside0 (Below w.heap.size w wc))
                                case first =>
                                  have H := HC42.out
                                  clear HC42
                                  by_cases c43 : (bt a0 a1) = 109
                                  · rw [if_pos c43] at H
                                    have c43b0 : ((bt a0 a1) == 109) = true := beq_iff_eq.mpr c43
                                    have c43b1 : ((bt a0 a1) != 109) = false := bne_eq_false_iff_eq.mpr c43
                                    clear c43
                                    (first | rw [c43b0] | (simp only [i64_w, i32_w]; rw [c43b0]) | skip)
                                    by_cases c44 : (wrap64 (a1 + 1)) < (a0.size : Int)
                                    · rw [if_pos c44] at H
                                      have c44b0 : decide ((wrap64 (a1 + 1)) < (a0.size : Int)) = true := decide_eq_true c44
                                      clear c44
                                      obtain ⟨ji45, hji45⟩ : ∃ j_ : Int, (wrap64 (a1 + 1)) = j_ := ⟨_, rfl⟩
                                      replace H : (if 0 ≤ (ji45) then ((Go.Proofs.YtjffhhalmicodaaDoor.PA.comfitref08_letter.f (bt a0 (ji45))).bind fun t111 => (if t111 ≥ 0 then ((Go.Proofs.YtjffhhalmicodaaDoor.PA.comfitref08_letter.f (bt a0 (ji45))).bind fun t112 => (if 0 ≤ t112 then (comfitref08_read.j4 kj36 a0 a1 a2 ((Go.bits .and .i64 (shr .i64 a2 t112) 1) == 0)) else (none))) else (comfitref08_read.j4 kj36 a0 a1 a2 false))) else (none)) = some (r1, r2) := by first | (rw [hji45] at H; exact H) | (simp only [hji45] at H ⊢; exact H)
                                      (try rw [hji45] at c44b0)
                                      have hji45w : (IntKind.i64.wrap (a1 + 1)) = ji45 := (i64_w _).trans hji45
                                      by_cases c46 : 0 ≤ (ji45)
                                      · rw [if_pos c46] at H
                                        have c46b0 : decide (0 ≤ (ji45)) = true := decide_eq_true c46
                                        clear c46
                                        replace H := Option.bind_eq_some_iff.mp H
                                        obtain ⟨t111, A480, H⟩ := H
                                        replace H : (if t111 ≥ 0 then ((Go.Proofs.YtjffhhalmicodaaDoor.PA.comfitref08_letter.f (bt a0 (ji45))).bind fun t112 => (if 0 ≤ t112 then (comfitref08_read.j4 kj36 a0 a1 a2 ((Go.bits .and .i64 (shr .i64 a2 t112) 1) == 0)) else (none))) else (comfitref08_read.j4 kj36 a0 a1 a2 false)) = some (r1, r2) := H
                                        have A48 := Aside0.mk A480
                                        clear A480
                                        by_cases c49 : t111 ≥ 0
                                        · rw [if_pos c49] at H
                                          have c49b0 : decide (0 ≤ t111) = true := decide_eq_true c49
                                          clear c49
                                          replace H := Option.bind_eq_some_iff.mp H
                                          obtain ⟨t112, A510, H⟩ := H
                                          replace H : (if 0 ≤ t112 then (comfitref08_read.j4 kj36 a0 a1 a2 ((Go.bits .and .i64 (shr .i64 a2 t112) 1) == 0)) else (none)) = some (r1, r2) := H
                                          have A51 := Aside0.mk A510
                                          clear A510
                                          by_cases c52 : 0 ≤ t112
                                          · rw [if_pos c52] at H
                                            have c52b0 := eq_true c52
                                            have c52b1 : decide (0 ≤ t112) = true := decide_eq_true c52
                                            clear c52
                                            obtain ⟨ji53, hji53⟩ : ∃ j_ : Int, (shr .i64 a2 t112) = j_ := ⟨_, rfl⟩
                                            replace H : (comfitref08_read.j4 kj36 a0 a1 a2 ((Go.bits .and .i64 (ji53) 1) == 0)) = some (r1, r2) := by first | (rw [hji53] at H; exact H) | (simp only [hji53] at H ⊢; exact H)
                                            (try rw [hji53] at A48)
                                            (try rw [hji53] at A51)
                                            have hji53_ : (a2 / 2 ^ min t112.toNat 64) = ji53 := hji53
                                            have hji53z : t112 ≤ 64 → (a2 / 2 ^ t112.toNat) = ji53 := shr_small hji53
                                            have H' := Aside0.mk H
                                            clear H
                                            have p47 : 0 ≤ ((ji45) : Int) := of_decide_eq_true (by first | (with_reducible assumption) | assumption)
                                            have q47 : (ji45) < (a0.size : Int) := of_decide_eq_true (by first | (with_reducible assumption) | assumption)
                                            have hx47 := bt_at a0 (ji45)
                                            replace p47 := eq_true p47
                                            replace q47 := eq_true q47
                                            have e_t112 : t112 = t111 := Option.some.inj (A51.out.symm.trans A48.out)
                                            (try rw [e_t112] at c43b0)
                                            (try rw [e_t112] at c43b1)
                                            (try rw [e_t112] at c44b0)
                                            (try rw [e_t112] at hji45)
                                            (try rw [e_t112] at hji45w)
                                            (try rw [e_t112] at c46b0)
                                            (try rw [e_t112] at c49b0)
                                            (try rw [e_t112] at c52b0)
                                            (try rw [e_t112] at c52b1)
                                            (try rw [e_t112] at hji53)
                                            (try rw [e_t112] at hji53_)
                                            (try rw [e_t112] at hji53z)
                                            go_wp2_with (first | (go_at_call 21; (with_reducible refine (Go.Proofs.YtjffhhalmicodaaDoor.PA.comfitref08_letter.calls (bt a0 (ji45)) t111 _ A48.out).mono ?_); rintro e w' ⟨rfl, ⟨nd, rfl⟩⟩; have p50 : 0 ≤ ((ji45) : Int) := of_decide_eq_true (by first | (with_reducible assumption) | assumption); have q50 : (ji45) < (a0.size : Int) := of_decide_eq_true (by first | (with_reducible assumption) | assumption); have hx50 := bt_at a0 (ji45); replace p50 := eq_true p50; replace q50 := eq_true q50) | (go_at_call 21; (with_reducible refine (Go.Proofs.YtjffhhalmicodaaDoor.PA.comfitref08_letter.calls (bt a0 (ji45)) t112 _ A51.out).mono ?_); rintro e w' ⟨rfl, ⟨nd, rfl⟩⟩))
                                            go_meet
                                            case rel => exact ⟨_, (((Go.bits .and .i64 (ji53) 1) == 0)), (by first | rfl | (simp; done) | (simp only [← hji53] <;> (first | rfl | simp)) | (simp [*]; done)), H', ⟨by have := HJ7.out; have := HJ18.out; have := HJ26.out; have := HJ36.out; first | omega | exact Nat.le_refl _⟩, ⟨by repeat (first | (with_reducible first | exact HB.out | apply below_alloc | apply pw_below_drewN | apply below_drew1) | exact HB.out)⟩⟩
                                          · rw [if_neg c52] at H
                                            exact absurd H (by simp)
                                        · rw [if_neg c49] at H
                                          have c49b0 : decide (0 ≤ t111) = false := decide_eq_false c49
                                          clear c49
                                          have H' := Aside0.mk H
                                          clear H
                                          have p47 : 0 ≤ ((ji45) : Int) := of_decide_eq_true (by first | (with_reducible assumption) | assumption)
                                          have q47 : (ji45) < (a0.size : Int) := of_decide_eq_true (by first | (with_reducible assumption) | assumption)
                                          have hx47 := bt_at a0 (ji45)
                                          replace p47 := eq_true p47
                                          replace q47 := eq_true q47
                                          go_wp2_with (first | (go_at_call 21; (with_reducible refine (Go.Proofs.YtjffhhalmicodaaDoor.PA.comfitref08_letter.calls (bt a0 (ji45)) t111 _ A48.out).mono ?_); rintro e w' ⟨rfl, ⟨nd, rfl⟩⟩))
                                          go_meet
                                          case rel => exact ⟨_, (false), (by first | rfl | (simp; done) | (simp [*]; done)), H', ⟨by have := HJ7.out; have := HJ18.out; have := HJ26.out; have := HJ36.out; first | omega | exact Nat.le_refl _⟩, ⟨by repeat (first | (with_reducible first | exact HB.out | apply below_alloc | apply pw_below_drewN | apply below_drew1) | exact HB.out)⟩⟩
                                      · rw [if_neg c46] at H
                                        exact absurd H (by simp)
                                    · rw [if_neg c44] at H
                                      have c44b0 : decide ((wrap64 (a1 + 1)) < (a0.size : Int)) = false := decide_eq_false c44
                                      clear c44
                                      have H' := Aside0.mk H
                                      clear H
                                      go_wp2
                                      go_meet
                                      case rel => exact ⟨_, (false), (by first | rfl | (simp; done) | (simp [*]; done)), H', ⟨by have := HJ7.out; have := HJ18.out; have := HJ26.out; have := HJ36.out; first | omega | exact Nat.le_refl _⟩, ⟨by repeat (first | (with_reducible first | exact HB.out | apply below_alloc | apply pw_below_drewN | apply below_drew1) | exact HB.out)⟩⟩
                                  · rw [if_neg c43] at H
                                    have c43b0 : ((bt a0 a1) == 109) = false := beq_eq_false_iff_ne.mpr c43
                                    have c43b1 : ((bt a0 a1) != 109) = true := bne_iff_ne.mpr c43
                                    (first | rw [c43b0] | (simp only [i64_w, i32_w]; rw [c43b0]) | skip)
                                    by_cases c54 : (bt a0 a1) = 103
                                    · rw [if_pos c54] at H
                                      have c54b0 : ((bt a0 a1) == 103) = true := beq_iff_eq.mpr c54
                                      have c54b1 : ((bt a0 a1) != 103) = false := bne_eq_false_iff_eq.mpr c54
                                      clear c54
                                      by_cases c55 : (wrap64 (a1 + 1)) < (a0.size : Int)
                                      · rw [if_pos c55] at H
                                        have c55b0 : decide ((wrap64 (a1 + 1)) < (a0.size : Int)) = true := decide_eq_true c55
                                        clear c55
                                        obtain ⟨ji56, hji56⟩ : ∃ j_ : Int, (wrap64 (a1 + 1)) = j_ := ⟨_, rfl⟩
                                        replace H : (if 0 ≤ (ji56) then ((Go.Proofs.YtjffhhalmicodaaDoor.PA.comfitref08_letter.f (bt a0 (ji56))).bind fun t113 => (if t113 ≥ 0 then ((Go.Proofs.YtjffhhalmicodaaDoor.PA.comfitref08_letter.f (bt a0 (ji56))).bind fun t114 => (if 0 ≤ t114 then (comfitref08_read.j4 kj36 a0 a1 a2 ((Go.bits .and .i64 (shr .i64 a2 t114) 1) == 0)) else (none))) else (comfitref08_read.j4 kj36 a0 a1 a2 false))) else (none)) = some (r1, r2) := by first | (rw [hji56] at H; exact H) | (simp only [hji56] at H ⊢; exact H)
                                        (try rw [hji56] at c55b0)
                                        have hji56w : (IntKind.i64.wrap (a1 + 1)) = ji56 := (i64_w _).trans hji56
                                        by_cases c57 : 0 ≤ (ji56)
                                        · rw [if_pos c57] at H
                                          have c57b0 : decide (0 ≤ (ji56)) = true := decide_eq_true c57
                                          clear c57
                                          replace H := Option.bind_eq_some_iff.mp H
                                          obtain ⟨t113, A590, H⟩ := H
                                          replace H : (if t113 ≥ 0 then ((Go.Proofs.YtjffhhalmicodaaDoor.PA.comfitref08_letter.f (bt a0 (ji56))).bind fun t114 => (if 0 ≤ t114 then (comfitref08_read.j4 kj36 a0 a1 a2 ((Go.bits .and .i64 (shr .i64 a2 t114) 1) == 0)) else (none))) else (comfitref08_read.j4 kj36 a0 a1 a2 false)) = some (r1, r2) := H
                                          have A59 := Aside0.mk A590
                                          clear A590
                                          by_cases c60 : t113 ≥ 0
                                          · rw [if_pos c60] at H
                                            have c60b0 : decide (0 ≤ t113) = true := decide_eq_true c60
                                            clear c60
                                            replace H := Option.bind_eq_some_iff.mp H
                                            obtain ⟨t114, A620, H⟩ := H
                                            replace H : (if 0 ≤ t114 then (comfitref08_read.j4 kj36 a0 a1 a2 ((Go.bits .and .i64 (shr .i64 a2 t114) 1) == 0)) else (none)) = some (r1, r2) := H
                                            have A62 := Aside0.mk A620
                                            clear A620
                                            by_cases c63 : 0 ≤ t114
                                            · rw [if_pos c63] at H
                                              have c63b0 := eq_true c63
                                              have c63b1 : decide (0 ≤ t114) = true := decide_eq_true c63
                                              clear c63
                                              obtain ⟨ji64, hji64⟩ : ∃ j_ : Int, (shr .i64 a2 t114) = j_ := ⟨_, rfl⟩
                                              replace H : (comfitref08_read.j4 kj36 a0 a1 a2 ((Go.bits .and .i64 (ji64) 1) == 0)) = some (r1, r2) := by first | (rw [hji64] at H; exact H) | (simp only [hji64] at H ⊢; exact H)
                                              (try rw [hji64] at A59)
                                              (try rw [hji64] at A62)
                                              have hji64_ : (a2 / 2 ^ min t114.toNat 64) = ji64 := hji64
                                              have hji64z : t114 ≤ 64 → (a2 / 2 ^ t114.toNat) = ji64 := shr_small hji64
                                              have H' := Aside0.mk H
                                              clear H
                                              have p58 : 0 ≤ ((ji56) : Int) := of_decide_eq_true (by first | (with_reducible assumption) | assumption)
                                              have q58 : (ji56) < (a0.size : Int) := of_decide_eq_true (by first | (with_reducible assumption) | assumption)
                                              have hx58 := bt_at a0 (ji56)
                                              replace p58 := eq_true p58
                                              replace q58 := eq_true q58
                                              have e_t114 : t114 = t113 := Option.some.inj (A62.out.symm.trans A59.out)
                                              (try rw [e_t114] at c44b0)
                                              (try rw [e_t114] at c43b0)
                                              (try rw [e_t114] at c43b1)
                                              (try rw [e_t114] at c54b0)
                                              (try rw [e_t114] at c54b1)
                                              (try rw [e_t114] at c55b0)
                                              (try rw [e_t114] at hji56)
                                              (try rw [e_t114] at hji56w)
                                              (try rw [e_t114] at c57b0)
                                              (try rw [e_t114] at c60b0)
                                              (try rw [e_t114] at c63b0)
                                              (try rw [e_t114] at c63b1)
                                              (try rw [e_t114] at hji64)
                                              (try rw [e_t114] at hji64_)
                                              (try rw [e_t114] at hji64z)
                                              go_wp2_with (first | (go_at_call 21; (with_reducible refine (Go.Proofs.YtjffhhalmicodaaDoor.PA.comfitref08_letter.calls (bt a0 (ji56)) t113 _ A59.out).mono ?_); rintro e w' ⟨rfl, ⟨nd, rfl⟩⟩; have p61 : 0 ≤ ((ji56) : Int) := of_decide_eq_true (by first | (with_reducible assumption) | assumption); have q61 : (ji56) < (a0.size : Int) := of_decide_eq_true (by first | (with_reducible assumption) | assumption); have hx61 := bt_at a0 (ji56); replace p61 := eq_true p61; replace q61 := eq_true q61) | (go_at_call 21; (with_reducible refine (Go.Proofs.YtjffhhalmicodaaDoor.PA.comfitref08_letter.calls (bt a0 (ji56)) t114 _ A62.out).mono ?_); rintro e w' ⟨rfl, ⟨nd, rfl⟩⟩))
                                              go_meet
                                              case rel => exact ⟨_, (((Go.bits .and .i64 (ji64) 1) == 0)), (by first | rfl | (simp; done) | (simp only [← hji64] <;> (first | rfl | simp)) | (simp [*]; done)), H', ⟨by have := HJ7.out; have := HJ18.out; have := HJ26.out; have := HJ36.out; first | omega | exact Nat.le_refl _⟩, ⟨by repeat (first | (with_reducible first | exact HB.out | apply below_alloc | apply pw_below_drewN | apply below_drew1) | exact HB.out)⟩⟩
                                            · rw [if_neg c63] at H
                                              exact absurd H (by simp)
                                          · rw [if_neg c60] at H
                                            have c60b0 : decide (0 ≤ t113) = false := decide_eq_false c60
                                            clear c60
                                            have H' := Aside0.mk H
                                            clear H
                                            have p58 : 0 ≤ ((ji56) : Int) := of_decide_eq_true (by first | (with_reducible assumption) | assumption)
                                            have q58 : (ji56) < (a0.size : Int) := of_decide_eq_true (by first | (with_reducible assumption) | assumption)
                                            have hx58 := bt_at a0 (ji56)
                                            replace p58 := eq_true p58
                                            replace q58 := eq_true q58
                                            go_wp2_with (first | (go_at_call 21; (with_reducible refine (Go.Proofs.YtjffhhalmicodaaDoor.PA.comfitref08_letter.calls (bt a0 (ji56)) t113 _ A59.out).mono ?_); rintro e w' ⟨rfl, ⟨nd, rfl⟩⟩))
                                            go_meet
                                            case rel => exact ⟨_, (false), (by first | rfl | (simp; done) | (simp [*]; done)), H', ⟨by have := HJ7.out; have := HJ18.out; have := HJ26.out; have := HJ36.out; first | omega | exact Nat.le_refl _⟩, ⟨by repeat (first | (with_reducible first | exact HB.out | apply below_alloc | apply pw_below_drewN | apply below_drew1) | exact HB.out)⟩⟩
                                        · rw [if_neg c57] at H
                                          exact absurd H (by simp)
                                      · rw [if_neg c55] at H
                                        have c55b0 : decide ((wrap64 (a1 + 1)) < (a0.size : Int)) = false := decide_eq_false c55
                                        clear c55
                                        have H' := Aside0.mk H
                                        clear H
                                        go_wp2
                                        go_meet
                                        case rel => exact ⟨_, (false), (by first | rfl | (simp; done) | (simp [*]; done)), H', ⟨by have := HJ7.out; have := HJ18.out; have := HJ26.out; have := HJ36.out; first | omega | exact Nat.le_refl _⟩, ⟨by repeat (first | (with_reducible first | exact HB.out | apply below_alloc | apply pw_below_drewN | apply below_drew1) | exact HB.out)⟩⟩
                                    · rw [if_neg c54] at H
                                      have c54b0 : ((bt a0 a1) == 103) = false := beq_eq_false_iff_ne.mpr c54
                                      have c54b1 : ((bt a0 a1) != 103) = true := bne_iff_ne.mpr c54
                                      have H' := Aside0.mk H
                                      clear H
                                      go_wp2
                                      go_meet
                                      case rel => exact ⟨_, (false), (by first | rfl | (simp; done) | (simp [*]; done)), H', ⟨by have := HJ7.out; have := HJ18.out; have := HJ26.out; have := HJ36.out; first | omega | exact Nat.le_refl _⟩, ⟨by repeat (first | (with_reducible first | exact HB.out | apply below_alloc | apply pw_below_drewN | apply below_drew1) | exact HB.out)⟩⟩
                                case rest =>
                                  clear HC42
                                  try clear c1
                                  try clear c2
                                  try clear p2
                                  try clear q2
                                  try clear hx2
                                  try clear c3
                                  try clear c4
                                  try clear c4b0
                                  try clear p4
                                  try clear q4
                                  try clear hx4
                                  try clear c5
                                  try clear c5b0
                                  try clear p5
                                  try clear q5
                                  try clear hx5
                                  try clear c6
                                  try clear c6b0
                                  try clear p6
                                  try clear q6
                                  try clear hx6
                                  try clear p7
                                  try clear q7
                                  try clear hx7
                                  try clear c10
                                  try clear c10b0
                                  try clear c11
                                  try clear c11b0
                                  try clear c11b1
                                  try clear c12
                                  try clear c12b0
                                  try clear c12b1
                                  try clear c14
                                  try clear c14b0
                                  try clear c16
                                  try clear c16b0
                                  try clear c16b1
                                  try clear c18
                                  try clear c20
                                  try clear c20b0
                                  try clear c20b1
                                  try clear c21
                                  try clear c21b0
                                  try clear c23
                                  try clear c23b0
                                  try clear p24
                                  try clear q24
                                  try clear hx24
                                  try clear c26
                                  try clear c28
                                  try clear c28b0
                                  try clear c28b1
                                  try clear c29
                                  try clear c31
                                  try clear c31b0
                                  try clear c38
                                  try clear c38b0
                                  try clear c38b1
                                  try clear c39
                                  try clear c43
                                  try clear c43b0
                                  try clear c43b1
                                  try clear c44
                                  try clear c44b0
                                  try clear c46
                                  try clear c46b0
                                  try clear p47
                                  try clear q47
                                  try clear hx47
                                  try clear c49
                                  try clear c49b0
                                  try clear c50
                                  try clear p50
                                  try clear q50
                                  try clear hx50
                                  try clear c52
                                  try clear c52b0
                                  try clear c52b1
                                  try clear c54
                                  try clear c54b0
                                  try clear c54b1
                                  try clear c55
                                  try clear c55b0
                                  try clear c57
                                  try clear c57b0
                                  try clear p58
                                  try clear q58
                                  try clear hx58
                                  try clear c60
                                  try clear c60b0
                                  try clear p61
                                  try clear q61
                                  try clear hx61
                                  try clear c63
                                  try clear c63b0
                                  try clear c63b1
                                  try clear p64
                                  try clear p2
                                  try clear p24
                                  try clear p47
                                  try clear p50
                                  try clear p58
                                  try clear p6
                                  try clear p61
                                  try clear p7
                                  try clear q2
                                  try clear q24
                                  try clear q47
                                  try clear q50
                                  try clear q58
                                  try clear q61
                                  try clear q7
                                  obtain ⟨kq, x115_41, rfl, HA, HJ41, HB⟩ := hcut
                                  cases kq with
                                  | zero => exact absurd HA.out (by simp [comfitref08_read.j4])
                                  | succ kj41 =>
                                    have H := HA.out
                                    clear HA
                                    simp only [comfitref08_read.j4] at H
                                    by_cases c65 : x115_41 = true
                                    · subst c65
                                      have H1 : (if 0 ≤ (wrap64 (a1 + 1)) then (if (wrap64 (a1 + 1)) < (a0.size : Int) then ((Go.Proofs.YtjffhhalmicodaaDoor.PA.comfitref08_letter.f (bt a0 (wrap64 (a1 + 1)))).bind fun t115 => (if 0 ≤ t115 then ((comfitref08_read.f kj41 a0 (wrap64 (a1 + 2)) (Go.bits .or .i64 a2 (shl .i64 1 t115))).bind fun bt116 => (some (bt116.1, bt116.2))) else (none))) else (none)) else (none)) = some (r1, r2) := by rw [if_pos rfl] at H; exact H
                                      clear H
                                      have H := H1
                                      clear H1
                                      obtain ⟨ji66, hji66⟩ : ∃ j_ : Int, (wrap64 (a1 + 1)) = j_ := ⟨_, rfl⟩
                                      replace H : (if 0 ≤ (ji66) then (if (ji66) < (a0.size : Int) then ((Go.Proofs.YtjffhhalmicodaaDoor.PA.comfitref08_letter.f (bt a0 (ji66))).bind fun t115 => (if 0 ≤ t115 then ((comfitref08_read.f kj41 a0 (wrap64 (a1 + 2)) (Go.bits .or .i64 a2 (shl .i64 1 t115))).bind fun bt116 => (some (bt116.1, bt116.2))) else (none))) else (none)) else (none)) = some (r1, r2) := by first | (rw [hji66] at H; exact H) | (simp only [hji66] at H ⊢; exact H)
                                      have hji66w : (IntKind.i64.wrap (a1 + 1)) = ji66 := (i64_w _).trans hji66
                                      by_cases c67 : 0 ≤ (ji66)
                                      · rw [if_pos c67] at H
                                        have c67b0 : decide (0 ≤ (ji66)) = true := decide_eq_true c67
                                        clear c67
                                        by_cases c68 : (ji66) < (a0.size : Int)
                                        · rw [if_pos c68] at H
                                          have c68b0 : decide ((ji66) < (a0.size : Int)) = true := decide_eq_true c68
                                          clear c68
                                          replace H := Option.bind_eq_some_iff.mp H
                                          obtain ⟨t115, A700, H⟩ := H
                                          replace H : (if 0 ≤ t115 then ((comfitref08_read.f kj41 a0 (wrap64 (a1 + 2)) (Go.bits .or .i64 a2 (shl .i64 1 t115))).bind fun bt116 => (some (bt116.1, bt116.2))) else (none)) = some (r1, r2) := H
                                          have A70 := Aside0.mk A700
                                          clear A700
                                          by_cases c71 : 0 ≤ t115
                                          · rw [if_pos c71] at H
                                            have c71b0 := eq_true c71
                                            have c71b1 : decide (0 ≤ t115) = true := decide_eq_true c71
                                            clear c71
                                            obtain ⟨ji72, hji72⟩ : ∃ j_ : Int, (shl .i64 1 t115) = j_ := ⟨_, rfl⟩
                                            replace H : ((comfitref08_read.f kj41 a0 (wrap64 (a1 + 2)) (Go.bits .or .i64 a2 (ji72))).bind fun bt116 => (some (bt116.1, bt116.2))) = some (r1, r2) := by first | (rw [hji72] at H; exact H) | (simp only [hji72] at H ⊢; exact H)
                                            (try rw [hji72] at A70)
                                            have hji72_ : (IntKind.i64.wrap (1 * 2 ^ min t115.toNat 64)) = ji72 := hji72
                                            have hji72z : t115 ≤ 64 → (IntKind.i64.wrap (1 * 2 ^ t115.toNat)) = ji72 := shl_small hji72
                                            have hji72u : (IntKind.i64.wrap (2 ^ min t115.toNat 64)) = ji72 := by have h_ := hji72_; rw [Int.one_mul] at h_; exact h_
                                            have hji72v : t115 ≤ 64 → (IntKind.i64.wrap (2 ^ t115.toNat)) = ji72 := fun hle_ => by have h_ := hji72z hle_; rw [Int.one_mul] at h_; exact h_
                                            have hji72y : (wrap64 (1 * 2 ^ min t115.toNat 64)) = ji72 := (i64_w _).symm.trans hji72_
                                            have hji72x : t115 ≤ 64 → (wrap64 (1 * 2 ^ t115.toNat)) = ji72 := fun h_ => (i64_w _).symm.trans (hji72z h_)
                                            replace H := Option.bind_eq_some_iff.mp H
                                            obtain ⟨⟨t116, t117⟩, A730, H⟩ := H
                                            replace H : (some (t116, t117)) = some (r1, r2) := H
                                            have A73 := Aside0.mk A730
                                            clear A730
                                            simp only [Option.some.injEq, Prod.mk.injEq] at H
                                            obtain ⟨rfl, rfl⟩ := H
                                            have p69 : 0 ≤ ((ji66) : Int) := of_decide_eq_true (by first | (with_reducible assumption) | assumption)
                                            have q69 : (ji66) < (a0.size : Int) := of_decide_eq_true (by first | (with_reducible assumption) | assumption)
                                            have hx69 := bt_at a0 (ji66)
                                            replace p69 := eq_true p69
                                            replace q69 := eq_true q69
                                            go_wp2_with (first | ((with_reducible refine gate_callee (f := 21) rfl ?_); refine goesL_ (some 156) rfl rfl Tryd.func21 (by kernel_rfl) rfl #[.int .u8 (bt a0 (ji66))] rfl (by (try simp only [List.map_toArray, List.map_cons, List.map_nil]); first | done | (simp only [hji66]; rfl) | rfl | (simp only [List.length_drop, List.length_take]; rfl)) ?_; (with_reducible refine (Go.Proofs.YtjffhhalmicodaaDoor.PA.comfitref08_letter.calls (bt a0 (ji66)) t115 _ A70.out).mono ?_); rintro e w' ⟨rfl, ⟨nd, rfl⟩⟩; refine ⟨_, rfl, ?_⟩) | ((with_reducible refine gate_callee (f := 14) rfl ?_); refine goesL_ (some 159) rfl rfl Tryd.func14 (by kernel_rfl) rfl #[.string a0, .int .i64 (wrap64 (a1 + 2)), .int .i64 (Go.bits .or .i64 a2 (ji72))] rfl (by (try simp only [List.map_toArray, List.map_cons, List.map_nil]); first | done | (simp only [hji72]; rfl) | rfl | (simp only [List.length_drop, List.length_take]; rfl)) ?_; (with_reducible refine (ih kj41 (by have := HJ7.out; have := HJ18.out; have := HJ26.out; have := HJ36.out; have := HJ41.out; omega) a0 (wrap64 (a1 + 2)) (Go.bits .or .i64 a2 (ji72)) t116 t117 _ A73.out).mono ?_); rintro e w74 ⟨rfl, hb⟩; refine ⟨_, rfl, ?_⟩; have n0_ := Aside0.mk (below_step (by repeat (first | (with_reducible first | exact HB.out | apply below_alloc | apply pw_below_drewN | apply below_drew1) | exact HB.out)) hb); clear HB; have HB := n0_; clear n0_; (try clear hb); (try clear hb2); (try clear hk); (try clear hi)))
                                            go_ret2
                                            exact ⟨by first | rfl | (simp [errW_none, errW_some] <;> rfl) | (simp only [← hji66, ← hji72]; first | rfl | (simp [errW_none, errW_some] <;> rfl)) | (simp [*, errW_none, errW_some] <;> rfl), by repeat (first | (with_reducible first | exact HB.out | apply below_alloc | apply pw_below_drewN | apply below_drew1) | exact HB.out)⟩
                                          · rw [if_neg c71] at H
                                            exact absurd H (by simp)
                                        · rw [if_neg c68] at H
                                          exact absurd H (by simp)
                                      · rw [if_neg c67] at H
                                        exact absurd H (by simp)
                                    · replace c65 := Bool.eq_false_iff.mpr c65
                                      subst c65
                                      have H1 : (some ((-1), 0)) = some (r1, r2) := by rw [if_neg (show ¬ (false = true) by decide)] at H; exact H
                                      clear H
                                      have H := H1
                                      clear H1
                                      simp only [Option.some.injEq, Prod.mk.injEq] at H
                                      obtain ⟨rfl, rfl⟩ := H
                                      go_wp2
                                      go_ret2
                                      exact ⟨by first | rfl | (simp [errW_none, errW_some] <;> rfl) | (simp [*, errW_none, errW_some] <;> rfl), by repeat (first | (with_reducible first | exact HB.out | apply below_alloc | apply pw_below_drewN | apply below_drew1) | exact HB.out)⟩
      · rw [if_neg c6] at H
        exact absurd H (by simp)
    · rw [if_neg c5] at H
      exact absurd H (by simp)
end Go.Proofs.YtjffhhalmicodaaDoor.PB
end
end

section
section
set_option linter.unusedVariables false
set_option linter.unusedSimpArgs false
namespace Go.Proofs.YtjffhhalmicodaaDoor.L
open Go.RowKit Go.Proofs.YtjffhhalmicodaaDoorW.PrintWords Go.Proofs.YtjffhhalmicodaaDoorW.PrintLast Go.Proofs.YtjffhhalmicodaaDoorW.PrintMore Go.Proofs.YtjffhhalmicodaaDoor.X
open Go.Proofs.YtjffhhalmicodaaDoor.PB (comfitref08_read.f comfitref08_read.j0 comfitref08_read.j1 comfitref08_read.j2 comfitref08_read.j3 comfitref08_read.j4)
open Go.Proofs.YtjffhhalmicodaaDoor.PA (comfitref08_digit.f comfitref08_letter.f)
def dep : Fm → Nat
  | .mark _ _ => 0
  | .con _ => 0
  | .var _ => 0
  | .two _ a b => max (dep a) (dep b)
  | .one _ a => dep a + 1
  | .fix _ _ a => dep a
def MayOk (may : Int) (b : List Nat) : Prop := InS 3 may ∧ ∀ c, 120 ≤ c → c ≤ 122 → (tb may (c - 120) = true ↔ c ∈ b)
theorem digit_in {c : Nat} (h : isMk c = true) : comfitref08_digit.f (c : Int) = some ((c : Int) - 48) := by
  have := isMk_iff.1 h
  rw [comfitref08_digit.f, if_pos (by omega), if_pos (by omega)]
  congr 1
  omega
theorem digit_out {c : Nat} (h : isMk c = false) : comfitref08_digit.f (c : Int) = some (-1) := by
  have : ¬ (48 ≤ c ∧ c ≤ 51) := fun e => by rw [isMk_iff.2 e] at h; cases h
  rw [comfitref08_digit.f]
  by_cases h1 : (c : Int) ≥ 48
  · rw [if_pos h1, if_neg (by omega)]
  · rw [if_neg h1]
theorem letter_in {c : Nat} (h : isLt c = true) : comfitref08_letter.f (c : Int) = some (((c - 120 : Nat) : Int)) := by
  have := isLt_iff.1 h
  rw [comfitref08_letter.f, if_pos (by omega), if_pos (by omega)]
  congr 1
  omega
theorem letter_out {c : Nat} (h : isLt c = false) : comfitref08_letter.f (c : Int) = some (-1) := by
  have : ¬ (120 ≤ c ∧ c ≤ 122) := fun e => by rw [isLt_iff.2 e] at h; cases h
  rw [comfitref08_letter.f]
  by_cases h1 : (c : Int) ≥ 120
  · rw [if_pos h1, if_neg (by omega)]
  · rw [if_neg h1]
theorem may_bit {may : Int} {b : List Nat} (h : MayOk may b) {c : Nat} (h1 : 120 ≤ c) (h2 : c ≤ 122) : Go.bits .and .i64 (shr .i64 may ((c - 120 : Nat) : Int)) 1 = if c ∈ b then 1 else 0 := by
  have hm := h.1
  have e : shr .i64 may ((c - 120 : Nat) : Int) = may / 2 ^ (c - 120) := by
    unfold shr
    rw [show min ((c - 120 : Nat) : Int).toNat IntKind.i64.bits = c - 120 by simp [IntKind.bits]; omega]
  rw [e, markOf_val hm.1 (by have := hm.2; have : (2 : Int) ^ 3 = 8 := by decide
                             omega) (by omega)]
  by_cases hc : c ∈ b
  · rw [if_pos ((h.2 c h1 h2).2 hc), if_pos hc]
  · rw [if_neg (fun g => hc ((h.2 c h1 h2).1 g)), if_neg hc]
theorem may_put {may : Int} {b : List Nat} (h : MayOk may b) {c : Nat} (h1 : 120 ≤ c) (h2 : c ≤ 122) : MayOk (Go.bits .or .i64 may (shl .i64 1 ((c - 120 : Nat) : Int))) (b ++ [c]) := by
  rw [shl1 (by omega)]
  have hq : InS 3 (((2 ^ (c - 120) : Nat) : Int)) := inS_of (Nat.pow_lt_pow_right (by decide) (by omega))
  refine ⟨or_in (by omega) h.1 hq, fun d h3 h4 => ?_⟩
  rw [tb_or (by omega) (by omega) h.1 hq, tb_nat, Nat.testBit_two_pow, Bool.or_eq_true, h.2 d h3 h4, decide_eq_true_eq, List.mem_append, List.mem_singleton]
  constructor
  · rintro (g | g)
    · exact .inl g
    · exact .inr (by omega)
  · rintro (g | g)
    · exact .inl g
    · exact .inr (by omega)
theorem drop_bt {s : ByteArray} {i c : Nat} {l : List Nat} (h : (cs s).drop i = c :: l) : i < s.size ∧ bt s (i : Int) = (c : Int) ∧ (cs s).drop (i + 1) = l ∧ l.length = s.size - (i + 1) ∧ c < 256 := by
  obtain ⟨h1, h2, h3⟩ := drop_at h
  have e : bt s (i : Int) = (c : Int) := by
    rw [← h2 h1]
    unfold bt
    simp [h1]
  refine ⟨h1, e, h3, ?_, ?_⟩
  · rw [← h3, List.length_drop, cs_length]
  · have := bt_range s (i : Int)
    omega
def ROut (s : ByteArray) (o : Option (Fm × List Nat)) (e : Int) (d : Int) : Prop := match o with
  | some (f, r) => e = (s.size : Int) - r.length ∧ d = dep f
  | none => e = -1
def RO (s : ByteArray) (n : Nat) : Prop := ∀ (i : Nat) (may : Int) (b l : List Nat), (cs s).drop i = l → i ≤ s.size → l.length < n → MayOk may b → ∃ k e d, comfitref08_read.f k s (i : Int) may = some (e, d) ∧ 0 ≤ d ∧ d ≤ l.length ∧ ROut s (parse n l b) e d
def parseDash (l : List Nat) : Option (Fm × List Nat) := match l with
  | d :: r => if isMk d = true then some (.mark true (d - 48), r) else none
  | [] => none
theorem parse_cons (n c : Nat) (l b : List Nat) : parse (n + 1) (c :: l) b = if isMk c = true then some (.mark false (c - 48), l)
    else if c = 45 then parseDash l
    else if c = 116 ∨ c = 102 then some (.con c, l)
    else if isLt c = true then (if c ∈ b then some (.var c, l) else none)
    else if c = 109 ∨ c = 103 then parseFix n c l b
    else if c = 38 ∨ c = 124 then (parse n l b).bind fun p => (parse n p.2 b).bind fun q => some (.two c p.1 q.1, q.2)
    else if c = 60 ∨ c = 91 then (parse n l b).bind fun p => some (.one c p.1, p.2)
    else none := by
  cases l <;> rfl
theorem w1 {s : ByteArray} (hsz : s.size ≤ 1000000) {i : Nat} (hi : i ≤ s.size) : wrap64 ((i : Int) + 1) = ((i + 1 : Nat) : Int) := by unfold wrap64; omega
theorem w2 {s : ByteArray} (hsz : s.size ≤ 1000000) {i : Nat} (hi : i ≤ s.size) : wrap64 ((i : Int) + 2) = ((i + 2 : Nat) : Int) := by unfold wrap64; omega
theorem read_mono (k : Nat) (s : ByteArray) (i may : Int) : LeO (comfitref08_read.f k s i may) (comfitref08_read.f (k + 1) s i may) := (PB.comfitref08_read.mono_l k).1 s i may
theorem read_all (s : ByteArray) (hsz : s.size ≤ 1000000) : ∀ n, RO s n := by
  intro n
  induction n with
  | zero => intro i may b l _ _ h; omega
  | succ n ih =>
    intro i may b l hl hi hn hm
    cases l with
    | nil =>
      have : s.size ≤ i := by
        have := congrArg List.length hl
        rw [List.length_drop, cs_length] at this
        simp at this
        omega
      refine ⟨1, -1, 0, ?_, by omega, by simp, ?_⟩
      · rw [comfitref08_read.f, if_pos (by omega)]
      · rw [parse]; rfl
    | cons c l =>
      obtain ⟨hlt, hb, hd, hll, h256⟩ := drop_bt hl
      have hw1 := w1 hsz hi
      have hw2 := w2 hsz hi
      have hge : ¬ ((i : Int) ≥ (s.size : Int)) := by omega
      have hi0 : (0 : Int) ≤ (i : Int) := by omega
      have hi1 : (i : Int) < (s.size : Int) := by omega
      have hlen : s.size = l.length + (i + 1) := by omega
      by_cases h1 : isMk c = true
      · refine ⟨2, (i : Int) + 1, 0, ?_, by omega, by simp; omega, ?_⟩
        · rw [comfitref08_read.f, if_neg hge, if_pos hi0, if_pos hi1, hb, digit_in h1]
          have := isMk_iff.1 h1
          simp only [Option.bind_some]
          rw [if_pos (by omega), comfitref08_read.j0, if_pos rfl, hw1]
          simp
        · rw [parse_cons, if_pos h1]
          exact ⟨by omega, rfl⟩
      · have h1f : isMk c = false := by simpa using h1
        by_cases h3 : c = 116 ∨ c = 102
        · refine ⟨2, (i : Int) + 1, 0, ?_, by omega, by simp; omega, ?_⟩
          · rw [comfitref08_read.f, if_neg hge, if_pos hi0, if_pos hi1, hb, digit_out h1f]
            simp only [Option.bind_some]
            rw [if_neg (by decide)]
            rcases h3 with rfl | rfl
            · rw [if_pos (by decide), comfitref08_read.j0, if_pos rfl, hw1]
              simp
            · rw [if_neg (by decide), if_pos (by decide), comfitref08_read.j0, if_pos rfl, hw1]
              simp
          · rw [parse_cons, if_neg h1, if_neg (by omega), if_pos h3]
            exact ⟨by omega, rfl⟩
        · by_cases h4 : isLt c = true
          · have hlc := isLt_iff.1 h4
            have hbit := may_bit hm hlc.1 hlc.2
            by_cases h5 : c ∈ b
            · refine ⟨2, (i : Int) + 1, 0, ?_, by omega, by simp; omega, ?_⟩
              · rw [comfitref08_read.f, if_neg hge, if_pos hi0, if_pos hi1, hb, digit_out h1f]
                simp only [Option.bind_some]
                rw [if_neg (by decide), if_neg (by omega), if_neg (by omega), letter_in h4]
                simp only [Option.bind_some]
                rw [if_pos (by omega), if_pos (by omega), hbit, if_pos h5, comfitref08_read.j0, if_pos (by decide), hw1]
                simp
              · rw [parse_cons, if_neg h1, if_neg (by omega), if_neg h3, if_pos h4, if_pos h5]
                exact ⟨by omega, rfl⟩
            · refine ⟨6, -1, 0, ?_, by omega, by simp; omega, ?_⟩
              · rw [comfitref08_read.f, if_neg hge, if_pos hi0, if_pos hi1, hb, digit_out h1f]
                simp only [Option.bind_some]
                rw [if_neg (by decide), if_neg (by omega), if_neg (by omega), letter_in h4]
                simp only [Option.bind_some]
                rw [if_pos (by omega), if_pos (by omega), hbit, if_neg h5]
                rw [comfitref08_read.j0, if_neg (by decide), if_neg (by omega), comfitref08_read.j1, if_neg (by decide), if_neg (by omega)]
                rw [show ((c : Int) == 124) = false from by simp; omega]
                rw [comfitref08_read.j2, if_neg (by decide), if_neg (by omega), show ((c : Int) == 91) = false from by simp; omega, comfitref08_read.j3, if_neg (by decide), if_neg (by omega), if_neg (by omega), comfitref08_read.j4, if_neg (by decide)]
              · rw [parse_cons, if_neg h1, if_neg (by omega), if_neg h3, if_pos h4, if_neg h5]
                rfl
          · have h4f : isLt c = false := by simpa using h4
            have hnl := h4
            rw [isLt_iff] at hnl
            have start : ∀ k, comfitref08_read.f (k + 1) s (i : Int) may = comfitref08_read.j0 k s (i : Int) may (c : Int) false := by
              intro k
              rw [comfitref08_read.f, if_neg hge, if_pos hi0, if_pos hi1, hb, digit_out h1f]
              simp only [Option.bind_some]
              rw [if_neg (by decide), if_neg (by omega), if_neg (by omega), letter_out h4f]
              simp only [Option.bind_some]
              rw [if_neg (by decide)]
            by_cases h2 : c = 45
            · subst h2
              have j1f : ∀ k, comfitref08_read.j1 (k + 4) s (i : Int) may 45 false = some (-1, 0) := by
                intro k
                rw [comfitref08_read.j1, if_neg (by decide), if_neg (by decide), show ((45 : Int) == 124) = false from rfl, comfitref08_read.j2, if_neg (by decide), if_neg (by decide), show ((45 : Int) == 91) = false from rfl, comfitref08_read.j3, if_neg (by decide), if_neg (by decide), if_neg (by decide), comfitref08_read.j4, if_neg (by decide)]
              cases l with
              | nil =>
                refine ⟨6, -1, 0, ?_, by omega, by simp, ?_⟩
                · rw [start, comfitref08_read.j0, if_neg (by decide), if_pos (by rfl), hw1, if_neg (by simp at hlen; omega)]
                  exact j1f 0
                · rw [parse_cons, if_neg h1, if_pos rfl]
                  rfl
              | cons d r =>
                obtain ⟨hlt2, hb2, hd2, hll2, _⟩ := drop_bt hd
                have hp1 : ((i + 1 : Nat) : Int) < (s.size : Int) := by omega
                have hp0 : (0 : Int) ≤ ((i + 1 : Nat) : Int) := by omega
                by_cases h5 : isMk d = true
                · refine ⟨3, (i : Int) + 2, 0, ?_, by omega, by simp; omega, ?_⟩
                  · rw [start, comfitref08_read.j0, if_neg (by decide), if_pos (by rfl), hw1, if_pos hp1, if_pos hp0, hb2, digit_in h5]
                    simp only [Option.bind_some]
                    have := isMk_iff.1 h5
                    rw [comfitref08_read.j1, if_pos (by simp; omega), hw2]
                    simp
                  · rw [parse_cons, if_neg h1, if_pos rfl]
                    simp only [parseDash]
                    rw [if_pos h5]
                    exact ⟨by omega, rfl⟩
                · have h5f : isMk d = false := by simpa using h5
                  refine ⟨6, -1, 0, ?_, by omega, by simp; omega, ?_⟩
                  · rw [start, comfitref08_read.j0, if_neg (by decide), if_pos (by rfl), hw1, if_pos hp1, if_pos hp0, hb2, digit_out h5f]
                    simp only [Option.bind_some]
                    rw [show (decide ((-1 : Int) ≥ 0)) = false from rfl]
                    exact j1f 0
                  · rw [parse_cons, if_neg h1, if_pos rfl]
                    simp only [parseDash]
                    rw [if_neg h5]
                    rfl
            · have st1 : ∀ k, comfitref08_read.f (k + 2) s (i : Int) may = comfitref08_read.j1 k s (i : Int) may (c : Int) false := by
                intro k
                rw [start, comfitref08_read.j0, if_neg (by decide), if_neg (by omega)]
              by_cases h7 : c = 38 ∨ c = 124
              · have st2 : ∀ k, comfitref08_read.f (k + 4) s (i : Int) may = (comfitref08_read.f k s ((i + 1 : Nat) : Int) may).bind fun bt105 => (if bt105.1 < 0 then (some ((-1), 0)) else ((comfitref08_read.f k s bt105.1 may).bind fun bt107 => (some (bt107.1, mx bt105.2 bt107.2)))) := by
                  intro k
                  rw [st1, comfitref08_read.j1, if_neg (by decide)]
                  rcases h7 with rfl | rfl
                  · rw [if_pos (by rfl), comfitref08_read.j2, if_pos rfl, hw1]
                  · rw [if_neg (by decide), comfitref08_read.j2, if_pos (by rfl), hw1]
                obtain ⟨k1, e1, d1, g1, g2, g3, g4⟩ := ih (i + 1) may b l hd (by omega) (by simp at hn; omega) hm
                have hpc : parse (n + 1) (c :: l) b = (parse n l b).bind fun p => (parse n p.2 b).bind fun q => some (.two c p.1 q.1, q.2) := by
                  rw [parse_cons, if_neg h1, if_neg h2, if_neg h3, if_neg h4, if_neg (by omega), if_pos h7]
                rw [hpc]
                cases hp : parse n l b with
                | none =>
                  rw [hp] at g4
                  obtain rfl : e1 = -1 := g4
                  refine ⟨k1 + 4, -1, 0, ?_, by omega, by simp; omega, rfl⟩
                  rw [st2, g1]
                  simp only [Option.bind_some]
                  rw [if_pos (by decide)]
                | some p =>
                  rw [hp] at g4
                  obtain ⟨q1, q2⟩ := (g4 : e1 = (s.size : Int) - p.2.length ∧ d1 = dep p.1)
                  have hlen2 := parse_len _ _ _ _ _ hp
                  have hdr := (parse_str _ _ _ _ _ hp).1
                  have hdrop : (cs s).drop (s.size - p.2.length) = p.2 := by
                    rw [← cs_length, show (cs s).length - p.2.length = (i + 1) + (l.length - p.2.length) by rw [cs_length]; omega, ← List.drop_drop, hd]
                    rw [hdr, List.length_append, Nat.add_sub_cancel]
                    simp
                  obtain ⟨k2, e2, d2, g5, g6, g7, g8⟩ := ih (s.size - p.2.length) may b p.2 hdrop (by omega) (by simp at hn; omega) hm
                  have he1 : e1 = ((s.size - p.2.length : Nat) : Int) := by omega
                  have hrun : comfitref08_read.f (max k1 k2 + 4) s (i : Int) may = some (e2, mx d1 d2) := by
                    rw [st2, lift (fun k => read_mono k s _ _) g1 (Nat.le_max_left k1 k2)]
                    simp only [Option.bind_some]
                    rw [if_neg (by omega), he1, lift (fun k => read_mono k s _ _) g5 (Nat.le_max_right k1 k2)]
                    rfl
                  refine ⟨max k1 k2 + 4, e2, mx d1 d2, hrun, ?_, ?_, ?_⟩
                  · unfold mx; split <;> omega
                  · simp only [List.length_cons]; unfold mx; split <;> omega
                  · simp only [Option.bind_some]
                    cases hq : parse n p.2 b with
                    | none =>
                      rw [hq] at g8
                      exact g8
                    | some q =>
                      rw [hq] at g8
                      obtain ⟨q3, q4⟩ := (g8 : e2 = (s.size : Int) - q.2.length ∧ d2 = dep q.1)
                      refine ⟨q3, ?_⟩
                      show mx d1 d2 = ((max (dep p.1) (dep q.1) : Nat) : Int)
                      unfold mx
                      split <;> omega
              · have st2 : ∀ k, comfitref08_read.f (k + 4) s (i : Int) may = if c = 60 then (comfitref08_read.j3 k s (i : Int) may (c : Int) true) else (comfitref08_read.j3 k s (i : Int) may (c : Int) ((c : Int) == 91)) := by
                  intro k
                  rw [st1, comfitref08_read.j1, if_neg (by decide), if_neg (by omega), show ((c : Int) == 124) = false by simp; omega, comfitref08_read.j2, if_neg (by decide)]
                  by_cases h : c = 60
                  · rw [if_pos h, if_pos (by omega)]
                  · rw [if_neg h, if_neg (by omega)]
                by_cases h8 : c = 60 ∨ c = 91
                · have st3 : ∀ k, comfitref08_read.f (k + 5) s (i : Int) may = (comfitref08_read.f k s ((i + 1 : Nat) : Int) may).bind fun bt109 => (some (bt109.1, wrap64 (bt109.2 + 1))) := by
                    intro k
                    rw [st2 (k + 1)]
                    rcases h8 with rfl | rfl
                    · rw [if_pos rfl, comfitref08_read.j3, if_pos rfl, hw1]
                    · rw [if_neg (by decide), comfitref08_read.j3, if_pos (by rfl), hw1]
                  obtain ⟨k1, e1, d1, g1, g2, g3, g4⟩ := ih (i + 1) may b l hd (by omega) (by simp at hn; omega) hm
                  have hpc : parse (n + 1) (c :: l) b = (parse n l b).bind fun p => some (.one c p.1, p.2) := by
                    rw [parse_cons, if_neg h1, if_neg h2, if_neg h3, if_neg h4, if_neg (by omega), if_neg h7, if_pos h8]
                  rw [hpc]
                  have hwd : wrap64 (d1 + 1) = d1 + 1 := by unfold wrap64; omega
                  refine ⟨k1 + 5, e1, d1 + 1, ?_, by omega, by simp; omega, ?_⟩
                  · rw [st3, g1]
                    simp only [Option.bind_some]
                    rw [hwd]
                  · cases hp : parse n l b with
                    | none =>
                      rw [hp] at g4
                      exact g4
                    | some p =>
                      rw [hp] at g4
                      obtain ⟨q1, q2⟩ := (g4 : e1 = (s.size : Int) - p.2.length ∧ d1 = dep p.1)
                      exact ⟨q1, by show d1 + 1 = ((dep p.1 + 1 : Nat) : Int); omega⟩
                · have st3 : ∀ k, comfitref08_read.f (k + 4) s (i : Int) may = comfitref08_read.j3 k s (i : Int) may (c : Int) false := by
                    intro k
                    rw [st2, if_neg (by omega), show ((c : Int) == 91) = false by simp; omega]
                  by_cases h6 : c = 109 ∨ c = 103
                  · have hpc : parse (n + 1) (c :: l) b = parseFix n c l b := by
                      rw [parse_cons, if_neg h1, if_neg h2, if_neg h3, if_neg h4, if_pos h6]
                    rw [hpc]
                    have hc2 : (c : Int) = 109 ∨ (c : Int) = 103 := by omega
                    cases l with
                    | nil =>
                      refine ⟨6, -1, 0, ?_, by omega, by simp, rfl⟩
                      have hx : ¬ ((i + 1 : Nat) : Int) < (s.size : Int) := by simp at hlen; omega
                      rw [st3 2, comfitref08_read.j3, if_neg (by decide), hw1]
                      rcases hc2 with h | h
                      · rw [if_pos h, if_neg hx, comfitref08_read.j4, if_neg (by decide)]
                      · rw [if_neg (by omega), if_pos h, if_neg hx, comfitref08_read.j4, if_neg (by decide)]
                    | cons x r =>
                      obtain ⟨hlt2, hb2, hd2, hll2, _⟩ := drop_bt hd
                      have hp1 : ((i + 1 : Nat) : Int) < (s.size : Int) := by omega
                      have hp0 : (0 : Int) ≤ ((i + 1 : Nat) : Int) := by omega
                      by_cases hx : isLt x = true
                      · have hlx := isLt_iff.1 hx
                        have hbit := may_bit hm hlx.1 hlx.2
                        have st4 : ∀ k, comfitref08_read.f (k + 5) s (i : Int) may = comfitref08_read.j4 k s (i : Int) may ((Go.bits .and .i64 (shr .i64 may ((x - 120 : Nat) : Int)) 1) == 0) := by
                          intro k
                          have hx0 : ((x - 120 : Nat) : Int) ≥ 0 := by omega
                          have hx1 : 0 ≤ ((x - 120 : Nat) : Int) := by omega
                          rw [st3 (k + 1), comfitref08_read.j3, if_neg (by decide), hw1]
                          rcases hc2 with h | h
                          · rw [if_pos h, if_pos hp1, if_pos hp0, hb2, letter_in hx]
                            simp only [Option.bind_some]
                            rw [if_pos hx0, if_pos hx1]
                          · rw [if_neg (by omega), if_pos h, if_pos hp1, if_pos hp0, hb2, letter_in hx]
                            simp only [Option.bind_some]
                            rw [if_pos hx0, if_pos hx1]
                        by_cases hxb : x ∈ b
                        · refine ⟨6, -1, 0, ?_, by omega, by simp; omega, ?_⟩
                          · rw [st4 1, hbit, if_pos hxb, comfitref08_read.j4, if_neg (by decide)]
                          · simp only [parseFix]
                            rw [if_neg (fun h => h.2 hxb)]
                            rfl
                        · obtain ⟨k1, e1, d1, g1, g2, g3, g4⟩ := ih (i + 2) _ (b ++ [x]) r hd2 (by omega) (by simp at hn; omega) (may_put hm hlx.1 hlx.2)
                          refine ⟨k1 + 6, e1, d1, ?_, by omega, by simp; omega, ?_⟩
                          · rw [st4 (k1 + 1), hbit, if_neg hxb, comfitref08_read.j4, if_pos (by rfl), hw1, if_pos hp0, if_pos hp1, hb2, letter_in hx, hw2]
                            simp only [Option.bind_some]
                            rw [if_pos (by omega), g1]
                            rfl
                          · simp only [parseFix]
                            rw [if_pos ⟨hx, hxb⟩]
                            cases hp : parse n r (b ++ [x]) with
                            | none =>
                              rw [hp] at g4
                              exact g4
                            | some p =>
                              rw [hp] at g4
                              obtain ⟨q1, q2⟩ := (g4 : e1 = (s.size : Int) - p.2.length ∧ d1 = dep p.1)
                              exact ⟨q1, q2⟩
                      · have hxf : isLt x = false := by simpa using hx
                        refine ⟨6, -1, 0, ?_, by omega, by simp; omega, ?_⟩
                        · rw [st3 2, comfitref08_read.j3, if_neg (by decide), hw1]
                          rcases hc2 with h | h
                          · rw [if_pos h, if_pos hp1, if_pos hp0, hb2, letter_out hxf]
                            simp only [Option.bind_some]
                            rw [if_neg (by decide), comfitref08_read.j4, if_neg (by decide)]
                          · rw [if_neg (by omega), if_pos h, if_pos hp1, if_pos hp0, hb2, letter_out hxf]
                            simp only [Option.bind_some]
                            rw [if_neg (by decide), comfitref08_read.j4, if_neg (by decide)]
                        · simp only [parseFix]
                          rw [if_neg (fun h => hx h.1)]
                          rfl
                  · refine ⟨6, -1, 0, ?_, by omega, by simp; omega, ?_⟩
                    · rw [st3 2, comfitref08_read.j3, if_neg (by decide), if_neg (by omega), if_neg (by omega), comfitref08_read.j4, if_neg (by decide)]
                    · rw [parse_cons, if_neg h1, if_neg h2, if_neg h3, if_neg h4, if_neg h6, if_neg h7, if_neg h8]
                      rfl
end Go.Proofs.YtjffhhalmicodaaDoor.L
end
section
namespace Go.Proofs.YtjffhhalmicodaaDoor.PB
open Go.RowKit Go.Proofs.YtjffhhalmicodaaDoorW.PrintWords Go.Proofs.YtjffhhalmicodaaDoorW.PrintLast Go.Proofs.YtjffhhalmicodaaDoorW.PrintMore
attribute [local go_sem] max2_int min2_int max_two min_two max_three min_three max_four min_four
set_option linter.unusedVariables false
set_option linter.unusedSimpArgs false
def comfitref08_Is.f (k : Nat) (a0 : ByteArray) : Option (Bool) := if (a0.size : Int) > 40 then (some false) else ((comfitref08_read.f k a0 0 0).bind fun bt118 => (some (bt118.1 == (a0.size : Int))))
theorem comfitref08_Is.mono : ∀ a0 k, LeO (comfitref08_Is.f k a0) (comfitref08_Is.f (k + 1) a0) := by
  intro a0 k
  unfold comfitref08_Is.f
  repeat' first
      | (with_reducible exact comfitref08_read.mono _ _ _ _)
      | (with_reducible exact LeO.refl _)
      | (with_reducible exact LeO.none _)
      | (with_reducible refine LeO.ite ?_ ?_)
      | (with_reducible refine LeO.bind ?_ (fun _ => ?_))
      | exact comfitref08_read.mono _ _ _ _
      | exact LeO.none _
      | refine LeO.ite ?_ ?_
      | refine LeO.bind ?_ (fun _ => ?_)
set_option maxHeartbeats 8000000 in
set_option maxRecDepth 100000 in
theorem comfitref08_Is.calls (k : Nat) (a0 : ByteArray) (r : Bool) (w : World) (h : comfitref08_Is.f k a0 = some r) :
    Calls Tryd.prog 7 #[.string a0] w fun e w' => e = .returned (.bool r) ∧ Below w.heap.size w w' := by
  have HB := Aside0.mk (Below.refl w.heap.size w)
  have H : (if (a0.size : Int) > 40 then (some false) else ((comfitref08_read.f k a0 0 0).bind fun bt118 => (some (bt118.1 == (a0.size : Int))))) = some r := h
  clear h
  by_cases c2 : (a0.size : Int) > 40
  · rw [if_pos c2] at H
    have c2b0 : decide (40 < (a0.size : Int)) = true := decide_eq_true c2
    have c2b1 : decide (40 < a0.size) = true := decide_eq_true (by omega)
    clear c2
    obtain rfl := Option.some.inj H
    go_enter Tryd.func7, Tryd.ntmps7
    go_wp2
    go_ret
    exact ⟨by first | rfl | (simp [errW_none, errW_some] <;> rfl) | (simp [*, errW_none, errW_some] <;> rfl), by repeat (first | (with_reducible first | exact HB.out | apply below_alloc | apply pw_below_drewN | apply below_drew1) | exact HB.out)⟩
  · rw [if_neg c2] at H
    have c2b0 : decide (40 < (a0.size : Int)) = false := decide_eq_false c2
    have c2b1 : decide (40 < a0.size) = false := decide_eq_false (by omega)
    clear c2
    replace H := Option.bind_eq_some_iff.mp H
    obtain ⟨⟨t118, t119⟩, A30, H⟩ := H
    replace H : (some (t118 == (a0.size : Int))) = some r := H
    have A3 := Aside0.mk A30
    clear A30
    obtain rfl := Option.some.inj H
    go_enter Tryd.func7, Tryd.ntmps7
    go_wp2_with (first | ((with_reducible refine gate_callee (f := 14) rfl ?_); refine goesL_ (some 10) rfl rfl Tryd.func14 (by kernel_rfl) rfl #[.string a0, .int .i64 0, .int .i64 0] rfl (by (try simp only [List.map_toArray, List.map_cons, List.map_nil]); first | done | rfl | (simp only [List.length_drop, List.length_take]; rfl)) ?_; (with_reducible refine (comfitref08_read.calls k a0 0 0 t118 t119 _ A3.out).mono ?_); rintro e w4 ⟨rfl, hb⟩; refine ⟨_, rfl, ?_⟩; have n0_ := Aside0.mk (below_step (by repeat (first | (with_reducible first | exact HB.out | apply below_alloc | apply pw_below_drewN | apply below_drew1) | exact HB.out)) hb); clear HB; have HB := n0_; clear n0_; (try clear hb); (try clear hb2); (try clear hk); (try clear hi)))
    go_ret
    exact ⟨by first | rfl | (simp [errW_none, errW_some] <;> rfl) | (simp [*, errW_none, errW_some] <;> rfl), by repeat (first | (with_reducible first | exact HB.out | apply below_alloc | apply pw_below_drewN | apply below_drew1) | exact HB.out)⟩
mutual
def comfitref08_Valid.j0 : Nat → Int → Bool → List Int → List Int → Option (Bool)
  | 0, _, _, _, _ => none
  | k + 1, x3, x21, x121000, x121001 => if x21 = true then (some false) else (comfitref08_Valid.l0 k x3 x121000 (x121000.length : Int) 0 x121000 x121001)
def comfitref08_Valid.l0 : Nat → Int → List Int → Int → Int → List Int → List Int → Option (Bool)
  | 0, _, _, _, _, _, _ => none
  | k + 1, x3, x23, x24, x25, x121000, x121001 => if x25 < x24 then (if 0 ≤ x25 then (if x25 < (x23.length : Int) then (if (rd x23 x25) < 0 then (some false) else (if 0 ≤ x3 then (if (rd x23 x25) ≥ (shl .i64 1 x3) then (some false) else (if x25 < (x121001.length : Int) then (if (rd x121001 x25) < 0 then (some false) else (if (rd x121001 x25) > 15 then (some false) else (comfitref08_Valid.l0 k x3 x23 x24 (wrap64 (x25 + 1)) x121000 x121001))) else (none))) else (none))) else (none)) else (none)) else (some true)
end
def comfitref08_Valid.f (k : Nat) (l0_0 : List Int) (l0_1 : List Int) : Option (Bool) := if (l0_0.length : Int) < 1 then (comfitref08_Valid.j0 k (l0_0.length : Int) true l0_0 l0_1) else (if (l0_0.length : Int) > 6 then (comfitref08_Valid.j0 k (l0_0.length : Int) true l0_0 l0_1) else (comfitref08_Valid.j0 k (l0_0.length : Int) ((l0_1.length : Int) != (l0_0.length : Int)) l0_0 l0_1))
theorem comfitref08_Valid.mono_l : ∀ k, (∀ y0 y1 y2 y3, LeO (comfitref08_Valid.j0 k y0 y1 y2 y3) (comfitref08_Valid.j0 (k + 1) y0 y1 y2 y3)) ∧ (∀ y0 y1 y2 y3 y4 y5, LeO (comfitref08_Valid.l0 k y0 y1 y2 y3 y4 y5) (comfitref08_Valid.l0 (k + 1) y0 y1 y2 y3 y4 y5))
  | 0 => ⟨fun _ _ _ _ r h => by simp [comfitref08_Valid.j0] at h, fun _ _ _ _ _ _ r h => by simp [comfitref08_Valid.l0] at h⟩
  | k + 1 => by
    obtain ⟨ih0, ih1⟩ := comfitref08_Valid.mono_l k
    refine ⟨?_, ?_⟩
    · intro y0 y1 y2 y3
      unfold comfitref08_Valid.j0
      repeat' first
      | (with_reducible exact ih0 _ _ _ _)
      | (with_reducible exact ih1 _ _ _ _ _ _)
      | (with_reducible exact LeO.refl _)
      | (with_reducible exact LeO.none _)
      | (with_reducible refine LeO.ite ?_ ?_)
      | (with_reducible refine LeO.bind ?_ (fun _ => ?_))
      | exact ih0 _ _ _ _
      | exact ih1 _ _ _ _ _ _
      | exact LeO.none _
      | refine LeO.ite ?_ ?_
      | refine LeO.bind ?_ (fun _ => ?_)
    · intro y0 y1 y2 y3 y4 y5
      unfold comfitref08_Valid.l0
      repeat' first
      | (with_reducible exact ih0 _ _ _ _)
      | (with_reducible exact ih1 _ _ _ _ _ _)
      | (with_reducible exact LeO.refl _)
      | (with_reducible exact LeO.none _)
      | (with_reducible refine LeO.ite ?_ ?_)
      | (with_reducible refine LeO.bind ?_ (fun _ => ?_))
      | exact ih0 _ _ _ _
      | exact ih1 _ _ _ _ _ _
      | exact LeO.none _
      | refine LeO.ite ?_ ?_
      | refine LeO.bind ?_ (fun _ => ?_)
theorem comfitref08_Valid.mono : ∀ a0 a1 k, LeO (comfitref08_Valid.f k a0 a1) (comfitref08_Valid.f (k + 1) a0 a1) := by
  intro a0 a1 k
  obtain ⟨ih0, ih1⟩ := comfitref08_Valid.mono_l k
  unfold comfitref08_Valid.f
  repeat' first
      | (with_reducible exact ih0 _ _ _ _)
      | (with_reducible exact ih1 _ _ _ _ _ _)
      | (with_reducible exact LeO.refl _)
      | (with_reducible exact LeO.none _)
      | (with_reducible refine LeO.ite ?_ ?_)
      | (with_reducible refine LeO.bind ?_ (fun _ => ?_))
      | exact ih0 _ _ _ _
      | exact ih1 _ _ _ _ _ _
      | exact LeO.none _
      | refine LeO.ite ?_ ?_
      | refine LeO.bind ?_ (fun _ => ?_)
set_option maxHeartbeats 8000000 in
set_option maxRecDepth 100000 in
theorem comfitref08_Valid.calls (k : Nat) (A0_0 : Option Addr) (c0_0 : Nat) (l0_0 : List Int) (A0_1 : Option Addr) (c0_1 : Nat) (l0_1 : List Int) (r : Bool) (w : World) (hr0_0 : Kd.C (Kd.int .i64) w A0_0 l0_0.length l0_0) (hc0_0 : l0_0.length ≤ c0_0) (hr0_1 : Kd.C (Kd.int .i64) w A0_1 l0_1.length l0_1) (hc0_1 : l0_1.length ≤ c0_1) (h : comfitref08_Valid.f k l0_0 l0_1 = some r) :
    Calls Tryd.prog 6 #[.agg #[.slice A0_0 l0_0.length c0_0, .slice A0_1 l0_1.length c0_1]] w fun e w' => e = .returned (.bool r) ∧ Below w.heap.size w w' := by
  have hu24 := Tryd.underlying24
  have HR0_0 := Aside0.mk hr0_0
  have HC0_0 := Aside0.mk hc0_0
  clear hr0_0 hc0_0
  have HR0_1 := Aside0.mk hr0_1
  have HC0_1 := Aside0.mk hc0_1
  clear hr0_1 hc0_1
  have HB := Aside0.mk (Below.refl w.heap.size w)
  have H : (if (l0_0.length : Int) < 1 then (comfitref08_Valid.j0 k (l0_0.length : Int) true l0_0 l0_1) else (if (l0_0.length : Int) > 6 then (comfitref08_Valid.j0 k (l0_0.length : Int) true l0_0 l0_1) else (comfitref08_Valid.j0 k (l0_0.length : Int) ((l0_1.length : Int) != (l0_0.length : Int)) l0_0 l0_1))) = some r := h
  clear h
  have HC2 := Aside0.mk H
  clear H
  go_enter Tryd.func6, Tryd.ntmps6
  go_upto_region 2 with (first | ((with_reducible refine gate_dst (N := 1) rfl ?_); (try (refine gate_guard (by rfl) ?_; dsimp only)); refine box_event ?hg (N := 1) ?hd (cs := #[.slice A0_0 l0_0.length c0_0, .slice A0_1 l0_1.length c0_1]) (t := 24) ?hr ?_; (case hd => rfl); (case hg => rfl); (case hr => first | (go_simp; done) | (go_simp; rfl)); intro gb120 hg w3 hbox hb; have n0_ := Aside0.mk (below_step (by repeat (first | (with_reducible first | exact HB.out | apply below_alloc | apply pw_below_drewN | apply below_drew1) | exact HB.out)) hb); have n1_ := Aside0.mk (hbox); have n2_ := Aside0.mk ((by rw [hg]; exact (below_size (by repeat (first | (with_reducible first | exact HB.out | apply below_alloc | apply pw_below_drewN | apply below_drew1) | exact HB.out))) : w.heap.size ≤ gb120)); have n3_ := Aside0.mk ((by rw [hg]; exact (below_size (by repeat (first | (with_reducible first | exact HB.out | apply below_alloc | apply pw_below_drewN | apply below_drew1) | exact HB.out))) : w.heap.size ≤ gb120)); clear HB; have HB := n0_; have BK120 := n1_; have GW120 := n2_; have GE120 := n3_; clear n0_ n1_ n2_ n3_; clear hb hbox hg; have hcz4_0 : w3.cell? ⟨gb120, 0, none⟩ = some (.slice A0_0 l0_0.length c0_0) := (blk_cell BK120.out 0).trans rfl; have hcz4_1 : w3.cell? ⟨gb120, 1, none⟩ = some (.slice A0_1 l0_1.length c0_1) := (blk_cell BK120.out 1).trans rfl; have hfz4_0 := blk_frozen BK120.out 0; have hfz4_1 := blk_frozen BK120.out 1))
  (try simp only [Act.put, List.setIfInBounds_toArray, List.set_cons_zero, List.set_cons_succ])
  go_cut [21] (fun v21 wc => ∃ (kq : Nat) (x21_1 : Bool), v21 = .bool x21_1 ∧ Aside0 (comfitref08_Valid.j0 kq (l0_0.length : Int) x21_1 l0_0 l0_1 = some r) ∧ Aside0 (kq ≤ k) ∧ Aside0 (wc.heap[gb120]? = some (.cells #[(.slice A0_0 l0_0.length c0_0), (.slice A0_1 l0_1.length c0_1)] 24 (0, 0))) ∧ Aside0 (Below w.heap.size w wc))
  case first =>
    have H := HC2.out
    clear HC2
    by_cases c5 : (l0_0.length : Int) < 1
    · rw [if_pos c5] at H
      have c5b0 : decide ((l0_0.length : Int) < 1) = true := decide_eq_true c5
      have c5b1 : decide (l0_0.length < 1) = true := decide_eq_true (by omega)
      clear c5
      (first | rw [c5b0] | (simp only [i64_w, i32_w]; rw [c5b0]) | skip)
      have H' := Aside0.mk H
      clear H
      go_wp2
      go_meet
      case rel => exact ⟨_, (true), (by first | rfl | (simp; done) | (simp [*]; done)), H', ⟨by first | omega | exact Nat.le_refl _⟩, ⟨by (with_reducible repeat (first | refine blk_drewN ?_ _ | refine blk_drew ?_ | refine blk_alloc ?_ _)); exact BK120.out⟩, ⟨by repeat (first | (with_reducible first | exact HB.out | apply below_alloc | apply pw_below_drewN | apply below_drew1 | refine below_set ?_ GE120.out) | exact HB.out)⟩⟩
    · rw [if_neg c5] at H
      have c5b0 : decide ((l0_0.length : Int) < 1) = false := decide_eq_false c5
      have c5b1 : decide (l0_0.length < 1) = false := decide_eq_false (by omega)
      clear c5
      (first | rw [c5b0] | (simp only [i64_w, i32_w]; rw [c5b0]) | skip)
      by_cases c6 : (l0_0.length : Int) > 6
      · rw [if_pos c6] at H
        have c6b0 : decide (6 < (l0_0.length : Int)) = true := decide_eq_true c6
        have c6b1 : decide (6 < l0_0.length) = true := decide_eq_true (by omega)
        clear c6
        have H' := Aside0.mk H
        clear H
        go_wp2
        go_meet
        case rel => exact ⟨_, (true), (by first | rfl | (simp; done) | (simp [*]; done)), H', ⟨by first | omega | exact Nat.le_refl _⟩, ⟨by (with_reducible repeat (first | refine blk_drewN ?_ _ | refine blk_drew ?_ | refine blk_alloc ?_ _)); exact BK120.out⟩, ⟨by repeat (first | (with_reducible first | exact HB.out | apply below_alloc | apply pw_below_drewN | apply below_drew1 | refine below_set ?_ GE120.out) | exact HB.out)⟩⟩
      · rw [if_neg c6] at H
        have c6b0 : decide (6 < (l0_0.length : Int)) = false := decide_eq_false c6
        have c6b1 : decide (6 < l0_0.length) = false := decide_eq_false (by omega)
        clear c6
        have H' := Aside0.mk H
        clear H
        have hcz7_0 : w3.cell? ⟨gb120, 0, none⟩ = some (.slice A0_0 l0_0.length c0_0) := (blk_cell BK120.out 0).trans rfl
        have hcz7_1 : w3.cell? ⟨gb120, 1, none⟩ = some (.slice A0_1 l0_1.length c0_1) := (blk_cell BK120.out 1).trans rfl
        have hfz7_0 := blk_frozen BK120.out 0
        have hfz7_1 := blk_frozen BK120.out 1
        go_wp2
        go_meet
        case rel => exact ⟨_, (((l0_1.length : Int) != (l0_0.length : Int))), (by first | rfl | (simp; done) | (simp [*]; done)), H', ⟨by first | omega | exact Nat.le_refl _⟩, ⟨by (with_reducible repeat (first | refine blk_drewN ?_ _ | refine blk_drew ?_ | refine blk_alloc ?_ _)); exact BK120.out⟩, ⟨by repeat (first | (with_reducible first | exact HB.out | apply below_alloc | apply pw_below_drewN | apply below_drew1 | refine below_set ?_ GE120.out) | exact HB.out)⟩⟩
  case rest =>
    clear HC2
    try clear c2
    try clear p2
    try clear c5
    try clear c5b0
    try clear c5b1
    try clear c6
    try clear c6b0
    try clear c6b1
    try clear hcz4_0
    try clear hcz4_1
    try clear hcz7_0
    try clear hcz7_1
    try clear hfz4_0
    try clear hfz4_1
    try clear hfz7_0
    try clear hfz7_1
    obtain ⟨kq, x21_1, rfl, HA, HJ1, BK120, HB⟩ := hcut
    cases kq with
    | zero => exact absurd HA.out (by simp [comfitref08_Valid.j0])
    | succ kj1 =>
      have H := HA.out
      clear HA
      simp only [comfitref08_Valid.j0] at H
      by_cases c8 : x21_1 = true
      · subst c8
        have H1 : (some false) = some r := by rw [if_pos rfl] at H; exact H
        clear H
        have H := H1
        clear H1
        obtain rfl := Option.some.inj H
        go_wp2
        go_ret
        exact ⟨by first | rfl | (simp [errW_none, errW_some] <;> rfl) | (simp [*, errW_none, errW_some] <;> rfl), by repeat (first | (with_reducible first | exact HB.out | apply below_alloc | apply pw_below_drewN | apply below_drew1 | refine below_set ?_ GE120.out) | exact HB.out)⟩
      · replace c8 := Bool.eq_false_iff.mpr c8
        subst c8
        have H1 : (comfitref08_Valid.l0 kj1 (l0_0.length : Int) l0_0 (l0_0.length : Int) 0 l0_0 l0_1) = some r := by rw [if_neg (show ¬ (false = true) by decide)] at H; exact H
        clear H
        have H := H1
        clear H1
        have H' := Aside0.mk H
        clear H
        have hcz9_0 : wc.cell? ⟨gb120, 0, none⟩ = some (.slice A0_0 l0_0.length c0_0) := (blk_cell BK120.out 0).trans rfl
        have hcz9_1 : wc.cell? ⟨gb120, 1, none⟩ = some (.slice A0_1 l0_1.length c0_1) := (blk_cell BK120.out 1).trans rfl
        have hfz9_0 := blk_frozen BK120.out 0
        have hfz9_1 := blk_frozen BK120.out 1
        go_wp2
        go_loopg [25] kj1 (fun kq v25 w' => ∃ (x25_2 : Int), v25 = .int .i64 x25_2 ∧ Aside0 (comfitref08_Valid.l0 kq (l0_0.length : Int) l0_0 (l0_0.length : Int) x25_2 l0_0 l0_1 = some r) ∧ Aside0 (kq ≤ kj1) ∧ Aside0 (w'.heap[gb120]? = some (.cells #[(.slice A0_0 l0_0.length c0_0), (.slice A0_1 l0_1.length c0_1)] 24 (0, 0))) ∧ Aside0 (Below w.heap.size w w'))
        case atStart => exact ⟨(0), (by first | rfl | (simp; done) | (simp [*]; done)), H', ⟨Nat.le_refl _⟩, ⟨by (with_reducible repeat (first | refine blk_drewN ?_ _ | refine blk_drew ?_ | refine blk_alloc ?_ _)); exact BK120.out⟩, ⟨by repeat (first | (with_reducible first | exact HB.out | apply below_alloc | apply pw_below_drewN | apply below_drew1 | refine below_set ?_ GE120.out) | exact HB.out)⟩⟩
        case round =>
          clear H'
          try clear c2
          try clear p2
          try clear c5
          try clear c5b0
          try clear c5b1
          try clear c6
          try clear c6b0
          try clear c6b1
          try clear c8
          try clear hcz4_0
          try clear hcz4_1
          try clear hcz7_0
          try clear hcz7_1
          try clear hcz9_0
          try clear hcz9_1
          try clear hfz4_0
          try clear hfz4_1
          try clear hfz7_0
          try clear hfz7_1
          try clear hfz9_0
          try clear hfz9_1
          try clear p2
          obtain ⟨x25_2, rfl, HA, HK2, BK120, HB⟩ := hrel
          cases gk with
          | zero => exact absurd HA.out (by simp [comfitref08_Valid.l0])
          | succ k2 =>
            have H := HA.out
            clear HA
            simp only [comfitref08_Valid.l0] at H
            by_cases c10 : x25_2 < (l0_0.length : Int)
            · rw [if_pos c10] at H
              have c10b0 : decide (x25_2 < (l0_0.length : Int)) = true := decide_eq_true c10
              clear c10
              by_cases c11 : 0 ≤ x25_2
              · rw [if_pos c11] at H
                have c11b0 : decide (0 ≤ x25_2) = true := decide_eq_true c11
                clear c11
                by_cases c12 : x25_2 < (l0_0.length : Int)
                · rw [if_pos c12] at H
                  have c12b0 : decide (x25_2 < (l0_0.length : Int)) = true := decide_eq_true c12
                  clear c12
                  by_cases c13 : (rd l0_0 x25_2) < 0
                  · rw [if_pos c13] at H
                    have c13b0 : decide ((rd l0_0 x25_2) < 0) = true := decide_eq_true c13
                    clear c13
                    obtain rfl := Option.some.inj H
                    have p121 : 0 ≤ (x25_2 : Int) := of_decide_eq_true (by first | (with_reducible assumption) | assumption)
                    have q121 : x25_2 < (l0_0.length : Int) := of_decide_eq_true (by first | (with_reducible assumption) | assumption)
                    obtain ⟨ad121, e121, hx121_0⟩ := Kd.at_int HR0_0.out x25_2 p121 q121
                    cases e121
                    replace hx121_0 := (HB.out.cell (World.block_lt_of_cell? w _ hx121_0)).trans hx121_0
                    replace p121 := eq_true p121
                    replace q121 := eq_true q121
                    go_wp2
                    go_ret
                    exact ⟨by first | rfl | (simp [errW_none, errW_some] <;> rfl) | (simp [*, errW_none, errW_some] <;> rfl), by repeat (first | (with_reducible first | exact HB.out | apply below_alloc | apply pw_below_drewN | apply below_drew1 | refine below_set ?_ GE120.out) | exact HB.out)⟩
                  · rw [if_neg c13] at H
                    have c13b0 : decide ((rd l0_0 x25_2) < 0) = false := decide_eq_false c13
                    clear c13
                    by_cases c14 : 0 ≤ (l0_0.length : Int)
                    · rw [if_pos c14] at H
                      have c14b0 := eq_true c14
                      have c14b1 : decide (0 ≤ (l0_0.length : Int)) = true := decide_eq_true c14
                      clear c14
                      obtain ⟨ji15, hji15⟩ : ∃ j_ : Int, (shl .i64 1 (l0_0.length : Int)) = j_ := ⟨_, rfl⟩
                      replace H : (if (rd l0_0 x25_2) ≥ (ji15) then (some false) else (if x25_2 < (l0_1.length : Int) then (if (rd l0_1 x25_2) < 0 then (some false) else (if (rd l0_1 x25_2) > 15 then (some false) else (comfitref08_Valid.l0 k2 (l0_0.length : Int) l0_0 (l0_0.length : Int) (wrap64 (x25_2 + 1)) l0_0 l0_1))) else (none))) = some r := by first | (rw [hji15] at H; exact H) | (simp only [hji15] at H ⊢; exact H)
                      have hji15_ : (IntKind.i64.wrap (1 * 2 ^ min (l0_0.length : Int).toNat 64)) = ji15 := hji15
                      have hji15z : (l0_0.length : Int) ≤ 64 → (IntKind.i64.wrap (1 * 2 ^ (l0_0.length : Int).toNat)) = ji15 := shl_small hji15
                      have hji15p : (IntKind.i64.wrap (1 * 2 ^ min l0_0.length 64)) = ji15 := hji15_
                      have hji15q : (l0_0.length : Int) ≤ 64 → (IntKind.i64.wrap (1 * 2 ^ l0_0.length)) = ji15 := hji15z
                      have hji15r : (IntKind.i64.wrap (2 ^ min l0_0.length 64)) = ji15 := by have h_ := hji15p; rw [Int.one_mul] at h_; exact h_
                      have hji15s : (l0_0.length : Int) ≤ 64 → (IntKind.i64.wrap (2 ^ l0_0.length)) = ji15 := fun hle_ => by have h_ := hji15q hle_; rw [Int.one_mul] at h_; exact h_
                      have hji15u : (IntKind.i64.wrap (2 ^ min (l0_0.length : Int).toNat 64)) = ji15 := by have h_ := hji15_; rw [Int.one_mul] at h_; exact h_
                      have hji15v : (l0_0.length : Int) ≤ 64 → (IntKind.i64.wrap (2 ^ (l0_0.length : Int).toNat)) = ji15 := fun hle_ => by have h_ := hji15z hle_; rw [Int.one_mul] at h_; exact h_
                      have hji15y : (wrap64 (1 * 2 ^ min (l0_0.length : Int).toNat 64)) = ji15 := (i64_w _).symm.trans hji15_
                      have hji15x : (l0_0.length : Int) ≤ 64 → (wrap64 (1 * 2 ^ (l0_0.length : Int).toNat)) = ji15 := fun h_ => (i64_w _).symm.trans (hji15z h_)
                      by_cases c16 : (rd l0_0 x25_2) ≥ (ji15)
                      · rw [if_pos c16] at H
                        have c16b0 : decide ((ji15) ≤ (rd l0_0 x25_2)) = true := decide_eq_true c16
                        clear c16
                        obtain rfl := Option.some.inj H
                        have p121 : 0 ≤ (x25_2 : Int) := of_decide_eq_true (by first | (with_reducible assumption) | assumption)
                        have q121 : x25_2 < (l0_0.length : Int) := of_decide_eq_true (by first | (with_reducible assumption) | assumption)
                        obtain ⟨ad121, e121, hx121_0⟩ := Kd.at_int HR0_0.out x25_2 p121 q121
                        cases e121
                        replace hx121_0 := (HB.out.cell (World.block_lt_of_cell? w _ hx121_0)).trans hx121_0
                        replace p121 := eq_true p121
                        replace q121 := eq_true q121
                        go_wp2
                        go_ret
                        exact ⟨by first | rfl | (simp [errW_none, errW_some] <;> rfl) | (simp only [← hji15]; first | rfl | (simp [errW_none, errW_some] <;> rfl)) | (simp [*, errW_none, errW_some] <;> rfl), by repeat (first | (with_reducible first | exact HB.out | apply below_alloc | apply pw_below_drewN | apply below_drew1 | refine below_set ?_ GE120.out) | exact HB.out)⟩
                      · rw [if_neg c16] at H
                        have c16b0 : decide ((ji15) ≤ (rd l0_0 x25_2)) = false := decide_eq_false c16
                        clear c16
                        by_cases c17 : x25_2 < (l0_1.length : Int)
                        · rw [if_pos c17] at H
                          have c17b0 : decide (x25_2 < (l0_1.length : Int)) = true := decide_eq_true c17
                          clear c17
                          by_cases c18 : (rd l0_1 x25_2) < 0
                          · rw [if_pos c18] at H
                            have c18b0 : decide ((rd l0_1 x25_2) < 0) = true := decide_eq_true c18
                            clear c18
                            obtain rfl := Option.some.inj H
                            have p121 : 0 ≤ (x25_2 : Int) := of_decide_eq_true (by first | (with_reducible assumption) | assumption)
                            have q121 : x25_2 < (l0_0.length : Int) := of_decide_eq_true (by first | (with_reducible assumption) | assumption)
                            obtain ⟨ad121, e121, hx121_0⟩ := Kd.at_int HR0_0.out x25_2 p121 q121
                            cases e121
                            replace hx121_0 := (HB.out.cell (World.block_lt_of_cell? w _ hx121_0)).trans hx121_0
                            replace p121 := eq_true p121
                            replace q121 := eq_true q121
                            have hcz19_0 : wr.cell? ⟨gb120, 0, none⟩ = some (.slice (some ad121) l0_0.length c0_0) := (blk_cell BK120.out 0).trans rfl
                            have hcz19_1 : wr.cell? ⟨gb120, 1, none⟩ = some (.slice A0_1 l0_1.length c0_1) := (blk_cell BK120.out 1).trans rfl
                            have hfz19_0 := blk_frozen BK120.out 0
                            have hfz19_1 := blk_frozen BK120.out 1
                            have p122 : 0 ≤ (x25_2 : Int) := of_decide_eq_true (by first | (with_reducible assumption) | assumption)
                            have q122 : x25_2 < (l0_1.length : Int) := of_decide_eq_true (by first | (with_reducible assumption) | assumption)
                            obtain ⟨ad122, e122, hx122_0⟩ := Kd.at_int HR0_1.out x25_2 p122 q122
                            cases e122
                            replace hx122_0 := (HB.out.cell (World.block_lt_of_cell? w _ hx122_0)).trans hx122_0
                            replace p122 := eq_true p122
                            replace q122 := eq_true q122
                            go_wp2
                            go_ret
                            exact ⟨by first | rfl | (simp [errW_none, errW_some] <;> rfl) | (simp only [← hji15]; first | rfl | (simp [errW_none, errW_some] <;> rfl)) | (simp [*, errW_none, errW_some] <;> rfl), by repeat (first | (with_reducible first | exact HB.out | apply below_alloc | apply pw_below_drewN | apply below_drew1 | refine below_set ?_ GE120.out) | exact HB.out)⟩
                          · rw [if_neg c18] at H
                            have c18b0 : decide ((rd l0_1 x25_2) < 0) = false := decide_eq_false c18
                            clear c18
                            by_cases c20 : (rd l0_1 x25_2) > 15
                            · rw [if_pos c20] at H
                              have c20b0 : decide (15 < (rd l0_1 x25_2)) = true := decide_eq_true c20
                              clear c20
                              obtain rfl := Option.some.inj H
                              have p121 : 0 ≤ (x25_2 : Int) := of_decide_eq_true (by first | (with_reducible assumption) | assumption)
                              have q121 : x25_2 < (l0_0.length : Int) := of_decide_eq_true (by first | (with_reducible assumption) | assumption)
                              obtain ⟨ad121, e121, hx121_0⟩ := Kd.at_int HR0_0.out x25_2 p121 q121
                              cases e121
                              replace hx121_0 := (HB.out.cell (World.block_lt_of_cell? w _ hx121_0)).trans hx121_0
                              replace p121 := eq_true p121
                              replace q121 := eq_true q121
                              have hcz21_0 : wr.cell? ⟨gb120, 0, none⟩ = some (.slice (some ad121) l0_0.length c0_0) := (blk_cell BK120.out 0).trans rfl
                              have hcz21_1 : wr.cell? ⟨gb120, 1, none⟩ = some (.slice A0_1 l0_1.length c0_1) := (blk_cell BK120.out 1).trans rfl
                              have hfz21_0 := blk_frozen BK120.out 0
                              have hfz21_1 := blk_frozen BK120.out 1
                              have p122 : 0 ≤ (x25_2 : Int) := of_decide_eq_true (by first | (with_reducible assumption) | assumption)
                              have q122 : x25_2 < (l0_1.length : Int) := of_decide_eq_true (by first | (with_reducible assumption) | assumption)
                              obtain ⟨ad122, e122, hx122_0⟩ := Kd.at_int HR0_1.out x25_2 p122 q122
                              cases e122
                              replace hx122_0 := (HB.out.cell (World.block_lt_of_cell? w _ hx122_0)).trans hx122_0
                              replace p122 := eq_true p122
                              replace q122 := eq_true q122
                              have p123 : 0 ≤ (x25_2 : Int) := of_decide_eq_true (by first | (with_reducible assumption) | assumption)
                              have q123 : x25_2 < (l0_1.length : Int) := of_decide_eq_true (by first | (with_reducible assumption) | assumption)
                              obtain ⟨ad123, e123, hx123_0⟩ := Kd.at_int HR0_1.out x25_2 p123 q123
                              obtain rfl : ad122 = ad123 := (by injection e123)
                              replace hx123_0 := (HB.out.cell (World.block_lt_of_cell? w _ hx123_0)).trans hx123_0
                              replace p123 := eq_true p123
                              replace q123 := eq_true q123
                              go_wp2
                              go_ret
                              exact ⟨by first | rfl | (simp [errW_none, errW_some] <;> rfl) | (simp only [← hji15]; first | rfl | (simp [errW_none, errW_some] <;> rfl)) | (simp [*, errW_none, errW_some] <;> rfl), by repeat (first | (with_reducible first | exact HB.out | apply below_alloc | apply pw_below_drewN | apply below_drew1 | refine below_set ?_ GE120.out) | exact HB.out)⟩
                            · rw [if_neg c20] at H
                              have c20b0 : decide (15 < (rd l0_1 x25_2)) = false := decide_eq_false c20
                              clear c20
                              have H' := Aside0.mk H
                              clear H
                              have p121 : 0 ≤ (x25_2 : Int) := of_decide_eq_true (by first | (with_reducible assumption) | assumption)
                              have q121 : x25_2 < (l0_0.length : Int) := of_decide_eq_true (by first | (with_reducible assumption) | assumption)
                              obtain ⟨ad121, e121, hx121_0⟩ := Kd.at_int HR0_0.out x25_2 p121 q121
                              cases e121
                              replace hx121_0 := (HB.out.cell (World.block_lt_of_cell? w _ hx121_0)).trans hx121_0
                              replace p121 := eq_true p121
                              replace q121 := eq_true q121
                              have hcz22_0 : wr.cell? ⟨gb120, 0, none⟩ = some (.slice (some ad121) l0_0.length c0_0) := (blk_cell BK120.out 0).trans rfl
                              have hcz22_1 : wr.cell? ⟨gb120, 1, none⟩ = some (.slice A0_1 l0_1.length c0_1) := (blk_cell BK120.out 1).trans rfl
                              have hfz22_0 := blk_frozen BK120.out 0
                              have hfz22_1 := blk_frozen BK120.out 1
                              have p122 : 0 ≤ (x25_2 : Int) := of_decide_eq_true (by first | (with_reducible assumption) | assumption)
                              have q122 : x25_2 < (l0_1.length : Int) := of_decide_eq_true (by first | (with_reducible assumption) | assumption)
                              obtain ⟨ad122, e122, hx122_0⟩ := Kd.at_int HR0_1.out x25_2 p122 q122
                              cases e122
                              replace hx122_0 := (HB.out.cell (World.block_lt_of_cell? w _ hx122_0)).trans hx122_0
                              replace p122 := eq_true p122
                              replace q122 := eq_true q122
                              have p123 : 0 ≤ (x25_2 : Int) := of_decide_eq_true (by first | (with_reducible assumption) | assumption)
                              have q123 : x25_2 < (l0_1.length : Int) := of_decide_eq_true (by first | (with_reducible assumption) | assumption)
                              obtain ⟨ad123, e123, hx123_0⟩ := Kd.at_int HR0_1.out x25_2 p123 q123
                              obtain rfl : ad122 = ad123 := (by injection e123)
                              replace hx123_0 := (HB.out.cell (World.block_lt_of_cell? w _ hx123_0)).trans hx123_0
                              replace p123 := eq_true p123
                              replace q123 := eq_true q123
                              go_wp2
                              go_roundg k2
                              case measure => have := HJ1.out; have := HK2.out; omega
                              case rel => exact ⟨(wrap64 (x25_2 + 1)), (by first | rfl | (simp; done) | (simp [*]; done)), H', ⟨by have := HJ1.out; have := HK2.out; omega⟩, ⟨by (with_reducible repeat (first | refine blk_drewN ?_ _ | refine blk_drew ?_ | refine blk_alloc ?_ _)); exact BK120.out⟩, ⟨by repeat (first | (with_reducible first | exact HB.out | apply below_alloc | apply pw_below_drewN | apply below_drew1 | refine below_set ?_ GE120.out) | exact HB.out)⟩⟩
                        · rw [if_neg c17] at H
                          exact absurd H (by simp)
                    · rw [if_neg c14] at H
                      exact absurd H (by simp)
                · rw [if_neg c12] at H
                  exact absurd H (by simp)
              · rw [if_neg c11] at H
                exact absurd H (by simp)
            · rw [if_neg c10] at H
              have c10b0 : decide (x25_2 < (l0_0.length : Int)) = false := decide_eq_false c10
              clear c10
              obtain rfl := Option.some.inj H
              go_wp2
              go_ret
              exact ⟨by first | rfl | (simp [errW_none, errW_some] <;> rfl) | (simp [*, errW_none, errW_some] <;> rfl), by repeat (first | (with_reducible first | exact HB.out | apply below_alloc | apply pw_below_drewN | apply below_drew1 | refine below_set ?_ GE120.out) | exact HB.out)⟩
def comfitlaw08_awake.f (k : Nat)  : Option (Bool) := (Go.Proofs.YtjffhhalmicodaaDoor.X.fixes_Holds.f k (([2, 1] : List Int)) (([0, 1] : List Int)) (⟨#[48]⟩ : ByteArray)).bind fun bt130 => (if bt130.1 = 2 then (some (bt130.2 == 0)) else (some false))
theorem comfitlaw08_awake.mono : ∀ k, LeO (comfitlaw08_awake.f k ) (comfitlaw08_awake.f (k + 1) ) := by
  intro  k
  unfold comfitlaw08_awake.f
  repeat' first
      | (with_reducible exact Go.Proofs.YtjffhhalmicodaaDoor.X.fixes_Holds.mono _ _ _ _)
      | (with_reducible exact LeO.refl _)
      | (with_reducible exact LeO.none _)
      | (with_reducible refine LeO.ite ?_ ?_)
      | (with_reducible refine LeO.bind ?_ (fun _ => ?_))
      | exact Go.Proofs.YtjffhhalmicodaaDoor.X.fixes_Holds.mono _ _ _ _
      | exact LeO.none _
      | refine LeO.ite ?_ ?_
      | refine LeO.bind ?_ (fun _ => ?_)
set_option maxHeartbeats 8000000 in
set_option maxRecDepth 100000 in
theorem comfitlaw08_awake.calls (k : Nat)  (r : Bool) (w : World) (h : comfitlaw08_awake.f k  = some r) :
    Calls Tryd.prog 10 #[] w fun e w' => e = .returned (.bool r) ∧ Below w.heap.size w w' := by
  have hu28 := Tryd.underlying32
  have HB := Aside0.mk (Below.refl w.heap.size w)
  have H : ((Go.Proofs.YtjffhhalmicodaaDoor.X.fixes_Holds.f k (([2, 1] : List Int)) (([0, 1] : List Int)) (⟨#[48]⟩ : ByteArray)).bind fun bt130 => (if bt130.1 = 2 then (some (bt130.2 == 0)) else (some false))) = some r := h
  clear h
  obtain ⟨y124, hy124⟩ : ∃ y_ : List Int, y_ = (([2, 1] : List Int)) := ⟨_, rfl⟩
  replace H : ((Go.Proofs.YtjffhhalmicodaaDoor.X.fixes_Holds.f k y124 (([0, 1] : List Int)) (⟨#[48]⟩ : ByteArray)).bind fun bt130 => (if bt130.1 = 2 then (some (bt130.2 == 0)) else (some false))) = some r := by first | (rw [hy124]; with_reducible exact H) | (have H2_ := (Option.bind_some _ _).symm.trans H; rw [hy124]; with_reducible exact H2_) | (have H2_ := (Option.bind_some _ _).symm.trans H; with_reducible exact H2_) | with_reducible exact H | (rw [hy124]; exact H) | exact H
  have Ny124 := Aside0.mk hy124
  clear hy124
  obtain ⟨y127, hy127⟩ : ∃ y_ : List Int, y_ = (([0, 1] : List Int)) := ⟨_, rfl⟩
  replace H : ((Go.Proofs.YtjffhhalmicodaaDoor.X.fixes_Holds.f k y124 y127 (⟨#[48]⟩ : ByteArray)).bind fun bt130 => (if bt130.1 = 2 then (some (bt130.2 == 0)) else (some false))) = some r := by first | (rw [hy127]; with_reducible exact H) | (have H2_ := (Option.bind_some _ _).symm.trans H; rw [hy127]; with_reducible exact H2_) | (have H2_ := (Option.bind_some _ _).symm.trans H; with_reducible exact H2_) | with_reducible exact H | (rw [hy127]; exact H) | exact H
  have Ny127 := Aside0.mk hy127
  clear hy127
  replace H := Option.bind_eq_some_iff.mp H
  obtain ⟨⟨t130, t131⟩, A10, H⟩ := H
  replace H : (if t130 = 2 then (some (t131 == 0)) else (some false)) = some r := H
  have A1 := Aside0.mk A10
  clear A10
  by_cases c2 : t130 = 2
  · rw [if_pos c2] at H
    have c2b0 : (t130 == 2) = true := beq_iff_eq.mpr c2
    have c2b1 : (t130 != 2) = false := bne_eq_false_iff_eq.mpr c2
    clear c2
    obtain rfl := Option.some.inj H
    go_enter Tryd.func10, Tryd.ntmps10
    go_wp2_with (first | ((with_reducible refine gate_dst (N := 4) rfl ?_); refine Kd.R_lit (Kd.int .i64) _ 3 ?hg (N := 4) ?hd (xs := ([2, 1] : List Int)) (inner := [.int .i64 2, .int .i64 1]) (ok := fun _ => True) (okp := fun _ => True) ?hr ?hp (fun _ hk => hk) trivial (Below.refl _ _) (Nat.le_refl _) (by simp) ?_; (case hd => rfl); (case hg => rfl); (case hr => first | (go_simp; done) | (go_simp; rfl)); (case hp => exact (Reps.one (show Kd.M (Kd.int .i64) _ _ _ 2 [.int .i64 2] from rfl) (Reps.one (show Kd.M (Kd.int .i64) _ _ _ 1 [.int .i64 1] from rfl) (Reps.none _ _)))); intro v125 w3 ho4 hb hg_ hnew_; clear hg_ hnew_; (first | rw [← Ny124.out] at ho4 | (simp only [Int.reduceToNat] at ho4; rw [← Ny124.out] at ho4)); have n0_ := Aside0.mk (Kd.R_lower ho4 (below_size (by repeat (first | (with_reducible first | exact HB.out | apply below_alloc | apply pw_below_drewN | apply below_drew1) | exact HB.out)))); have n1_ := Aside0.mk (below_step (by repeat (first | (with_reducible first | exact HB.out | apply below_alloc | apply pw_below_drewN | apply below_drew1) | exact HB.out)) hb); clear HB; have HO126 := n0_; have HB := n1_; clear n0_ n1_; clear hb ho4) | ((with_reducible refine gate_dst (N := 5) rfl ?_); refine Kd.R_lit (Kd.int .i64) _ 3 ?hg (N := 5) ?hd (xs := ([0, 1] : List Int)) (inner := [.int .i64 0, .int .i64 1]) (ok := fun _ => True) (okp := fun _ => True) ?hr ?hp (fun _ hk => hk) trivial (Below.refl _ _) (Nat.le_refl _) (by simp) ?_; (case hd => rfl); (case hg => rfl); (case hr => first | (go_simp; done) | (go_simp; rfl)); (case hp => exact (Reps.one (show Kd.M (Kd.int .i64) _ _ _ 0 [.int .i64 0] from rfl) (Reps.one (show Kd.M (Kd.int .i64) _ _ _ 1 [.int .i64 1] from rfl) (Reps.none _ _)))); intro v128 w5 ho6 hb hg_ hnew_; clear hg_ hnew_; (first | rw [← Ny127.out] at ho6 | (simp only [Int.reduceToNat] at ho6; rw [← Ny127.out] at ho6)); have n0_ := Aside0.mk (Kd.R_elder' (by (with_reducible repeat (first | apply Kd.R_alloc | apply Kd.R_drewN | apply Kd.R_drew)); exact HO126.out) (Kd.R_base ho6) hb); have n1_ := Aside0.mk (Kd.R_lower (Kd.R_new' ho6 (Kd.R_lt (by (with_reducible repeat (first | apply Kd.R_alloc | apply Kd.R_drewN | apply Kd.R_drew)); exact HO126.out))) (below_size (by repeat (first | (with_reducible first | exact HB.out | apply below_alloc | apply pw_below_drewN | apply below_drew1) | exact HB.out)))); have n2_ := Aside0.mk (below_step (by repeat (first | (with_reducible first | exact HB.out | apply below_alloc | apply pw_below_drewN | apply below_drew1) | exact HB.out)) hb); clear HO126; clear HB; have HO126 := n0_; have HO129 := n1_; have HB := n2_; clear n0_ n1_ n2_; clear hb ho6; obtain ⟨Ao7, co7, eo7⟩ := Kd.R_slice HO129.out; subst eo7; obtain ⟨Ao8, co8, eo8⟩ := Kd.R_slice HO126.out; subst eo8) | ((with_reducible refine gate_callee (f := 8) rfl ?_); refine goesL_ (some 7) rfl rfl Tryd.func8 (by kernel_rfl) rfl #[.agg #[.slice Ao8 y124.length co8, .slice Ao7 y127.length co7], .string (⟨#[48]⟩ : ByteArray)] rfl (by (try simp only [List.map_toArray, List.map_cons, List.map_nil]); first | done | rfl | (simp only [List.length_drop, List.length_take]; rfl)) ?_; (with_reducible refine (Go.Proofs.YtjffhhalmicodaaDoor.X.fixes_Holds.calls k _ _ y124 _ _ y127 (⟨#[48]⟩ : ByteArray) t130 t131 _ ?side1 ?side2 ?side3 ?side4 A1.out).mono ?_); (case side1 => repeat (first | exact (Kd.R_reads' HO126.out).2.2 | (with_reducible refine Kd.C_alloc ?_ _) | (with_reducible refine Kd.C_drewN ?_ _) | (with_reducible refine Kd.C_drew ?_))); (case side2 => exact (Kd.R_reads' HO126.out).2.1); (case side3 => repeat (first | exact (Kd.R_reads' HO129.out).2.2 | (with_reducible refine Kd.C_alloc ?_ _) | (with_reducible refine Kd.C_drewN ?_ _) | (with_reducible refine Kd.C_drew ?_))); (case side4 => exact (Kd.R_reads' HO129.out).2.1); rintro e w9 ⟨rfl, hb⟩; refine ⟨_, rfl, ?_⟩; have n0_ := Aside0.mk (Kd.R_below (by (with_reducible repeat (first | apply Kd.R_alloc | apply Kd.R_drewN | apply Kd.R_drew)); exact HO126.out) hb); have n1_ := Aside0.mk (Kd.R_below (by (with_reducible repeat (first | apply Kd.R_alloc | apply Kd.R_drewN | apply Kd.R_drew)); exact HO129.out) hb); have n2_ := Aside0.mk (below_step (by repeat (first | (with_reducible first | exact HB.out | apply below_alloc | apply pw_below_drewN | apply below_drew1) | exact HB.out)) hb); clear HO126; clear HO129; clear HB; have HO126 := n0_; have HO129 := n1_; have HB := n2_; clear n0_ n1_ n2_; (try clear hb); (try clear hb2); (try clear hk); (try clear hi)))
    go_ret
    exact ⟨by first | rfl | (simp [errW_none, errW_some] <;> rfl) | (simp [*, errW_none, errW_some] <;> rfl), by repeat (first | (with_reducible first | exact HB.out | apply below_alloc | apply pw_below_drewN | apply below_drew1) | exact HB.out)⟩
  · rw [if_neg c2] at H
    have c2b0 : (t130 == 2) = false := beq_eq_false_iff_ne.mpr c2
    have c2b1 : (t130 != 2) = true := bne_iff_ne.mpr c2
    obtain rfl := Option.some.inj H
    go_enter Tryd.func10, Tryd.ntmps10
    go_wp2_with (first | ((with_reducible refine gate_dst (N := 4) rfl ?_); refine Kd.R_lit (Kd.int .i64) _ 3 ?hg (N := 4) ?hd (xs := ([2, 1] : List Int)) (inner := [.int .i64 2, .int .i64 1]) (ok := fun _ => True) (okp := fun _ => True) ?hr ?hp (fun _ hk => hk) trivial (Below.refl _ _) (Nat.le_refl _) (by simp) ?_; (case hd => rfl); (case hg => rfl); (case hr => first | (go_simp; done) | (go_simp; rfl)); (case hp => exact (Reps.one (show Kd.M (Kd.int .i64) _ _ _ 2 [.int .i64 2] from rfl) (Reps.one (show Kd.M (Kd.int .i64) _ _ _ 1 [.int .i64 1] from rfl) (Reps.none _ _)))); intro v125 w10 ho11 hb hg_ hnew_; clear hg_ hnew_; (first | rw [← Ny124.out] at ho11 | (simp only [Int.reduceToNat] at ho11; rw [← Ny124.out] at ho11)); have n0_ := Aside0.mk (Kd.R_lower ho11 (below_size (by repeat (first | (with_reducible first | exact HB.out | apply below_alloc | apply pw_below_drewN | apply below_drew1) | exact HB.out)))); have n1_ := Aside0.mk (below_step (by repeat (first | (with_reducible first | exact HB.out | apply below_alloc | apply pw_below_drewN | apply below_drew1) | exact HB.out)) hb); clear HB; have HO126 := n0_; have HB := n1_; clear n0_ n1_; clear hb ho11) | ((with_reducible refine gate_dst (N := 5) rfl ?_); refine Kd.R_lit (Kd.int .i64) _ 3 ?hg (N := 5) ?hd (xs := ([0, 1] : List Int)) (inner := [.int .i64 0, .int .i64 1]) (ok := fun _ => True) (okp := fun _ => True) ?hr ?hp (fun _ hk => hk) trivial (Below.refl _ _) (Nat.le_refl _) (by simp) ?_; (case hd => rfl); (case hg => rfl); (case hr => first | (go_simp; done) | (go_simp; rfl)); (case hp => exact (Reps.one (show Kd.M (Kd.int .i64) _ _ _ 0 [.int .i64 0] from rfl) (Reps.one (show Kd.M (Kd.int .i64) _ _ _ 1 [.int .i64 1] from rfl) (Reps.none _ _)))); intro v128 w12 ho13 hb hg_ hnew_; clear hg_ hnew_; (first | rw [← Ny127.out] at ho13 | (simp only [Int.reduceToNat] at ho13; rw [← Ny127.out] at ho13)); have n0_ := Aside0.mk (Kd.R_elder' (by (with_reducible repeat (first | apply Kd.R_alloc | apply Kd.R_drewN | apply Kd.R_drew)); exact HO126.out) (Kd.R_base ho13) hb); have n1_ := Aside0.mk (Kd.R_lower (Kd.R_new' ho13 (Kd.R_lt (by (with_reducible repeat (first | apply Kd.R_alloc | apply Kd.R_drewN | apply Kd.R_drew)); exact HO126.out))) (below_size (by repeat (first | (with_reducible first | exact HB.out | apply below_alloc | apply pw_below_drewN | apply below_drew1) | exact HB.out)))); have n2_ := Aside0.mk (below_step (by repeat (first | (with_reducible first | exact HB.out | apply below_alloc | apply pw_below_drewN | apply below_drew1) | exact HB.out)) hb); clear HO126; clear HB; have HO126 := n0_; have HO129 := n1_; have HB := n2_; clear n0_ n1_ n2_; clear hb ho13; obtain ⟨Ao14, co14, eo14⟩ := Kd.R_slice HO129.out; subst eo14; obtain ⟨Ao15, co15, eo15⟩ := Kd.R_slice HO126.out; subst eo15) | ((with_reducible refine gate_callee (f := 8) rfl ?_); refine goesL_ (some 7) rfl rfl Tryd.func8 (by kernel_rfl) rfl #[.agg #[.slice Ao15 y124.length co15, .slice Ao14 y127.length co14], .string (⟨#[48]⟩ : ByteArray)] rfl (by (try simp only [List.map_toArray, List.map_cons, List.map_nil]); first | done | rfl | (simp only [List.length_drop, List.length_take]; rfl)) ?_; (with_reducible refine (Go.Proofs.YtjffhhalmicodaaDoor.X.fixes_Holds.calls k _ _ y124 _ _ y127 (⟨#[48]⟩ : ByteArray) t130 t131 _ ?side1 ?side2 ?side3 ?side4 A1.out).mono ?_); (case side1 => repeat (first | exact (Kd.R_reads' HO126.out).2.2 | (with_reducible refine Kd.C_alloc ?_ _) | (with_reducible refine Kd.C_drewN ?_ _) | (with_reducible refine Kd.C_drew ?_))); (case side2 => exact (Kd.R_reads' HO126.out).2.1); (case side3 => repeat (first | exact (Kd.R_reads' HO129.out).2.2 | (with_reducible refine Kd.C_alloc ?_ _) | (with_reducible refine Kd.C_drewN ?_ _) | (with_reducible refine Kd.C_drew ?_))); (case side4 => exact (Kd.R_reads' HO129.out).2.1); rintro e w16 ⟨rfl, hb⟩; refine ⟨_, rfl, ?_⟩; have n0_ := Aside0.mk (Kd.R_below (by (with_reducible repeat (first | apply Kd.R_alloc | apply Kd.R_drewN | apply Kd.R_drew)); exact HO126.out) hb); have n1_ := Aside0.mk (Kd.R_below (by (with_reducible repeat (first | apply Kd.R_alloc | apply Kd.R_drewN | apply Kd.R_drew)); exact HO129.out) hb); have n2_ := Aside0.mk (below_step (by repeat (first | (with_reducible first | exact HB.out | apply below_alloc | apply pw_below_drewN | apply below_drew1) | exact HB.out)) hb); clear HO126; clear HO129; clear HB; have HO126 := n0_; have HO129 := n1_; have HB := n2_; clear n0_ n1_ n2_; (try clear hb); (try clear hb2); (try clear hk); (try clear hi)))
    go_ret
    exact ⟨by first | rfl | (simp [errW_none, errW_some] <;> rfl) | (simp [*, errW_none, errW_some] <;> rfl), by repeat (first | (with_reducible first | exact HB.out | apply below_alloc | apply pw_below_drewN | apply below_drew1) | exact HB.out)⟩
end Go.Proofs.YtjffhhalmicodaaDoor.PB
end
end

section
section
set_option linter.unusedVariables false
set_option linter.unusedSimpArgs false
namespace Go.Proofs.YtjffhhalmicodaaDoor.L
open Go.RowKit Go.Proofs.YtjffhhalmicodaaDoorW.PrintWords Go.Proofs.YtjffhhalmicodaaDoorW.PrintLast Go.Proofs.YtjffhhalmicodaaDoorW.PrintMore Go.Proofs.YtjffhhalmicodaaDoor.X
open Go.Proofs.YtjffhhalmicodaaDoor.PB (comfitref08_Is.f comfitref08_Valid.f comfitref08_Valid.l0 comfitref08_Valid.j0)
open Go.Proofs.YtjffhhalmicodaaDoor.PA (fixes_Works_valid.f comfitlaw08_Of.f comfitlaw08_list.f comfitlaw08_text.f)
theorem Is_some (a : ByteArray) (h : a.size ≤ 40) : ∃ k, comfitref08_Is.f k a = some (whole (cs a)).isSome := by
  have hd : (cs a).drop 0 = cs a := rfl
  have hm : MayOk 0 [] := ⟨inS_zero 3, fun c h1 h2 => by simp [tb_zero]⟩
  obtain ⟨k, e, d, h1, h2, h3, h4⟩ := read_all a (by omega) ((cs a).length + 1) 0 0 [] (cs a) hd (by omega) (by omega) hm
  refine ⟨k, ?_⟩
  rw [comfitref08_Is.f, if_neg (by omega)]
  rw [show ((0 : Nat) : Int) = 0 from rfl] at h1
  rw [h1]
  simp only [Option.bind_some, Option.some.injEq]
  unfold whole
  cases hp : parse ((cs a).length + 1) (cs a) [] with
  | none =>
    rw [hp] at h4
    obtain rfl : e = -1 := h4
    simp
  | some p =>
    rw [hp] at h4
    obtain ⟨q1, q2⟩ := (h4 : e = (a.size : Int) - p.2.length ∧ d = dep p.1)
    simp only [Option.bind_some]
    by_cases hn : p.2 = []
    · rw [if_pos hn]
      rw [hn] at q1
      simp at q1
      simp [q1]
    · rw [if_neg hn]
      have : p.2.length ≠ 0 := fun h => hn (List.eq_nil_of_length_eq_zero h)
      have : ¬ e = (a.size : Int) := by omega
      simp [this]
theorem Is_long (a : ByteArray) (h : ¬ a.size ≤ 40) (k : Nat) : comfitref08_Is.f k a = some false := by
  rw [comfitref08_Is.f, if_pos (by omega)]
def IsB (a : ByteArray) : Bool := (wholeS 40 a).isSome
theorem Is_eq (a : ByteArray) : ∃ k, comfitref08_Is.f k a = some (IsB a) := by
  unfold IsB wholeS
  by_cases h : a.size ≤ 40
  · rw [if_pos h]; exact Is_some a h
  · rw [if_neg h]; exact ⟨0, Is_long a h 0⟩
def txt (a : ByteArray) : ByteArray := if a.size ≤ 50 then a else a.extract 0 50
theorem text_eq (a : ByteArray) : comfitlaw08_text.f a = some (txt a) := by
  unfold comfitlaw08_text.f txt
  by_cases h : a.size ≤ 50
  · have e : mn (a.size : Int) 50 = a.size := by unfold mn; split <;> omega
    rw [e, if_pos (by omega), if_pos (by omega), if_pos h]
    simp
  · have e : mn (a.size : Int) 50 = 50 := by unfold mn; split <;> omega
    rw [e, if_pos (by omega), if_pos (by omega), if_neg h]
    rfl
theorem list_eq (l : List Int) : comfitlaw08_list.f l = some (l.take 9) := by
  unfold comfitlaw08_list.f slices_Clone.f
  by_cases h : l.length ≤ 9
  · have e : mn (l.length : Int) 9 = l.length := by unfold mn; split <;> omega
    rw [e, if_pos (by omega), if_pos (by omega), if_pos (by simp; omega)]
    simp only [Option.bind_some, Option.some.injEq]
    rw [show ((l.length : Int)).toNat = l.length by omega, List.take_of_length_le (by omega), List.take_of_length_le h]
  · have e : mn (l.length : Int) 9 = 9 := by unfold mn; split <;> omega
    rw [e, if_pos (by omega), if_pos (by omega), if_pos (by simp; omega)]
    rfl
theorem Of_eq (nx mk : List Int) : comfitlaw08_Of.f nx mk = some (nx.take 9, mk.take 9) := by
  unfold comfitlaw08_Of.f
  rw [list_eq, list_eq]
  rfl
theorem take_of {nx mk : List Int} (h : VW nx mk) : nx.take 9 = nx ∧ mk.take 9 = mk := by
  have := h.le
  have := h.len
  exact ⟨List.take_of_length_le (by omega), List.take_of_length_le (by omega)⟩
theorem minTo_ge {l : List Int} {b : Int} : ∀ n : Nat, b ≤ minTo l n ↔ ∀ i : Nat, i ≤ n → b ≤ rd l i := by
  intro n
  induction n with
  | zero =>
    exact ⟨fun h i hi => by obtain rfl : i = 0 := by omega
                            exact h, fun h => h 0 (Nat.le_refl _)⟩
  | succ n ih =>
    have e : b ≤ minTo l (n + 1) ↔ b ≤ minTo l n ∧ b ≤ rd l ((n : Int) + 1) := by
      show b ≤ mn _ _ ↔ _
      unfold mn; split <;> omega
    rw [e, ih]
    constructor
    · rintro ⟨h1, h2⟩ i hi
      rcases Nat.lt_or_ge i (n + 1) with h | h
      · exact h1 i (by omega)
      · obtain rfl : i = n + 1 := by omega
        exact h2
    · exact fun h => ⟨fun i hi => h i (by omega), h (n + 1) (Nat.le_refl _)⟩
theorem maxTo_lt {l : List Int} {b : Int} : ∀ n : Nat, maxTo l n < b ↔ ∀ i : Nat, i ≤ n → rd l i < b := by
  intro n
  induction n with
  | zero =>
    exact ⟨fun h i hi => by obtain rfl : i = 0 := by omega
                            exact h, fun h => h 0 (Nat.le_refl _)⟩
  | succ n ih =>
    have e : maxTo l (n + 1) < b ↔ maxTo l n < b ∧ rd l ((n : Int) + 1) < b := by
      show mx _ _ < b ↔ _
      unfold mx; split <;> omega
    rw [e, ih]
    constructor
    · rintro ⟨h1, h2⟩ i hi
      rcases Nat.lt_or_ge i (n + 1) with h | h
      · exact h1 i (by omega)
      · obtain rfl : i = n + 1 := by omega
        exact h2
    · exact fun h => ⟨fun i hi => h i (by omega), h (n + 1) (Nat.le_refl _)⟩
theorem shl_len {l : List Int} (h : l.length ≤ 6) : shl .i64 1 (l.length : Int) = 2 ^ l.length := by
  rw [shl1 (by omega)]
  simp
theorem valid_true {nx mk : List Int} (h : VW nx mk) : fixes_Works_valid.f nx mk = some true := by
  have h1 := h.pos
  have h2 := h.le
  have h3 := h.len
  unfold fixes_Works_valid.f slices_Min.f slices_Max.f
  rw [if_pos (by omega), if_pos (by omega), if_pos (by omega), if_pos (by omega)]
  simp only [Option.bind_some]
  rw [if_pos ((minTo_ge _).2 fun i hi => (h.next i (by omega)).1)]
  rw [if_pos (by omega)]
  simp only [Option.bind_some]
  rw [if_pos (by rw [shl_len h2]; exact (maxTo_lt _).2 fun i hi => (h.next i (by omega)).2)]
  rw [if_pos (by omega)]
  simp only [Option.bind_some]
  rw [if_pos ((minTo_ge _).2 fun i hi => (h.marks i (by omega)).1)]
  rw [if_pos (by omega)]
  simp only [Option.bind_some]
  congr 1
  refine decide_eq_true ((maxTo_lt _).2 fun i hi => ?_)
  have := (h.marks i (by omega)).2
  omega
theorem valid_false {nx mk : List Int} (h : ¬ VW nx mk) : fixes_Works_valid.f nx mk = some false := by
  unfold fixes_Works_valid.f slices_Min.f slices_Max.f
  by_cases h1 : (nx.length : Int) ≥ 1
  · rw [if_pos h1]
    by_cases h2 : (nx.length : Int) ≤ 6
    · rw [if_pos h2]
      by_cases h3 : (mk.length : Int) = (nx.length : Int)
      · rw [if_pos h3, if_pos (by omega)]
        simp only [Option.bind_some]
        by_cases h4 : minTo nx (nx.length - 1) ≥ 0
        · rw [if_pos h4, if_pos (by omega)]
          simp only [Option.bind_some]
          by_cases h5 : maxTo nx (nx.length - 1) < shl .i64 1 (nx.length : Int)
          · rw [if_pos h5, if_pos (by omega)]
            simp only [Option.bind_some]
            by_cases h6 : minTo mk (mk.length - 1) ≥ 0
            · rw [if_pos h6, if_pos (by omega)]
              simp only [Option.bind_some]
              congr 1
              refine decide_eq_false fun h7 => h ?_
              rw [shl_len (by omega)] at h5
              exact ⟨by omega, by omega, by omega, fun i hi => ⟨(minTo_ge _).1 h4 i (by omega), (maxTo_lt _).1 h5 i (by omega)⟩, fun i hi => ⟨(minTo_ge _).1 h6 i (by omega), by have := (maxTo_lt _).1 h7 i (by omega); omega⟩⟩
            · rw [if_neg h6]
          · rw [if_neg h5]
        · rw [if_neg h4]
      · rw [if_neg h3]
    · rw [if_neg h2]
  · rw [if_neg h1]
theorem Valid_loop {nx mk : List Int} (h1 : nx.length ≤ 6) (h2 : mk.length = nx.length) : ∀ d i : Nat, i + d = nx.length → ∃ k r, comfitref08_Valid.l0 k (nx.length : Int) nx (nx.length : Int) (i : Int) nx mk = some r ∧ (r = true ↔ ∀ j : Nat, i ≤ j → j < nx.length → InS nx.length (rd nx j) ∧ 0 ≤ rd mk j ∧ rd mk j ≤ 15) := by
  intro d
  induction d with
  | zero =>
    intro i hi
    refine ⟨1, true, ?_, ?_⟩
    · rw [comfitref08_Valid.l0, if_neg (by omega)]
    · simp only [true_iff]
      intro j hj hj2
      omega
  | succ d ih =>
    intro i hi
    obtain ⟨k, r, hk, hr⟩ := ih (i + 1) (by omega)
    have step : ∀ k, comfitref08_Valid.l0 (k + 1) (nx.length : Int) nx (nx.length : Int) (i : Int) nx mk = if rd nx i < 0 then some false else if rd nx i ≥ 2 ^ nx.length then some false else if rd mk i < 0 then some false else if rd mk i > 15 then some false else comfitref08_Valid.l0 k (nx.length : Int) nx (nx.length : Int) ((i + 1 : Nat) : Int) nx mk := by
      intro k
      rw [comfitref08_Valid.l0, if_pos (by omega), if_pos (by omega), if_pos (by omega), if_pos (show (0 : Int) ≤ (nx.length : Int) by omega), if_pos (show (i : Int) < (mk.length : Int) by omega), shl_len h1]
      rw [show wrap64 ((i : Int) + 1) = ((i + 1 : Nat) : Int) by unfold wrap64; omega]
    by_cases g1 : rd nx i < 0
    · refine ⟨1, false, by rw [step, if_pos g1], ?_⟩
      simp only [Bool.false_eq_true, false_iff]
      intro h
      have := (h i (Nat.le_refl _) (by omega)).1.1
      omega
    · by_cases g2 : rd nx i ≥ 2 ^ nx.length
      · refine ⟨1, false, by rw [step, if_neg g1, if_pos g2], ?_⟩
        simp only [Bool.false_eq_true, false_iff]
        intro h
        have := (h i (Nat.le_refl _) (by omega)).1.2
        omega
      · by_cases g3 : rd mk i < 0
        · refine ⟨1, false, by rw [step, if_neg g1, if_neg g2, if_pos g3], ?_⟩
          simp only [Bool.false_eq_true, false_iff]
          intro h
          have := (h i (Nat.le_refl _) (by omega)).2.1
          omega
        · by_cases g4 : rd mk i > 15
          · refine ⟨1, false, by rw [step, if_neg g1, if_neg g2, if_neg g3, if_pos g4], ?_⟩
            simp only [Bool.false_eq_true, false_iff]
            intro h
            have := (h i (Nat.le_refl _) (by omega)).2.2
            omega
          · refine ⟨k + 1, r, by rw [step, if_neg g1, if_neg g2, if_neg g3, if_neg g4, hk], ?_⟩
            rw [hr]
            constructor
            · intro h j hj hj2
              rcases Nat.lt_or_ge i j with e | e
              · exact h j e hj2
              · obtain rfl : j = i := by omega
                exact ⟨⟨by omega, by omega⟩, by omega, by omega⟩
            · intro h j hj hj2
              exact h j (by omega) hj2
open Classical in
theorem Valid_eq (nx mk : List Int) : ∃ k, comfitref08_Valid.f k nx mk = some (decide (VW nx mk)) := by
  have bad : ¬ VW nx mk → some false = some (decide (VW nx mk)) := fun h => by rw [decide_eq_false h]
  unfold comfitref08_Valid.f
  by_cases h1 : (nx.length : Int) < 1
  · refine ⟨1, ?_⟩
    rw [if_pos h1, comfitref08_Valid.j0, if_pos rfl]
    exact bad fun h => by have := h.pos; omega
  · by_cases h2 : (nx.length : Int) > 6
    · refine ⟨1, ?_⟩
      rw [if_neg h1, if_pos h2, comfitref08_Valid.j0, if_pos rfl]
      exact bad fun h => by have := h.le; omega
    · by_cases h3 : (mk.length : Int) = (nx.length : Int)
      · obtain ⟨k, r, hk, hr⟩ := Valid_loop (nx := nx) (mk := mk) (by omega) (by omega) nx.length 0 (by omega)
        refine ⟨k + 1, ?_⟩
        rw [if_neg h1, if_neg h2, comfitref08_Valid.j0]
        rw [if_neg (by simp [h3])]
        rw [show ((0 : Nat) : Int) = 0 from rfl] at hk
        rw [hk]
        congr 1
        have : r = true ↔ VW nx mk := by
          rw [hr]
          exact ⟨fun h => ⟨by omega, by omega, by omega, fun i hi => (h i (by omega) hi).1, fun i hi => (h i (by omega) hi).2⟩, fun h j _ hj => ⟨h.next j hj, h.marks j hj⟩⟩
        cases r
        · rw [eq_comm, decide_eq_false_iff_not]
          intro h
          have := this.2 h
          cases this
        · rw [eq_comm, decide_eq_true_iff]
          exact this.1 rfl
      · refine ⟨1, ?_⟩
        rw [if_neg h1, if_neg h2, comfitref08_Valid.j0]
        rw [if_pos (by simp; omega)]
        exact bad fun h => by have := h.len; omega
theorem awake_at : PB.comfitlaw08_awake.f 3 = some true := by kernel_rfl
theorem wholeS_some {a : ByteArray} (ha : IsB a = true) : ∃ f, wholeS 40 a = some f ∧ whole (cs a) = some f ∧ a.size ≤ 40 := by
  unfold IsB at ha
  cases hw : wholeS 40 a with
  | none => rw [hw] at ha; cases ha
  | some f =>
    refine ⟨f, rfl, ?_⟩
    unfold wholeS at hw
    split at hw
    · rename_i h
      exact ⟨hw, h⟩
    · cases hw
end Go.Proofs.YtjffhhalmicodaaDoor.L
end
end

section
set_option linter.unusedVariables false
set_option linter.unusedSimpArgs false
namespace Go.Proofs.YtjffhhalmicodaaDoor.L
open Go.RowKit Go.Proofs.YtjffhhalmicodaaDoorW.PrintWords Go.Proofs.YtjffhhalmicodaaDoorW.PrintLast Go.Proofs.YtjffhhalmicodaaDoorW.PrintMore Go.Proofs.YtjffhhalmicodaaDoor.X
theorem bit_of {x : Int} {n : Nat} (hn : n ≤ 61) (h : InS n x) {t : Nat} (ht : t ≤ 64) : bits .and .i64 (shr .i64 x (t : Int)) 1 = if tb x t = true then 1 else 0 := by
  obtain ⟨y, rfl, hy⟩ := inS_nat h
  have e : shr .i64 (y : Int) (t : Int) = ((y / 2 ^ t : Nat) : Int) := by
    unfold shr
    rw [Int.toNat_natCast, show min t IntKind.i64.bits = t from Nat.min_eq_left ht, Int.natCast_ediv]
    simp
  have hb : y / 2 ^ t < 2 ^ 62 := Nat.lt_of_le_of_lt (Nat.div_le_self _ _) (Nat.lt_of_lt_of_le hy (pow_le62 (by omega)))
  rw [e, show (1 : Int) = ((1 : Nat) : Int) from rfl, and_nat hb (by decide), tb_nat, Nat.testBit, Nat.shiftRight_eq_div_pow, Nat.and_comm]
  have : 1 &&& y / 2 ^ t = 0 ∨ 1 &&& y / 2 ^ t = 1 := by
    rw [Nat.and_comm, Nat.and_one_is_mod]
    omega
  rcases this with h | h <;> rw [h] <;> rfl
def subX : Fm → Fm
  | .mark neg k => .mark neg k
  | .con c => .con c
  | .var c => if c = 120 then .mark false 3 else .var c
  | .two c a b => .two c (subX a) (subX b)
  | .one c a => .one c (subX a)
  | .fix c x a => .fix c x (subX a)
def noThree : Fm → Prop
  | .mark _ k => k ≠ 3
  | .con _ => True
  | .var _ => True
  | .two _ a b => noThree a ∧ noThree b
  | .one _ a => noThree a
  | .fix _ _ a => noThree a
theorem noThree_of : ∀ f, (∀ c, c ∈ str f → c ≠ 51) → noThree f := by
  intro f
  induction f with
  | mark neg k =>
    intro h e
    subst e
    exact h 51 (by cases neg <;> simp [str]) rfl
  | con c => intro _; trivial
  | var c => intro _; trivial
  | two c a b iha ihb => exact fun h => ⟨iha fun d hd => h d (by simp [str, hd]), ihb fun d hd => h d (by simp [str, hd])⟩
  | one c a iha => exact fun h => iha fun d hd => h d (by simp [str, hd])
  | fix c x a iha => exact fun h => iha fun d hd => h d (by simp [str, hd])
theorem subX_wf : ∀ f, WF f → WF (subX f) := by
  intro f
  induction f with
  | mark neg k => exact fun h => h
  | con c => exact fun h => h
  | var c =>
    intro h
    rw [subX]
    split
    · exact (show (3 : Nat) ≤ 3 from Nat.le_refl 3)
    · exact h
  | two c a b iha ihb => exact fun h => ⟨h.1, iha h.2.1, ihb h.2.2⟩
  | one c a iha => exact fun h => ⟨h.1, iha h.2⟩
  | fix c x a iha => exact fun h => ⟨h.1, h.2.1, iha h.2.2⟩
theorem subX_sc : ∀ f b, Sc (120 :: b) f → Sc b (subX f) := by
  intro f
  induction f with
  | mark neg k => intros; trivial
  | con c => intros; trivial
  | var c =>
    intro b h
    rw [subX]
    split
    · trivial
    · rename_i hc
      rcases List.mem_cons.1 (show c ∈ 120 :: b from h) with e | e
      · exact absurd e hc
      · exact e
  | two c a b iha ihb => exact fun l h => ⟨iha l h.1, ihb l h.2⟩
  | one c a iha => exact fun l h => iha l h
  | fix c x a iha => exact fun l h => ⟨fun q => h.1 (List.mem_cons_of_mem _ q), iha _ h.2⟩
theorem subX_str : ∀ f b, WF f → Sc (120 :: b) f → str (subX f) = (str f).map fun c => if c = 120 then 51 else c := by
  intro f
  induction f with
  | mark neg k =>
    intro b hw hs
    have hk : k ≤ 3 := hw
    have : ¬ 48 + k = 120 := by omega
    cases neg <;> simp [subX, str, this]
  | con c =>
    intro b hw hs
    have hc : c = 116 ∨ c = 102 := hw
    have : ¬ c = 120 := by omega
    simp [subX, str, this]
  | var c =>
    intro b hw hs
    rw [subX]
    by_cases h : c = 120
    · simp [h, str]
    · simp [h, str]
  | two c a b iha ihb =>
    intro l hw hs
    have hc : c = 38 ∨ c = 124 := hw.1
    have : ¬ c = 120 := by omega
    simp [subX, str, this, iha l hw.2.1 hs.1, ihb l hw.2.2 hs.2]
  | one c a iha =>
    intro l hw hs
    have hc : c = 60 ∨ c = 91 := hw.1
    have : ¬ c = 120 := by omega
    simp [subX, str, this, iha l hw.2 hs]
  | fix c x a iha =>
    intro l hw hs
    have hc : c = 109 ∨ c = 103 := hw.1
    have h1 : ¬ c = 120 := by omega
    have h2 : ¬ x = 120 := fun e => hs.1 (by rw [e]; exact List.mem_cons_self ..)
    simp [subX, str, h1, h2, iha (l ++ [x]) hw.2.2 hs.2]
theorem setL_comm {x : Nat} (hx : ¬ x = 120) (t u : Int) (s : Sets) : setL x t (setL 120 u s) = setL 120 u (setL x t s) := by
  unfold setL
  by_cases h : x = 121 <;> simp [hx, h]
theorem it_congr {F G : Int → Int} (h : ∀ t, F t = G t) (i0 : Int) : ∀ k, it F i0 k = it G i0 k
  | 0 => rfl
  | k + 1 => by rw [it, it, it_congr h i0 k, h]
theorem V_sub {nx mk mk' : List Int} {S : Int} (hm : ∀ j, j ≤ 2 → mset mk' j = mset mk j) (h3 : mset mk' 3 = S) : ∀ f b, WF f → noThree f → Sc (120 :: b) f → ∀ s, V nx mk f (setL 120 S s) = V nx mk' (subX f) s := by
  intro f
  induction f with
  | mark neg k =>
    intro b hw hn hs s
    have hk : k ≤ 3 := hw
    have hk3 : k ≠ 3 := hn
    rw [subX, V, V, hm k (by omega)]
  | con c => intro b hw hn hs s; rfl
  | var c =>
    intro b hw hn hs s
    have hc : 120 ≤ c ∧ c ≤ 122 := hw
    rw [subX, V]
    by_cases h : c = 120
    · rw [if_pos h, V, if_neg (by decide), h3, h]
      rfl
    · rw [if_neg h, V, getL_setL, if_neg]
      unfold key
      simp [h]
      split <;> decide
  | two c a b iha ihb =>
    intro l hw hn hs s
    rw [subX, V, V, iha l hw.2.1 hn.1 hs.1, ihb l hw.2.2 hn.2 hs.2]
  | one c a iha =>
    intro l hw hn hs s
    rw [subX, V, V, iha l hw.2 hn hs]
  | fix c x a iha =>
    intro l hw hn hs s
    have hx : ¬ x = 120 := fun e => hs.1 (by rw [e]; exact List.mem_cons_self ..)
    rw [subX, V, V]
    refine it_congr (fun t => ?_) _ _
    rw [setL_comm hx]
    exact iha (l ++ [x]) hw.2.2 hn hs.2 _
theorem point_stands {nx mk : List Int} (hv : VW nx mk) {f : Fm} (hf : WF f) (c : Nat) : V nx mk f (setL 120 (V nx mk (.fix c 120 f) (0, 0, 0)) (0, 0, 0)) = V nx mk (.fix c 120 f) (0, 0, 0) :=
  it_stands hv (g := c = 103) (F_in hv (x := 120) hf (inE_zero _)) (F_mono hv hf (inE_zero _)) nx.length (Nat.le_refl _)
theorem point_in {nx mk : List Int} (hv : VW nx mk) {f : Fm} (hf : WF f) (c : Nat) : InS nx.length (V nx mk (.fix c 120 f) (0, 0, 0)) := it_in (i0_in hv c) (F_in hv hf (inE_zero _)) nx.length
theorem least_sub {nx mk : List Int} (hv : VW nx mk) {f : Fm} (hf : WF f) {S : Int} (hS : InS nx.length S) (h : Sub (V nx mk f (setL 120 S (0, 0, 0))) S) : Sub (V nx mk (.fix 109 120 f) (0, 0, 0)) S := by
  have key : ∀ k, Sub (it (FOf nx mk 120 f (0, 0, 0)) 0 k) S := by
    intro k
    induction k with
    | zero => exact sub_zero S
    | succ k ih => exact (F_mono hv hf (inE_zero _) _ _ (it_in (i0_in hv 109) (F_in hv hf (inE_zero _)) k) hS ih).trans h
  exact key nx.length
theorem most_sub {nx mk : List Int} (hv : VW nx mk) {f : Fm} (hf : WF f) {S : Int} (hS : InS nx.length S) (h : Sub S (V nx mk f (setL 120 S (0, 0, 0)))) : Sub S (V nx mk (.fix 103 120 f) (0, 0, 0)) := by
  have hle := hv.le
  have key : ∀ k, Sub S (it (FOf nx mk 120 f (0, 0, 0)) (allOf nx) k) := by
    intro k
    induction k with
    | zero => exact sub_all (by omega) hS
    | succ k ih => exact h.trans (F_mono hv hf (inE_zero _) _ _ hS (it_in (i0_in hv 103) (F_in hv hf (inE_zero _)) k) ih)
  exact key nx.length
theorem least_most {nx mk : List Int} (hv : VW nx mk) {f : Fm} (hf : WF f) : Sub (V nx mk (.fix 109 120 f) (0, 0, 0)) (V nx mk (.fix 103 120 f) (0, 0, 0)) :=
  most_sub hv hf (point_in hv hf 109) (by rw [point_stands hv hf 109]; exact Sub.refl _)
def mark3 (m S : Int) (i : Nat) : Int := bits .or .i64 (bits .and .i64 m 7) (shl .i64 (bits .and .i64 (shr .i64 S (i : Int)) 1) 3)
theorem mark3_spec {m S : Int} {n i : Nat} (hn : n ≤ 61) (hm : InS 4 m) (hS : InS n S) (hi : i ≤ 64) : InS 4 (mark3 m S i) ∧ ∀ j, tb (mark3 m S i) j = if j = 3 then tb S i else tb m j && decide (j < 3) := by
  have h7 : InS 4 (7 : Int) := inS_of (x := 7) (by decide)
  have hb : shl .i64 (bits .and .i64 (shr .i64 S (i : Int)) 1) 3 = if tb S i = true then 8 else 0 := by
    rw [bit_of hn hS hi]
    split <;> decide
  have h8 : InS 4 (if tb S i = true then 8 else 0 : Int) := by
    split
    · exact inS_of (x := 8) (by decide)
    · exact inS_zero 4
  unfold mark3
  rw [hb]
  refine ⟨or_in (by omega) (and_in (by omega) hm h7) h8, fun j => ?_⟩
  rw [tb_or (n := 4) (m := 4) (by omega) (by omega) (and_in (by omega) hm h7) h8, tb_and (n := 4) (m := 4) (by omega) (by omega) hm h7]
  by_cases hj : j < 4
  · have : j = 0 ∨ j = 1 ∨ j = 2 ∨ j = 3 := by omega
    clear hb h8
    generalize tb S i = v
    rcases this with rfl | rfl | rfl | rfl
    · generalize tb m 0 = u
      cases u <;> cases v <;> decide
    · generalize tb m 1 = u
      cases u <;> cases v <;> decide
    · generalize tb m 2 = u
      cases u <;> cases v <;> decide
    · generalize tb m 3 = u
      cases u <;> cases v <;> decide
  · have e1 : tb m j = false := tb_ge hm (by omega)
    have e2 : tb (if tb S i = true then 8 else 0 : Int) j = false := tb_ge h8 (by omega)
    rw [e1, e2, if_neg (by omega)]
    rfl
structure M3 (nx mk mk' : List Int) (S : Int) : Prop where
  len : mk'.length = mk.length
  at' : ∀ i : Nat, i < nx.length → rd mk' i = mark3 (rd mk i) S i
theorem M3.vw {nx mk mk' : List Int} {S : Int} (hv : VW nx mk) (hS : InS nx.length S) (h : M3 nx mk mk' S) : VW nx mk' := by
  have hle := hv.le
  refine ⟨hv.pos, hv.le, h.len.trans hv.len, hv.next, fun i hi => ?_⟩
  obtain ⟨m1, m2⟩ := hv.marks i hi
  have h4 : InS 4 (rd mk i) := ⟨m1, by have : (2 : Int) ^ 4 = 16 := by decide
                                       omega⟩
  have := (mark3_spec (i := i) (by omega) h4 hS (by omega)).1
  rw [h.at' i hi]
  exact ⟨this.1, by have h16 : (2 : Int) ^ 4 = 16 := by decide
                    have := this.2
                    omega⟩
theorem M3.msets {nx mk mk' : List Int} {S : Int} (hv : VW nx mk) (hS : InS nx.length S) (h : M3 nx mk mk' S) : (∀ j, j ≤ 2 → mset mk' j = mset mk j) ∧ mset mk' 3 = S := by
  have hle := hv.le
  have hv' := h.vw hv hS
  have val : ∀ i j, i < nx.length → tb (rd mk' (i : Nat)) j = if j = 3 then tb S i else tb (rd mk i) j && decide (j < 3) := fun i j hi => by
    obtain ⟨m1, m2⟩ := hv.marks i hi
    have h4 : InS 4 (rd mk i) := ⟨m1, by have : (2 : Int) ^ 4 = 16 := by decide
                                         omega⟩
    rw [h.at' i hi]
    exact (mark3_spec (i := i) (by omega) h4 hS (by omega)).2 j
  constructor
  · intro j hj
    obtain ⟨a1, a2⟩ := mset_spec hv' (show j ≤ 3 by omega)
    obtain ⟨b1, b2⟩ := mset_spec hv (show j ≤ 3 by omega)
    refine inS_ext a1 b1 fun i hi => ?_
    rw [a2, b2, val i j hi, if_neg (by omega)]
    simp [show j < 3 by omega]
  · obtain ⟨a1, a2⟩ := mset_spec hv' (show 3 ≤ 3 by omega)
    refine inS_ext a1 hS fun i hi => ?_
    rw [a2, val i 3 hi, if_pos rfl]
    simp [hi]
theorem V_mark {nx mk mk' : List Int} {S : Int} (hv : VW nx mk) (hS : InS nx.length S) (h : M3 nx mk mk' S) {f : Fm} (hf : WF f) (hn : noThree f) (hs : Sc [120] f) : V nx mk' (subX f) (0, 0, 0) = V nx mk f (setL 120 S (0, 0, 0)) :=
  (V_sub (h.msets hv hS).1 (h.msets hv hS).2 f [] hf hn hs _).symm
theorem parse_back : ∀ f b n l, WF f → Sc b f → (str f).length < n → parse n (str f ++ l) b = some (f, l) := by
  intro f
  induction f with
  | mark neg j =>
    intro b n l hw hs hn
    have hj : j ≤ 3 := hw
    have hm : isMk (48 + j) = true := isMk_iff.2 (by omega)
    cases neg with
    | true =>
      obtain ⟨n, rfl⟩ : ∃ m, n = m + 1 := ⟨n - 1, by omega⟩
      show parse (n + 1) (45 :: (48 + j) :: l) b = _
      rw [parse_cons, if_neg (by decide), if_pos rfl, parseDash, if_pos hm, Nat.add_sub_cancel_left]
    | false =>
      obtain ⟨n, rfl⟩ : ∃ m, n = m + 1 := ⟨n - 1, by omega⟩
      show parse (n + 1) ((48 + j) :: l) b = _
      rw [parse_cons, if_pos hm, Nat.add_sub_cancel_left]
  | con c =>
    intro b n l hw hs hn
    have hc : c = 116 ∨ c = 102 := hw
    obtain ⟨n, rfl⟩ : ∃ m, n = m + 1 := ⟨n - 1, by omega⟩
    show parse (n + 1) (c :: l) b = _
    rw [parse_cons, if_neg (by rw [isMk_iff]; omega), if_neg (by omega), if_pos hc]
  | var c =>
    intro b n l hw hs hn
    have hc : 120 ≤ c ∧ c ≤ 122 := hw
    obtain ⟨n, rfl⟩ : ∃ m, n = m + 1 := ⟨n - 1, by omega⟩
    show parse (n + 1) (c :: l) b = _
    rw [parse_cons, if_neg (by rw [isMk_iff]; omega), if_neg (by omega), if_neg (by omega), if_pos (isLt_iff.2 hc), if_pos (show c ∈ b from hs)]
  | two c p q ihp ihq =>
    intro b n l hw hs hn
    have hc : c = 38 ∨ c = 124 := hw.1
    simp only [str, List.length_cons, List.length_append] at hn
    obtain ⟨n, rfl⟩ : ∃ m, n = m + 1 := ⟨n - 1, by omega⟩
    show parse (n + 1) (c :: ((str p ++ str q) ++ l)) b = _
    rw [parse_cons, if_neg (by rw [isMk_iff]; omega), if_neg (by omega), if_neg (by omega), if_neg (by rw [isLt_iff]; omega), if_neg (by omega), if_pos hc, List.append_assoc, ihp b n _ hw.2.1 hs.1 (by omega)]
    simp only [Option.bind_some]
    rw [ihq b n _ hw.2.2 hs.2 (by omega)]
    rfl
  | one c p ihp =>
    intro b n l hw hs hn
    have hc : c = 60 ∨ c = 91 := hw.1
    simp only [str, List.length_cons] at hn
    obtain ⟨n, rfl⟩ : ∃ m, n = m + 1 := ⟨n - 1, by omega⟩
    show parse (n + 1) (c :: (str p ++ l)) b = _
    rw [parse_cons, if_neg (by rw [isMk_iff]; omega), if_neg (by omega), if_neg (by omega), if_neg (by rw [isLt_iff]; omega), if_neg (by omega), if_neg (by omega), if_pos hc, ihp b n _ hw.2 hs (by omega)]
    rfl
  | fix c x p ihp =>
    intro b n l hw hs hn
    have hc : c = 109 ∨ c = 103 := hw.1
    simp only [str, List.length_cons] at hn
    obtain ⟨n, rfl⟩ : ∃ m, n = m + 1 := ⟨n - 1, by omega⟩
    show parse (n + 1) (c :: (x :: (str p ++ l))) b = _
    rw [parse_cons, if_neg (by rw [isMk_iff]; omega), if_neg (by omega), if_neg (by omega), if_neg (by rw [isLt_iff]; omega), if_pos hc, parseFix, if_pos ⟨isLt_iff.2 hw.2.1, hs.1⟩, ihp (b ++ [x]) n _ hw.2.2 hs.2 (by omega)]
    rfl
theorem whole_back {f : Fm} (hw : WF f) (hs : Sc [] f) : whole (str f) = some f := by
  unfold whole
  have h := parse_back f [] ((str f).length + 1) [] hw hs (by omega)
  rw [List.append_nil] at h
  rw [h]
  rfl
end Go.Proofs.YtjffhhalmicodaaDoor.L
end

section
section
set_option linter.unusedVariables false
set_option linter.unusedSimpArgs false
namespace Go.Proofs.YtjffhhalmicodaaDoorW.PrintWords
open Go.RowKit
theorem add_plain (g j : Nat) : (⟨g, 0, none⟩ : Addr).add j = ⟨g, j, none⟩ := by unfold Addr.add; split <;> simp_all
section
variable {P : Program} {ops : Array Oper} {rest : List Oper} {o : Oper} {a : Act} {Q : Exit → Act → World → Prop}
end
section
variable {P : Program}
end
section
variable {P : Program} {ops : Array Oper} {rest : List Oper} {o : Oper} {a : Act} {Q : Exit → Act → World → Prop}
end
section
variable {P : Program} {ops : Array Oper} {rest : List Oper} {o : Oper} {a : Act} {Q : Exit → Act → World → Prop}
end
section
variable {P : Program} {ops : Array Oper} {o : Oper} {a : Act} {Q : Exit → Act → World → Prop} {K : Act → World → Prop}
end
section
variable {α : Type} {enc : α → Value} {d : α}
theorem own_at_of {W : World} {base g n cap : Nat} {e : TypeId} {xs : List α} (h : W.ownsRow base e 1 (.slice (some ⟨g, 0, none⟩) n cap) n (encs enc xs)) (i : Int) (h0 : 0 ≤ i) (h1 : i < n) :
    W.cell? ⟨g, i.toNat, none⟩ = some (enc (rdOf d xs i)) ∧ W.frozen? ⟨g, i.toNat, none⟩ = false := by
  have hl : xs.length = n := by have := h.1; simp [encs] at this; exact this
  constructor
  · have hc := h.cells (g := g) rfl i.toNat _ (encs_get (d := d) xs i.toNat (by omega))
    rwa [add_plain] at hc
  · rcases h.2 with ⟨h', _⟩ | ⟨g', cap', cur, h', _, hh, _⟩
    · cases h'
    · have : g = g' := by injection h' with h'; injection h' with h'; injection h' with h'
      subst this
      simp [World.frozen?, hh]
theorem own_store_of {W : World} {base g n cap : Nat} {e : TypeId} {xs : List α} (h : W.ownsRow base e 1 (.slice (some ⟨g, 0, none⟩) n cap) n (encs enc xs)) (i : Int) (x : α) :
    (W.setCell ⟨g, i.toNat, none⟩ (enc x)).ownsRow base e 1 (.slice (some ⟨g, 0, none⟩) n cap) n (encs enc (xs.set i.toNat x)) ∧ W.grownBy (W.setCell ⟨g, i.toNat, none⟩ (enc x)) (some g) := by
  have hs := h.stored i.toNat (enc x)
  have he : (encs enc xs).set i.toNat (enc x) = encs enc (xs.set i.toNat x) := by simp [encs, List.map_set]
  rwa [he] at hs
end
section
variable {α : Type} {P : Program} {ops : Array Oper} {rest : List Oper} {o : Oper} {a : Act} {Q : Exit → Act → World → Prop}
end
section
variable {P : Program}
end
section
variable {α : Type} {R R' : α → List Value → Prop} {e : TypeId} {size : Nat} {w w1 : World} {base : Nat} {v : Value} {ps : List α}
end
section
variable {P : Program} {ops : Array Oper} {rest : List Oper} {o : Oper} {a : Act} {Q : Exit → Act → World → Prop} {α : Type} {R : α → List Value → Prop}
end
section
variable {P : Program} {ops : Array Oper} {o : Oper} {a : Act} {Q : Exit → Act → World → Prop} {K : Act → World → Prop} {α : Type} {R : α → List Value → Prop}
end
section
variable {α : Type} {P : Program}
end
section
variable {P : Program} {ops : Array Oper} {rest : List Oper} {o : Oper} {a : Act} {Q : Exit → Act → World → Prop}
end
namespace Kd
section
variable {α : Type} {d : Kd α} {e : Nat} {w w1 : World} {base : Nat} {ok ok' : Nat → Prop} {v : Value} {xs : List α}
end
section
variable {P : Program} {ops : Array Oper} {rest : List Oper} {o : Oper} {a : Act} {Q : Exit → Act → World → Prop} {α : Type}
end
section
variable {P : Program} {ops : Array Oper} {o : Oper} {a : Act} {Q : Exit → Act → World → Prop} {Kc : Act → World → Prop} {α : Type}
end
end Kd
namespace Kd
section
variable {α : Type} {F : Kd α → Kd α} {sz : Nat} {E : List Nat} {hs : ∀ n, (upto F sz E n).sz = sz} {hE : ∀ n q, q ∈ (upto F sz E n).E → q ∈ E}
end
end Kd
namespace Kd
end Kd
namespace Kd
section
variable {α β : Type} {d : Kd α} {d' : Kd β} {e e' : Nat} {w w1 W : World} {base b b' : Nat} {ok ok' okv oku : Nat → Prop} {v u : Value} {xs : List α} {ys : List β}
theorem R_form (h : d.R e w base ok v xs) (hp : 0 < xs.length) : ∃ g cap, v = .slice (some ⟨g, 0, none⟩) xs.length cap ∧ base ≤ g ∧ g < w.heap.size ∧ ∃ cells, w.heap[g]? = some (.cells cells e (0, 0)) := by
  obtain ⟨inner, ho⟩ := R_own h
  obtain ⟨g, cap, he, hb, hl⟩ := ho.form hp
  obtain ⟨cells, hc⟩ := own_typed ho g (by rw [he]; simp [Value.ownBlock])
  exact ⟨g, cap, he, hb, hl, cells, hc⟩
end
section
variable {w W : World} {A : Option Addr} {n : Nat}
variable {α : Type} {enc : α → Value} {h1 : ∀ x, (enc x).oneCell' = true} {e base g cap : Nat} {ok : Nat → Prop} {xs : List α}
theorem R_cell (d : α) (h : (scalar enc h1).R e W base ok (.slice (some ⟨g, 0, none⟩) xs.length cap) xs) (i : Int) (h0 : 0 ≤ i) (hi : i < xs.length) : W.cell? ⟨g, i.toNat, none⟩ = some (enc (rdOf d xs i)) ∧ W.frozen? ⟨g, i.toNat, none⟩ = false := own_at_of (own_of_R h) i h0 hi
theorem R_put (h : (scalar enc h1).R e W base ok (.slice (some ⟨g, 0, none⟩) xs.length cap) xs) (i : Int) (x : α) : (scalar enc h1).R e (W.setCell ⟨g, i.toNat, none⟩ (enc x)) base ok (.slice (some ⟨g, 0, none⟩) xs.length cap) (xs.set i.toNat x) ∧ W.grownBy (W.setCell ⟨g, i.toNat, none⟩ (enc x)) (some g) := by
  obtain ⟨ho, hg⟩ := own_store_of (own_of_R h) i x
  exact ⟨R_of_own (by rw [List.length_set]; exact ho) h.1, hg⟩
end
section
variable {P : Program} {ops : Array Oper} {rest : List Oper} {o : Oper} {a : Act} {Q : Exit → Act → World → Prop}
variable {α : Type}
end
end Kd
section
variable {P : Program}
end
section
variable {w w1 : World} {base n size : Nat} {e : TypeId} {v : Value} {xs : List Value}
end
section
variable {P : Program}
end
namespace Kd
section
variable {α : Type} {d : Kd α} {e : Nat} {w w1 W : World} {base : Nat} {ok ok' : Nat → Prop} {v : Value} {xs : List α}
end
section
variable {P : Program} {ops : Array Oper} {rest : List Oper} {o : Oper} {a : Act} {Q' : Exit → Act → World → Prop} {Kc : Act → World → Prop} {α : Type}
end
end Kd
namespace Kd
section
variable {α : Type} {d : Kd α} {e e' : Nat} {w w1 W : World} {base : Nat} {ok : Nat → Prop} {u v : Value} {xs : List α}
end
end Kd
namespace Kd
section
variable {α : Type} {d : Kd α} {e base g n cap : Nat} {ok okp : Nat → Prop} {W : World} {xs : List α}
end
end Kd
namespace Kd
section
variable {α : Type} {F : Kd α → Kd α} {sz : Nat} {E : List Nat} {hs : ∀ n, (upto F sz E n).sz = sz} {hE : ∀ n q, q ∈ (upto F sz E n).E → q ∈ E}
end
end Kd
namespace Kd
section
variable {P : Program} {ops : Array Oper} {rest : List Oper} {o : Oper} {a : Act} {Q : Exit → Act → World → Prop} {α : Type}
end
end Kd
namespace Kd
section
variable {P : Program} {ops : Array Oper} {rest : List Oper} {o : Oper} {a : Act} {Q : Exit → Act → World → Prop} {α : Type}
end
end Kd
namespace Kd
section
variable {α : Type} {k : Kd α} {w : World} {A : Option Addr} {xs : List α} {m c : Nat}
end
end Kd
section
variable {P : Program}
end
namespace Kd
section
variable {α β : Type} {d : Kd α} {d' : Kd β} {e e' base base' n : Nat} {ok ok' : Nat → Prop} {w W w1 W1 : World} {v u : Value} {xs : List α} {ys : List β} {A : Option Addr} {c : Nat}
end
section
variable {α : Type} {enc : α → Value} {h1 : ∀ x, (enc x).oneCell' = true} {w W : World} {A : Option Addr} {n g : Nat} {xs : List α}
end
end Kd
namespace Kd
section
variable {α : Type} {d : Kd α} {e base g : Nat} {ok : Nat → Prop} {w w1 : World} {v : Value} {xs : List α} {o : Obj}
end
end Kd
section
variable {P : Program} {ops : Array Oper} {rest : List Oper} {o : Oper} {a : Act} {Q : Exit → Act → World → Prop}
end
namespace Kd
section
variable {α : Type} {enc : α → Value} {h1 : ∀ x, (enc x).oneCell' = true} {e base g n cap : Nat} {ok : Nat → Prop} {W : World} {xs : List α}
theorem R_celln (d : α) (h : (scalar enc h1).R e W base ok (.slice (some ⟨g, 0, none⟩) n cap) xs) (i : Int) (h0 : 0 ≤ i) (hi : i < n) : W.cell? ⟨g, i.toNat, none⟩ = some (enc (rdOf d xs i)) ∧ W.frozen? ⟨g, i.toNat, none⟩ = false := by
  obtain ⟨rfl, _⟩ := R_reads' h
  exact R_cell d h i h0 hi
theorem R_putn (h : (scalar enc h1).R e W base ok (.slice (some ⟨g, 0, none⟩) n cap) xs) (i : Int) (x : α) : (scalar enc h1).R e (W.setCell ⟨g, i.toNat, none⟩ (enc x)) base ok (.slice (some ⟨g, 0, none⟩) n cap) (xs.set i.toNat x) := by
  obtain ⟨rfl, _⟩ := R_reads' h
  exact (R_put h i x).1
end
end Kd
section
variable {P : Program} {ops : Array Oper} {rest : List Oper} {o : Oper} {a : Act} {Q : Exit → Act → World → Prop}
end
namespace Kd
section
variable {α : Type} {enc : α → Value} {h1 : ∀ x, (enc x).oneCell' = true} {e base g n cap : Nat} {ok : Nat → Prop} {W : World} {xs : List α}
end
end Kd
section
variable {P : Program} {ops : Array Oper} {rest : List Oper} {o : Oper} {a : Act} {Q : Exit → Act → World → Prop} {W : World}
end
section
variable {P : Program} {ops : Array Oper} {o : Oper} {a : Act} {Q : Exit → Act → World → Prop} {Kc : Act → World → Prop}
namespace Kd
variable {α : Type}
end Kd
end
section
variable {P : Program} {tmps : Array Value} {w : World}
end
namespace Kd
section
variable {P : Program} {α : Type}
end
section
variable {P : Program} {ops : Array Oper} {rest : List Oper} {o : Oper} {a : Act} {Q : Exit → Act → World → Prop} {Kc : Act → World → Prop} {α : Type}
end
end Kd
end Go.Proofs.YtjffhhalmicodaaDoorW.PrintWords
end
section
namespace Go.Proofs.YtjffhhalmicodaaDoorW.PrintLast
section
variable {P : Program} {ops : Array Oper} {Q : Exit → Act → World → Prop} {md : Region.Mode} {S : World → Prop} {ds : List Nat}
end
section
variable {P : Program} {ops : Array Oper} {Q : Exit → Act → World → Prop} {md : Region.Mode} {S : World → Prop} {ds : List Nat}
end
end Go.Proofs.YtjffhhalmicodaaDoorW.PrintLast
end
section
namespace Go.Proofs.YtjffhhalmicodaaDoorW.PrintWords
open Go.RowKit
namespace Kd
section
variable {α β : Type} {d : Kd α} {d' : Kd β} {e e' : Nat} {w w1 W : World} {base b : Nat} {ok ok' okv oku : Nat → Prop} {u v : Value} {xs : List α} {ys : List β}
end
section
variable {α β : Type} {d : Kd α} {d' : Kd β} {e e' g : Nat} {w w1 W : World} {base b : Nat} {ok ok' okv oku : Nat → Prop} {u v : Value} {xs : List α} {ys : List β}
end
section
open Classical in
variable {P : Program} {ops : Array Oper} {rest : List Oper} {o : Oper} {a : Act} {Q : Exit → Act → World → Prop} {Kc : Act → World → Prop} {α : Type}
end
section
variable {α β : Type} {d : Kd α} {e e' g n cap : Nat} {w w1 W : World} {base : Nat} {ok ok' oki okp : Nat → Prop} {u v : Value} {xs : List α} {i : Int} {c : List Value}
open Classical in
end
section
variable {P : Program} {ops : Array Oper} {rest : List Oper} {o : Oper} {a : Act} {Q : Exit → Act → World → Prop} {α : Type}
end
end Kd
end Go.Proofs.YtjffhhalmicodaaDoorW.PrintWords
end
section
namespace Go.Proofs.YtjffhhalmicodaaDoorW.PrintWords
open Go.RowKit
namespace Foot
variable {P Q : World → Prop} {W W1 : World} {ok ok' : Nat → Prop}
end Foot
namespace Kd
section
variable {α β : Type} {d : Kd α} {e base n n' cc g N : Nat} {ok ok' okp S : Nat → Prop} {w w0 w1 W W1 : World} {A A' : Option Addr} {u v v1 : Value} {xs : List α} {xs' : List β} {d' : Kd β} {x : α} {c : List Value}
end
end Kd
end Go.Proofs.YtjffhhalmicodaaDoorW.PrintWords
end
section
namespace Go.Proofs.YtjffhhalmicodaaDoorW.PrintWords
open Go.RowKit
namespace Kd
section
variable {α : Type} {d : Kd α} {e base n cc g : Nat} {ok ok' okp S : Nat → Prop} {w w1 W W1 : World} {A : Option Addr} {u v v1 : Value} {xs : List α} {x : α} {c : List Value}
end
end Kd
end Go.Proofs.YtjffhhalmicodaaDoorW.PrintWords
end
section
namespace Go.Proofs.YtjffhhalmicodaaDoorW.PrintMore
open Go.RowKit Go.Proofs.YtjffhhalmicodaaDoorW.PrintWords
namespace Kd
open Go.Proofs.YtjffhhalmicodaaDoorW.PrintWords.Kd
end Kd
namespace Kd
open Go.Proofs.YtjffhhalmicodaaDoorW.PrintWords.Kd
section
variable {α : Type} {d : Kd α} {e base g N : Nat} {ok : Nat → Prop} {W w1 : World} {u v : Value} {xs : List α}
end
end Kd
end Go.Proofs.YtjffhhalmicodaaDoorW.PrintMore
namespace Go.Proofs.YtjffhhalmicodaaDoorW.PrintWords
open Go.RowKit
section
variable {P : Program} {ops : Array Oper} {rest : List Oper} {o : Oper} {a : Act} {Q : Exit → Act → World → Prop} {W : World}
end
namespace Kd
section
variable {α : Type} {d : Kd α} {e base : Nat} {ok : Nat → Prop} {W w1 : World} {v : Value} {xs : List α}
end
section
variable {α : Type} {d : Kd α} {e base g n cap : Nat} {ok oki okp : Nat → Prop} {W : World} {xs : List α} {i : Int} {c : List Value}
end
section
variable {α : Type} {d : Kd α} {e base b b' g N : Nat} {ok ok1 : Nat → Prop} {W W2 w1 : World} {u v : Value} {xs ys : List α} {S : Nat → Prop}
end
end Kd
end Go.Proofs.YtjffhhalmicodaaDoorW.PrintWords
namespace Go.Proofs.YtjffhhalmicodaaDoorW.PrintWords
open Go.RowKit
namespace Kd
section
variable {α β : Type} {d : Kd α} {e base base' n m c g N' lo hi : Nat} {ok ok' S : Nat → Prop} {w W w1 : World} {A : Option Addr} {ad : Addr} {u v v1 : Value} {xs : List α}
end
end Kd
end Go.Proofs.YtjffhhalmicodaaDoorW.PrintWords
end
namespace Go.Proofs.YtjffhhalmicodaaDoorW.PrintMore
open Go Go.RowKit Go.Proofs.YtjffhhalmicodaaDoorW.PrintWords
namespace Kd
open Go.Proofs.YtjffhhalmicodaaDoorW.PrintWords.Kd
section
variable {α : Type} {d : Kd α} {e base g N : Nat} {ok : Nat → Prop} {W w1 : World} {u v : Value} {xs : List α}
theorem R_old (hu : d.R e W base ok u xs) (hb : Below W.heap.size W w1) : d.R e w1 base (fun k => ok k ∧ k < W.heap.size) u xs :=
  R_mono (R_below (R_bound hu) hb) (fun _ h => ⟨h.1, h.2.2.1⟩)
theorem R_told (h : d.R e w1 base (fun k => ok k ∧ k < N) u xs) (hbase : ∀ k, v.ownBlock = some k → N ≤ k) : d.R e w1 base (fun k => (ok k ∧ some k ≠ v.ownBlock) ∧ k < N) u xs :=
  R_mono h (fun k hk => ⟨⟨hk.1, fun e => Nat.lt_irrefl _ (Nat.lt_of_lt_of_le hk.2 (hbase k e.symm))⟩, hk.2⟩)
end
end Kd
end Go.Proofs.YtjffhhalmicodaaDoorW.PrintMore
end

section
namespace Go.Proofs.YtjffhhalmicodaaDoor.PM
open Go.RowKit Go.Proofs.YtjffhhalmicodaaDoorW.PrintWords Go.Proofs.YtjffhhalmicodaaDoorW.PrintLast Go.Proofs.YtjffhhalmicodaaDoorW.PrintMore
attribute [local go_sem] max2_int min2_int max_two min_two max_three min_three max_four min_four
set_option linter.unusedVariables false
set_option linter.unusedSimpArgs false
def errW : Option Int → Value
  | none => .nilIface
  | some c => .iface 0 (.int .i64 c)
theorem errW_none : errW none = .nilIface := rfl
theorem errW_some (c : Int) : errW (some c) = .iface 0 (.int .i64 c) := rfl
end Go.Proofs.YtjffhhalmicodaaDoor.PM
end

section
namespace Go.Proofs.YtjffhhalmicodaaDoor.PM
open Go.RowKit Go.Proofs.YtjffhhalmicodaaDoorW.PrintWords Go.Proofs.YtjffhhalmicodaaDoorW.PrintLast Go.Proofs.YtjffhhalmicodaaDoorW.PrintMore
attribute [local go_sem] max2_int min2_int max_two min_two max_three min_three max_four min_four
set_option linter.unusedVariables false
set_option linter.unusedSimpArgs false
def comfitlaw08_marked.l0 : Nat → Int → Int → Int → List Int → List Int → Option (List Int × List Int)
  | 0, _, _, _, _, _ => none
  | k + 1, x1, x11, x12, x111000, x111001 => if x12 < x11 then (if 0 ≤ x12 then (if x12 < (x111001.length : Int) then (comfitlaw08_marked.l0 k x1 x11 (wrap64 (x12 + 1)) x111000 (x111001.set (x12 : Int).toNat (Go.bits .or .i64 (Go.bits .and .i64 (rd x111001 x12) 7) (wrap64 ((Go.bits .and .i64 (shr .i64 x1 x12) 1) * 8))))) else (none)) else (none)) else (some (x111000, x111001))
def comfitlaw08_marked.f (k : Nat) (l0_0 : List Int) (l0_1 : List Int) (a1 : Int) : Option (List Int × List Int) := (Go.Proofs.YtjffhhalmicodaaDoor.PA.comfitlaw08_Of.f l0_0 l0_1).bind fun bt104 => (comfitlaw08_marked.l0 k a1 (bt104.2.length : Int) 0 bt104.1 bt104.2)
theorem comfitlaw08_marked.mono_l : ∀ k, (∀ y0 y1 y2 y3 y4, LeO (comfitlaw08_marked.l0 k y0 y1 y2 y3 y4) (comfitlaw08_marked.l0 (k + 1) y0 y1 y2 y3 y4))
  | 0 => fun _ _ _ _ _ r h => by simp [comfitlaw08_marked.l0] at h
  | k + 1 => by
    have ih0 := comfitlaw08_marked.mono_l k
    · intro y0 y1 y2 y3 y4
      unfold comfitlaw08_marked.l0
      repeat' first
      | (with_reducible exact ih0 _ _ _ _ _)
      | (with_reducible exact LeO.refl _)
      | (with_reducible exact LeO.none _)
      | (with_reducible refine LeO.ite ?_ ?_)
      | (with_reducible refine LeO.bind ?_ (fun _ => ?_))
      | exact ih0 _ _ _ _ _
      | exact LeO.none _
      | refine LeO.ite ?_ ?_
      | refine LeO.bind ?_ (fun _ => ?_)
theorem comfitlaw08_marked.mono : ∀ a0 a1 a2 k, LeO (comfitlaw08_marked.f k a0 a1 a2) (comfitlaw08_marked.f (k + 1) a0 a1 a2) := by
  intro a0 a1 a2 k
  have ih0 := comfitlaw08_marked.mono_l k
  unfold comfitlaw08_marked.f
  repeat' first
      | (with_reducible exact ih0 _ _ _ _ _)
      | (with_reducible exact LeO.refl _)
      | (with_reducible exact LeO.none _)
      | (with_reducible refine LeO.ite ?_ ?_)
      | (with_reducible refine LeO.bind ?_ (fun _ => ?_))
      | exact ih0 _ _ _ _ _
      | exact LeO.none _
      | refine LeO.ite ?_ ?_
      | refine LeO.bind ?_ (fun _ => ?_)
def comfitlaw08_marked.T5 : Bool × List (List Nat × List Nat) := (true, [([], []), ([0], [0]), ([], []), ([], []), ([3], [3]), ([], []), ([4, 5], [4, 5]), ([6], [6]), ([7], [7]), ([], []), ([], []), ([9, 10], [9, 10]), ([11], [11]), ([12], [12]), ([8, 13], [8, 13]), ([1, 2, 0, 1, 2, 3, 4, 5, 6, 7, 8, 9, 10, 11, 12, 13, 14], [1, 2]), ([15, 14, 0, 1, 2, 3, 4, 5, 6, 7, 8, 9, 10, 11, 12, 13, 14], [14, 15])])
def comfitlaw08_marked.B5 : List Nat := [0, 1, 0, 0, 8, 0, 56, 120, 248, 0, 0, 1536, 3584, 7680, 16376, 32767, 65535]
theorem comfitlaw08_marked.tab5 : rtab .any (opsOf Tryd.f12 5) = comfitlaw08_marked.T5 := by kernel_rfl
theorem comfitlaw08_marked.bits5 : waitsOk comfitlaw08_marked.T5.2 comfitlaw08_marked.B5 = true := by kernel_rfl
set_option maxHeartbeats 8000000 in
set_option maxRecDepth 100000 in
theorem comfitlaw08_marked.calls (k : Nat) (A0_0 : Option Addr) (c0_0 : Nat) (l0_0 : List Int) (A0_1 : Option Addr) (c0_1 : Nat) (l0_1 : List Int) (a1 : Int) (r1 : List Int) (r2 : List Int) (w : World) (hr0_0 : Kd.C (Kd.int .i64) w A0_0 l0_0.length l0_0) (hc0_0 : l0_0.length ≤ c0_0) (hr0_1 : Kd.C (Kd.int .i64) w A0_1 l0_1.length l0_1) (hc0_1 : l0_1.length ≤ c0_1) (h : comfitlaw08_marked.f k l0_0 l0_1 a1 = some (r1, r2)) :
    Calls Tryd.prog 12 #[.agg #[.slice A0_0 l0_0.length c0_0, .slice A0_1 l0_1.length c0_1], .int .i64 a1] w fun e w' => ∃ v0_ v1_ : Value, e = .returned (.agg #[v0_, v1_]) ∧ Kd.R (Kd.int .i64) 3 w' w.heap.size (fun k_ => some k_ ≠ (v1_ : Value).ownBlock) v0_ r1 ∧ Kd.R (Kd.int .i64) 3 w' w.heap.size (fun k_ => some k_ ≠ (v0_ : Value).ownBlock) v1_ r2 ∧ Below w.heap.size w w' := by
  have hu24 := Tryd.underlying24
  have hu32 := Tryd.underlying32
  have HR0_0 := Aside0.mk hr0_0
  have HC0_0 := Aside0.mk hc0_0
  clear hr0_0 hc0_0
  have HR0_1 := Aside0.mk hr0_1
  have HC0_1 := Aside0.mk hc0_1
  clear hr0_1 hc0_1
  have HB := Aside0.mk (Below.refl w.heap.size w)
  have H : ((Go.Proofs.YtjffhhalmicodaaDoor.PA.comfitlaw08_Of.f l0_0 l0_1).bind fun bt104 => (comfitlaw08_marked.l0 k a1 (bt104.2.length : Int) 0 bt104.1 bt104.2)) = some (r1, r2) := h
  clear h
  replace H := Option.bind_eq_some_iff.mp H
  obtain ⟨⟨t104, t107⟩, A30, H⟩ := H
  replace H : (comfitlaw08_marked.l0 k a1 (t107.length : Int) 0 t104 t107) = some (r1, r2) := H
  have A3 := Aside0.mk A30
  clear A30
  have H' := Aside0.mk H
  clear H
  go_enter Tryd.func12, Tryd.ntmps12
  go_wp2_with (first | ((with_reducible refine gate_dst (N := 2) rfl ?_); refine box_event ?hg (N := 2) ?hd (cs := #[.slice A0_0 l0_0.length c0_0, .slice A0_1 l0_1.length c0_1]) (t := 24) ?hr ?_; (case hd => rfl); (case hg => rfl); (case hr => first | (go_simp; done) | (go_simp; rfl)); intro gb102 hg w4 hbox hb; have n0_ := Aside0.mk (below_step (by repeat (first | (with_reducible first | exact HB.out | apply below_alloc | apply pw_below_drewN | apply below_drew1) | exact HB.out)) hb); have n1_ := Aside0.mk (hbox); have n2_ := Aside0.mk ((by rw [hg]; exact (below_size (by repeat (first | (with_reducible first | exact HB.out | apply below_alloc | apply pw_below_drewN | apply below_drew1) | exact HB.out))) : w.heap.size ≤ gb102)); have n3_ := Aside0.mk ((by rw [hg]; exact (below_size (by repeat (first | (with_reducible first | exact HB.out | apply below_alloc | apply pw_below_drewN | apply below_drew1) | exact HB.out))) : w.heap.size ≤ gb102)); clear HB; have HB := n0_; have BK102 := n1_; have GW102 := n2_; have GE102 := n3_; clear n0_ n1_ n2_ n3_; clear hb hbox hg) | ((with_reducible refine gate_dst (N := 4) rfl ?_); refine box_event ?hg (N := 4) ?hd (cs := #[.slice none 0 0, .slice none 0 0]) (t := 32) ?hr ?_; (case hd => rfl); (case hg => rfl); (case hr => first | (go_simp; done) | (go_simp; rfl)); intro gb103 hg w5 hbox hb; have n0_ := Aside0.mk (blk_below (g := gb102) (o := .cells #[.slice A0_0 l0_0.length c0_0, .slice A0_1 l0_1.length c0_1] 24 (0, 0)) (by (with_reducible repeat (first | refine blk_drewN ?_ _ | refine blk_drew ?_ | refine blk_alloc ?_ _)); exact BK102.out) hb); have n1_ := Aside0.mk (below_step (by repeat (first | (with_reducible first | exact HB.out | apply below_alloc | apply pw_below_drewN | apply below_drew1 | refine below_set ?_ GE102.out) | exact HB.out)) hb); have n2_ := Aside0.mk (hbox); have n3_ := Aside0.mk ((by rw [hg]; exact (below_size (by repeat (first | (with_reducible first | exact HB.out | apply below_alloc | apply pw_below_drewN | apply below_drew1 | refine below_set ?_ GE102.out) | exact HB.out))) : w.heap.size ≤ gb103)); have n4_ := Aside0.mk ((by rw [hg]; exact (below_size (by repeat (first | (with_reducible first | exact HB.out | apply below_alloc | apply pw_below_drewN | apply below_drew1 | refine below_set ?_ GE102.out) | exact HB.out))) : w.heap.size ≤ gb103)); have n5_ := Aside0.mk ((by rw [hg]; exact Nat.ne_of_lt (blk_lt (g := gb102) (o := .cells #[.slice A0_0 l0_0.length c0_0, .slice A0_1 l0_1.length c0_1] 24 (0, 0)) (by (with_reducible repeat (first | refine blk_drewN ?_ _ | refine blk_drew ?_ | refine blk_alloc ?_ _)); exact BK102.out)) : gb102 ≠ gb103)); have n6_ := Aside0.mk ((by rw [hg]; exact Nat.ne_of_gt (blk_lt (g := gb102) (o := .cells #[.slice A0_0 l0_0.length c0_0, .slice A0_1 l0_1.length c0_1] 24 (0, 0)) (by (with_reducible repeat (first | refine blk_drewN ?_ _ | refine blk_drew ?_ | refine blk_alloc ?_ _)); exact BK102.out)) : gb103 ≠ gb102)); clear BK102; clear HB; have BK102 := n0_; have HB := n1_; have BK103 := n2_; have GW103 := n3_; have GE103 := n4_; have NB102_103 := n5_; have NB103_102 := n6_; clear n0_ n1_ n2_ n3_ n4_ n5_ n6_; clear hb hbox hg; have hnb6 := NB102_103.out; have hnc6 := NB103_102.out; have hcz7_0 : w5.cell? ⟨gb102, 0, none⟩ = some (.slice A0_0 l0_0.length c0_0) := (blk_cell BK102.out 0).trans rfl; have hcz7_1 : w5.cell? ⟨gb102, 1, none⟩ = some (.slice A0_1 l0_1.length c0_1) := (blk_cell BK102.out 1).trans rfl; have hfz7_0 := blk_frozen BK102.out 0; have hfz7_1 := blk_frozen BK102.out 1) | ((with_reducible refine gate_callee (f := 9) rfl ?_); refine goesL_ (some 8) rfl rfl Tryd.func9 (by kernel_rfl) rfl #[.agg #[.slice A0_0 l0_0.length c0_0, .slice A0_1 l0_1.length c0_1]] rfl (by (try simp only [List.map_toArray, List.map_cons, List.map_nil]); first | done | rfl | (simp only [List.length_drop, List.length_take]; rfl)) ?_; (with_reducible refine (Go.Proofs.YtjffhhalmicodaaDoor.PA.comfitlaw08_Of.calls _ _ l0_0 _ _ l0_1 t104 t107 _ ?side1 ?side2 ?side3 ?side4 A3.out).mono ?_); (case side1 => repeat (first | exact (Kd.C_below HR0_0.out HB.out) | (with_reducible refine Kd.C_alloc ?_ _) | (with_reducible refine Kd.C_drewN ?_ _) | (with_reducible refine Kd.C_drew ?_))); (case side2 => exact HC0_0.out); (case side3 => repeat (first | exact (Kd.C_below HR0_1.out HB.out) | (with_reducible refine Kd.C_alloc ?_ _) | (with_reducible refine Kd.C_drewN ?_ _) | (with_reducible refine Kd.C_drew ?_))); (case side4 => exact HC0_1.out); rintro e w8 ⟨v105, v108, rfl, ho0, ho1, hb⟩; refine ⟨_, rfl, ?_⟩; have n0_ := Aside0.mk (Kd.R_lower ho0 (below_size (by repeat (first | (with_reducible first | exact HB.out | apply below_alloc | apply pw_below_drewN | apply below_drew1 | refine below_set ?_ GE102.out | refine below_set ?_ GE103.out) | exact HB.out)))); have n1_ := Aside0.mk (Kd.R_lower ho1 (below_size (by repeat (first | (with_reducible first | exact HB.out | apply below_alloc | apply pw_below_drewN | apply below_drew1 | refine below_set ?_ GE102.out | refine below_set ?_ GE103.out) | exact HB.out)))); have n2_ := Aside0.mk (blk_below (g := gb102) (o := .cells #[.slice A0_0 l0_0.length c0_0, .slice A0_1 l0_1.length c0_1] 24 (0, 0)) (by (with_reducible repeat (first | refine blk_drewN ?_ _ | refine blk_drew ?_ | refine blk_alloc ?_ _)); exact BK102.out) hb); have n3_ := Aside0.mk (blk_below (g := gb103) (o := .cells #[.slice none 0 0, .slice none 0 0] 32 (0, 0)) (by (with_reducible repeat (first | refine blk_drewN ?_ _ | refine blk_drew ?_ | refine blk_alloc ?_ _)); exact BK103.out) hb); have n4_ := Aside0.mk (below_step (by repeat (first | (with_reducible first | exact HB.out | apply below_alloc | apply pw_below_drewN | apply below_drew1 | refine below_set ?_ GE102.out | refine below_set ?_ GE103.out) | exact HB.out)) hb); clear BK102; clear BK103; clear HB; have HO106 := n0_; have HO109 := n1_; have BK102 := n2_; have BK103 := n3_; have HB := n4_; clear n0_ n1_ n2_ n3_ n4_; (try clear hb); (try clear hb2); (try clear hk); (try clear hi); (try clear ho0); (try clear ho1)) | ((with_reducible refine gate_dst (N := 5) rfl ?_); refine box_event ?hg (N := 5) ?hd (cs := #[.slice none 0 0, .slice none 0 0]) (t := 32) ?hr ?_; (case hd => rfl); (case hg => rfl); (case hr => first | (go_simp; done) | (go_simp; rfl)); intro gb110 hg w9 hbox hb; have n0_ := Aside0.mk (Kd.R_below (by (with_reducible repeat (first | apply Kd.R_alloc | apply Kd.R_drewN | apply Kd.R_drew)); exact HO106.out) hb); have n1_ := Aside0.mk (Kd.R_below (by (with_reducible repeat (first | apply Kd.R_alloc | apply Kd.R_drewN | apply Kd.R_drew)); exact HO109.out) hb); have n2_ := Aside0.mk (blk_below (g := gb102) (o := .cells #[.slice A0_0 l0_0.length c0_0, .slice A0_1 l0_1.length c0_1] 24 (0, 0)) (by (with_reducible repeat (first | refine blk_drewN ?_ _ | refine blk_drew ?_ | refine blk_alloc ?_ _)); exact BK102.out) hb); have n3_ := Aside0.mk (blk_below (g := gb103) (o := .cells #[.slice none 0 0, .slice none 0 0] 32 (0, 0)) (by (with_reducible repeat (first | refine blk_drewN ?_ _ | refine blk_drew ?_ | refine blk_alloc ?_ _)); exact BK103.out) hb); have n4_ := Aside0.mk (below_step (by repeat (first | (with_reducible first | exact HB.out | apply below_alloc | apply pw_below_drewN | apply below_drew1 | refine below_set ?_ GE102.out | refine below_set ?_ GE103.out) | exact HB.out)) hb); have n5_ := Aside0.mk (hbox); have n6_ := Aside0.mk ((by rw [hg]; exact (below_size (by repeat (first | (with_reducible first | exact HB.out | apply below_alloc | apply pw_below_drewN | apply below_drew1 | refine below_set ?_ GE102.out | refine below_set ?_ GE103.out) | exact HB.out))) : w.heap.size ≤ gb110)); have n7_ := Aside0.mk ((by rw [hg]; exact (below_size (by repeat (first | (with_reducible first | exact HB.out | apply below_alloc | apply pw_below_drewN | apply below_drew1 | refine below_set ?_ GE102.out | refine below_set ?_ GE103.out) | exact HB.out))) : w.heap.size ≤ gb110)); have n8_ := Aside0.mk ((by rw [hg]; exact Nat.ne_of_lt (blk_lt (g := gb102) (o := .cells #[.slice A0_0 l0_0.length c0_0, .slice A0_1 l0_1.length c0_1] 24 (0, 0)) (by (with_reducible repeat (first | refine blk_drewN ?_ _ | refine blk_drew ?_ | refine blk_alloc ?_ _)); exact BK102.out)) : gb102 ≠ gb110)); have n9_ := Aside0.mk ((by rw [hg]; exact Nat.ne_of_gt (blk_lt (g := gb102) (o := .cells #[.slice A0_0 l0_0.length c0_0, .slice A0_1 l0_1.length c0_1] 24 (0, 0)) (by (with_reducible repeat (first | refine blk_drewN ?_ _ | refine blk_drew ?_ | refine blk_alloc ?_ _)); exact BK102.out)) : gb110 ≠ gb102)); have n10_ := Aside0.mk ((by rw [hg]; exact Nat.ne_of_lt (blk_lt (g := gb103) (o := .cells #[.slice none 0 0, .slice none 0 0] 32 (0, 0)) (by (with_reducible repeat (first | refine blk_drewN ?_ _ | refine blk_drew ?_ | refine blk_alloc ?_ _)); exact BK103.out)) : gb103 ≠ gb110)); have n11_ := Aside0.mk ((by rw [hg]; exact Nat.ne_of_gt (blk_lt (g := gb103) (o := .cells #[.slice none 0 0, .slice none 0 0] 32 (0, 0)) (by (with_reducible repeat (first | refine blk_drewN ?_ _ | refine blk_drew ?_ | refine blk_alloc ?_ _)); exact BK103.out)) : gb110 ≠ gb103)); clear HO106; clear HO109; clear BK102; clear BK103; clear HB; have HO106 := n0_; have HO109 := n1_; have BK102 := n2_; have BK103 := n3_; have HB := n4_; have BK110 := n5_; have GW110 := n6_; have GE110 := n7_; have NB102_110 := n8_; have NB110_102 := n9_; have NB103_110 := n10_; have NB110_103 := n11_; clear n0_ n1_ n2_ n3_ n4_ n5_ n6_ n7_ n8_ n9_ n10_ n11_; clear hb hbox hg; obtain ⟨Ao10, co10, eo10⟩ := Kd.R_slice HO106.out; subst eo10; have hnb11 := NB110_102.out; have hnc11 := NB102_110.out; have hnb12 := NB110_103.out; have hnc12 := NB103_110.out; have hcz13_0 : w9.cell? ⟨gb110, 0, none⟩ = some (.slice none 0 0) := (blk_cell BK110.out 0).trans rfl; have hcz13_1 : w9.cell? ⟨gb110, 1, none⟩ = some (.slice none 0 0) := (blk_cell BK110.out 1).trans rfl; have hfz13_0 := blk_frozen BK110.out 0; have hfz13_1 := blk_frozen BK110.out 1; obtain ⟨Ao14, co14, eo14⟩ := Kd.R_slice HO109.out; subst eo14))
  go_loopg [12] k (fun kq v12 w' => ∃ (x12_1 : Int) (x111000_1 : List Int) (x111001_1 : List Int) (u111000 : Value) (u111001 : Value), v12 = .int .i64 x12_1 ∧ Aside0 (comfitlaw08_marked.l0 kq a1 (t107.length : Int) x12_1 x111000_1 x111001_1 = some (r1, r2)) ∧ Aside0 (kq ≤ k) ∧ Aside0 (Kd.R (Kd.int .i64) 3 w' w.heap.size (fun k_ => some k_ ≠ (u111001 : Value).ownBlock) u111000 x111000_1) ∧ Aside0 (Kd.R (Kd.int .i64) 3 w' w.heap.size (fun k_ => some k_ ≠ (u111000 : Value).ownBlock) u111001 x111001_1) ∧ Aside0 (w'.heap[gb102]? = some (.cells #[(.slice A0_0 l0_0.length c0_0), (.slice A0_1 l0_1.length c0_1)] 24 (0, 0))) ∧ Aside0 (w'.heap[gb103]? = some (.cells #[(.slice none 0 0), (.slice none 0 0)] 32 (0, 0))) ∧ Aside0 (w'.heap[gb110]? = some (.cells #[u111000, u111001] 32 (0, 0))) ∧ Aside0 (Below w.heap.size w w'))
  case atStart => exact ⟨(0), (t104), (t107), (.slice Ao10 t104.length co10), (.slice Ao14 t107.length co14), (by first | rfl | (simp; done) | (simp [*]; done)), H', ⟨Nat.le_refl _⟩, ⟨by (with_reducible repeat (first | apply Kd.R_alloc | apply Kd.R_drewN | apply Kd.R_drew)); exact Kd.R_mono (Kd.R_far (p := ⟨gb110, 1, none⟩) (Kd.R_far (p := ⟨gb110, 0, none⟩) (Kd.R_types HO106.out BK110.out (by decide)) (fun _ hk => hk.2) (.slice Ao10 t104.length co10)) (fun _ hk => hk.2) (.slice Ao14 t107.length co14)) (fun _ hk => hk.1)⟩, ⟨by (with_reducible repeat (first | apply Kd.R_alloc | apply Kd.R_drewN | apply Kd.R_drew)); exact Kd.R_mono (Kd.R_far (p := ⟨gb110, 1, none⟩) (Kd.R_far (p := ⟨gb110, 0, none⟩) (Kd.R_types HO109.out BK110.out (by decide)) (fun _ hk => hk.2) (.slice Ao10 t104.length co10)) (fun _ hk => hk.2) (.slice Ao14 t107.length co14)) (fun _ hk => hk.1)⟩, ⟨by (with_reducible repeat (first | refine blk_drewN ?_ _ | refine blk_drew ?_ | refine blk_alloc ?_ _)); refine blk_far ?_ NB102_110.out _; (with_reducible repeat (first | refine blk_drewN ?_ _ | refine blk_drew ?_ | refine blk_alloc ?_ _)); refine blk_far ?_ NB102_110.out _; (with_reducible repeat (first | refine blk_drewN ?_ _ | refine blk_drew ?_ | refine blk_alloc ?_ _)); exact BK102.out⟩, ⟨by (with_reducible repeat (first | refine blk_drewN ?_ _ | refine blk_drew ?_ | refine blk_alloc ?_ _)); refine blk_far ?_ NB103_110.out _; (with_reducible repeat (first | refine blk_drewN ?_ _ | refine blk_drew ?_ | refine blk_alloc ?_ _)); refine blk_far ?_ NB103_110.out _; (with_reducible repeat (first | refine blk_drewN ?_ _ | refine blk_drew ?_ | refine blk_alloc ?_ _)); exact BK103.out⟩, ⟨by (with_reducible repeat (first | refine blk_drewN ?_ _ | refine blk_drew ?_ | refine blk_alloc ?_ _)); refine blk_put (cs := #[.slice Ao10 t104.length co10, .slice none 0 0]) ?_ 1 _ rfl; (with_reducible repeat (first | refine blk_drewN ?_ _ | refine blk_drew ?_ | refine blk_alloc ?_ _)); refine blk_put (cs := #[.slice none 0 0, .slice none 0 0]) ?_ 0 _ rfl; (with_reducible repeat (first | refine blk_drewN ?_ _ | refine blk_drew ?_ | refine blk_alloc ?_ _)); exact BK110.out⟩, ⟨by repeat (first | (with_reducible first | exact HB.out | apply below_alloc | apply pw_below_drewN | apply below_drew1 | refine below_set ?_ GE102.out | refine below_set ?_ GE103.out | refine below_set ?_ GE110.out) | exact HB.out)⟩⟩
  case round =>
    clear H'
    try clear c1
    try clear p2
    try clear c6
    try clear c9
    try clear c11
    try clear c12
    try clear hcz13_0
    try clear hcz13_1
    try clear hcz7_0
    try clear hcz7_1
    try clear hfz13_0
    try clear hfz13_1
    try clear hfz7_0
    try clear hfz7_1
    obtain ⟨x12_1, x111000_1, x111001_1, u111000, u111001, rfl, HA, HK1, HO_111000, HO_111001, BK102, BK103, BK110, HB⟩ := hrel
    cases gk with
    | zero => exact absurd HA.out (by simp [comfitlaw08_marked.l0])
    | succ k1 =>
      have H := HA.out
      clear HA
      simp only [comfitlaw08_marked.l0] at H
      by_cases c15 : x12_1 < (t107.length : Int)
      · rw [if_pos c15] at H
        have c15b0 : decide (x12_1 < (t107.length : Int)) = true := decide_eq_true c15
        clear c15
        by_cases c16 : 0 ≤ x12_1
        · rw [if_pos c16] at H
          have c16b0 : decide (0 ≤ x12_1) = true := decide_eq_true c16
          clear c16
          by_cases c17 : x12_1 < (x111001_1.length : Int)
          · rw [if_pos c17] at H
            have c17b0 : decide (x12_1 < (x111001_1.length : Int)) = true := decide_eq_true c17
            clear c17
            have c18b0 := eq_true (of_decide_eq_true (by first | (with_reducible assumption) | assumption) : 0 ≤ x12_1)
            obtain ⟨ji19, hji19⟩ : ∃ j_ : Int, (shr .i64 a1 x12_1) = j_ := ⟨_, rfl⟩
            replace H : (comfitlaw08_marked.l0 k1 a1 (t107.length : Int) (wrap64 (x12_1 + 1)) x111000_1 (x111001_1.set (x12_1 : Int).toNat (Go.bits .or .i64 (Go.bits .and .i64 (rd x111001_1 x12_1) 7) (wrap64 ((Go.bits .and .i64 (ji19) 1) * 8))))) = some (r1, r2) := by first | (rw [hji19] at H; exact H) | (simp only [hji19] at H ⊢; exact H)
            have hji19_ : (a1 / 2 ^ min x12_1.toNat 64) = ji19 := hji19
            have hji19z : x12_1 ≤ 64 → (a1 / 2 ^ x12_1.toNat) = ji19 := shr_small hji19
            obtain ⟨y112, hy112⟩ : ∃ y_ : List Int, y_ = (x111001_1.set (x12_1 : Int).toNat (Go.bits .or .i64 (Go.bits .and .i64 (rd x111001_1 x12_1) 7) (wrap64 ((Go.bits .and .i64 (ji19) 1) * 8)))) := ⟨_, rfl⟩
            replace H : (comfitlaw08_marked.l0 k1 a1 (t107.length : Int) (wrap64 (x12_1 + 1)) x111000_1 y112) = some (r1, r2) := by first | (rw [hy112]; with_reducible exact H) | (have H2_ := (Option.bind_some _ _).symm.trans H; rw [hy112]; with_reducible exact H2_) | (have H2_ := (Option.bind_some _ _).symm.trans H; with_reducible exact H2_) | with_reducible exact H | (rw [hy112]; exact H) | exact H
            have Ny112 := Aside0.mk hy112
            clear hy112
            have H' := Aside0.mk H
            clear H
            try go_wp2
            have n0_ := Aside0.mk (Kd.R_drew HO_111000.out)
            have n1_ := Aside0.mk (Kd.R_drew HO_111001.out)
            have n2_ := Aside0.mk (blk_drew BK102.out)
            have n3_ := Aside0.mk (blk_drew BK103.out)
            have n4_ := Aside0.mk (blk_drew BK110.out)
            have n5_ := Aside0.mk (below_drew1 HB.out)
            clear HO_111000
            clear HO_111001
            clear BK102
            clear BK103
            clear BK110
            clear HB
            have HO_111000 := n0_
            have HO_111001 := n1_
            have BK102 := n2_
            have BK103 := n3_
            have BK110 := n4_
            have HB := n5_
            clear n0_ n1_ n2_ n3_ n4_ n5_
            obtain ⟨Ao22, co22, eo22⟩ := Kd.R_slice HO_111001.out
            (first | subst eo22 | (injection eo22 with f1_ f2_ f3_; have f4_ := f1_.symm; have f5_ := f3_.symm; clear f1_ f2_ f3_; subst f4_; subst f5_))
            have p111 : 0 ≤ (x12_1 : Int) := of_decide_eq_true (by first | (with_reducible assumption) | assumption)
            have q111 : x12_1 < (x111001_1.length : Int) := of_decide_eq_true (by first | (with_reducible assumption) | assumption)
            obtain ⟨ad111, e111, hx111_0⟩ := Kd.at_int (Kd.R_reads' HO_111001.out).2.2 x12_1 p111 q111
            cases e111
            replace p111 := eq_true p111
            replace q111 := eq_true q111
            have p20 : 0 ≤ (x12_1 : Int) := of_decide_eq_true (by first | (with_reducible assumption) | assumption)
            have q20 : (x12_1 : Int) < ((x111001_1.length : Int) : Int) := of_decide_eq_true (by first | (with_reducible assumption) | assumption)
            obtain ⟨go20, co20, eo20, gb20, gl20, cl20, HG20⟩ := Kd.R_form HO_111001.out (by omega)
            (first | cases eo20 | (injection eo20 with ea_ en_ ec_; (first | subst ea_ | (injection ea_ with ea_; subst ea_)); subst ec_; clear en_))
            have GB20 := Aside0.mk gb20
            have GG20 := Aside0.mk HG20
            clear gb20 gl20 HG20
            (first | simp only [add_plain] at hx111_0 | skip)
            obtain ⟨hx20_0, hf20_0⟩ := Kd.R_celln 0 HO_111001.out (x12_1 : Int) p20 q20
            replace p20 := eq_true p20
            replace q20 := eq_true q20
            have HP23 := Kd.R_putn HO_111001.out (x12_1 : Int) (Go.bits .or .i64 (Go.bits .and .i64 (rd x111001_1 x12_1) 7) (wrap64 ((Go.bits .and .i64 (ji19) 1) * 8)))
            rw [← Ny112.out] at HP23
            have HQ23 := Aside0.mk HP23
            clear HP23
            refine start_ (n := 17) (S := fun w' => w'.cell? ⟨gb110, 0, none⟩ = some (u111000) ∧ w'.cell? ⟨gb110, 1, none⟩ = some (.slice (some ⟨go20, 0, none⟩) x111001_1.length co22) ∧ w'.cell? ⟨go20, (x12_1).toNat, none⟩ = some (.int .i64 (rd x111001_1 x12_1))) (ds := [16]) #[false, false, false, false, false, false, false, false, false, false, false, false, false, false, false, false, false] (by kernel_rfl) rfl rfl ⟨(blk_cell BK110.out 0).trans rfl, (blk_cell BK110.out 1).trans rfl, hx111_0⟩ (fun hHeld => ?_); refine with_tabW comfitlaw08_marked.tab5 comfitlaw08_marked.bits5 (fun HT_ HW_ => ?_)
            generalize wr.drew = w21 at HO_111000 HO_111001 BK102 BK103 BK110 HB GG20 HQ23 hf20_0 hx111_0 hx20_0 hHeld ⊢
            refine pure_ (i := 0) (N := some 15) (v := ?_) (a' := ?_) #[true, false, false, false, false, false, false, false, false, false, false, false, false, false, false, false, false] rfl rfl (any_of HT_.out (by kernel_rfl)) (fun _ _ _ h => h) (Or.inl ⟨by rfl, ?_⟩) ?_ ?_
            rotate_left
            · intro w'
              go_simp
              with_reducible rfl
            rotate_left
            · simp only [Act.put, List.setIfInBounds_toArray, List.set_cons_zero, List.set_cons_succ, i64_w, i32_w]
              rfl
            refine pure_ (i := 2) (N := some 17) (v := ?_) (a' := ?_) #[true, false, true, false, false, false, false, false, false, false, false, false, false, false, false, false, false] rfl rfl (any_of HT_.out (by kernel_rfl)) (fun _ _ _ h => h) (Or.inl ⟨by rfl, ?_⟩) ?_ ?_
            rotate_left
            · intro w'
              go_simp
              with_reducible rfl
            rotate_left
            · simp only [Act.put, List.setIfInBounds_toArray, List.set_cons_zero, List.set_cons_succ, i64_w, i32_w]
              rfl
            refine pure_ (i := 3) (N := some 18) (v := ?_) (a' := ?_) #[true, false, true, true, false, false, false, false, false, false, false, false, false, false, false, false, false] rfl rfl (any_of HT_.out (by kernel_rfl)) (fun _ _ _ h => h) (Or.inl ⟨by rfl, ?_⟩) ?_ ?_
            rotate_left
            · intro w'
              go_simp
              with_reducible rfl
            rotate_left
            · simp only [Act.put, List.setIfInBounds_toArray, List.set_cons_zero, List.set_cons_succ, i64_w, i32_w]
              rfl
            refine pure_ (i := 5) (N := some 20) (v := ?_) (a' := ?_) #[true, false, true, true, false, true, false, false, false, false, false, false, false, false, false, false, false] rfl rfl (any_of HT_.out (by kernel_rfl)) (fun _ _ _ h => h) (Or.inl ⟨by rfl, ?_⟩) ?_ ?_
            rotate_left
            · intro w'
              go_simp
              with_reducible rfl
            rotate_left
            · simp only [Act.put, List.setIfInBounds_toArray, List.set_cons_zero, List.set_cons_succ, i64_w, i32_w]
              rfl
            refine pure_ (i := 9) (N := some 24) (v := ?_) (a' := ?_) #[true, false, true, true, false, true, false, false, false, true, false, false, false, false, false, false, false] rfl rfl (any_of HT_.out (by kernel_rfl)) (fun _ _ _ h => h) (Or.inl ⟨by rfl, ?_⟩) ?_ ?_
            rotate_left
            · intro w'
              go_simp
              with_reducible rfl
            rotate_left
            · simp only [Act.put, List.setIfInBounds_toArray, List.set_cons_zero, List.set_cons_succ, i64_w, i32_w]
              rfl
            refine pure_ (i := 10) (N := some 25) (v := ?_) (a' := ?_) #[true, false, true, true, false, true, false, false, false, true, true, false, false, false, false, false, false] rfl rfl (any_of HT_.out (by kernel_rfl)) (fun _ _ _ h => h) (Or.inl ⟨by rfl, ?_⟩) ?_ ?_
            rotate_left
            · intro w'
              go_simp
              with_reducible rfl
            rotate_left
            · simp only [Act.put, List.setIfInBounds_toArray, List.set_cons_zero, List.set_cons_succ, i64_w, i32_w]
              rfl
            refine pure_ (i := 11) (N := some 26) (v := ?_) (a' := ?_) #[true, false, true, true, false, true, false, false, false, true, true, true, false, false, false, false, false] rfl rfl (any_of HT_.out (by kernel_rfl)) (fun _ _ _ h => h) (Or.inl ⟨by rfl, ?_⟩) ?_ ?_
            rotate_left
            · intro w'
              go_simp
              with_reducible rfl
            rotate_left
            · simp only [Act.put, List.setIfInBounds_toArray, List.set_cons_zero, List.set_cons_succ, i64_w, i32_w]
              rfl
            refine pure_ (i := 12) (N := some 27) (v := ?_) (a' := ?_) #[true, false, true, true, false, true, false, false, false, true, true, true, true, false, false, false, false] rfl rfl (any_of HT_.out (by kernel_rfl)) (fun _ _ _ h => h) (Or.inl ⟨by rfl, ?_⟩) ?_ ?_
            rotate_left
            · intro w'
              go_simp
              with_reducible rfl
            rotate_left
            · simp only [Act.put, List.setIfInBounds_toArray, List.set_cons_zero, List.set_cons_succ, i64_w, i32_w]
              rfl
            refine pure_ (i := 13) (N := some 28) (v := ?_) (a' := ?_) #[true, false, true, true, false, true, false, false, false, true, true, true, true, true, false, false, false] rfl rfl (any_of HT_.out (by kernel_rfl)) (fun _ _ _ h => h) (Or.inl ⟨by rfl, ?_⟩) ?_ ?_
            rotate_left
            · intro w'
              go_simp
              with_reducible rfl
            rotate_left
            · simp only [Act.put, List.setIfInBounds_toArray, List.set_cons_zero, List.set_cons_succ, i64_w, i32_w]
              rfl
            refine take_ (i := 1) (N := some 16) (v := ?_) (a' := ?_) #[true, true, true, true, false, true, false, false, false, true, true, true, true, true, false, false, false] rfl rfl (take_ofW HT_.out HW_.out (by kernel_rfl)) (fun _ _ _ h => h) (Or.inl ⟨by rfl, ?_⟩) hHeld ?_ ?_
            rotate_left
            · rintro w' ⟨s0, s1, s2⟩
              go_simp
              with_reducible rfl
            rotate_left
            · simp only [Act.put, List.setIfInBounds_toArray, List.set_cons_zero, List.set_cons_succ, i64_w, i32_w]
              rfl
            refine take_ (i := 4) (N := some 19) (v := ?_) (a' := ?_) #[true, true, true, true, true, true, false, false, false, true, true, true, true, true, false, false, false] rfl rfl (take_ofW HT_.out HW_.out (by kernel_rfl)) (fun _ _ _ h => h) (Or.inl ⟨by rfl, ?_⟩) hHeld ?_ ?_
            rotate_left
            · rintro w' ⟨s0, s1, s2⟩
              go_simp
              with_reducible rfl
            rotate_left
            · simp only [Act.put, List.setIfInBounds_toArray, List.set_cons_zero, List.set_cons_succ, i64_w, i32_w]
              rfl
            refine pure_ (i := 6) (N := some 21) (v := ?_) (a' := ?_) #[true, true, true, true, true, true, true, false, false, true, true, true, true, true, false, false, false] rfl rfl (any_of HT_.out (by kernel_rfl)) (fun _ _ _ h => h) (Or.inl ⟨by rfl, ?_⟩) ?_ ?_
            rotate_left
            · intro w'
              go_simp
              with_reducible rfl
            rotate_left
            · simp only [Act.put, List.setIfInBounds_toArray, List.set_cons_zero, List.set_cons_succ, i64_w, i32_w]
              rfl
            refine take_ (i := 7) (N := some 22) (v := ?_) (a' := ?_) #[true, true, true, true, true, true, true, true, false, true, true, true, true, true, false, false, false] rfl rfl (take_ofW HT_.out HW_.out (by kernel_rfl)) (fun _ _ _ h => h) (Or.inl ⟨by rfl, ?_⟩) hHeld ?_ ?_
            rotate_left
            · rintro w' ⟨s0, s1, s2⟩
              go_simp
              with_reducible rfl
            rotate_left
            · simp only [Act.put, List.setIfInBounds_toArray, List.set_cons_zero, List.set_cons_succ, i64_w, i32_w]
              rfl
            refine pure_ (i := 8) (N := some 23) (v := ?_) (a' := ?_) #[true, true, true, true, true, true, true, true, true, true, true, true, true, true, false, false, false] rfl rfl (any_of HT_.out (by kernel_rfl)) (fun _ _ _ h => h) (Or.inl ⟨by rfl, ?_⟩) ?_ ?_
            rotate_left
            · intro w'
              go_simp
              with_reducible rfl
            rotate_left
            · simp only [Act.put, List.setIfInBounds_toArray, List.set_cons_zero, List.set_cons_succ, i64_w, i32_w]
              rfl
            refine pure_ (i := 14) (N := some 29) (v := ?_) (a' := ?_) #[true, true, true, true, true, true, true, true, true, true, true, true, true, true, true, false, false] rfl rfl (any_of HT_.out (by kernel_rfl)) (fun _ _ _ h => h) (Or.inl ⟨by rfl, ?_⟩) ?_ ?_
            rotate_left
            · intro w'
              go_simp
              with_reducible rfl
            rotate_left
            · simp only [Act.put, List.setIfInBounds_toArray, List.set_cons_zero, List.set_cons_succ, i64_w, i32_w]
              rfl
            refine pure_ (i := 15) (N := some 30) (v := ?_) (a' := ?_) #[true, true, true, true, true, true, true, true, true, true, true, true, true, true, true, true, false] rfl rfl (any_of HT_.out (by kernel_rfl)) (fun _ _ _ h => h) (Or.inl ⟨by rfl, ?_⟩) ?_ ?_
            rotate_left
            · intro w'
              go_simp
              with_reducible rfl
            rotate_left
            · simp only [Act.put, List.setIfInBounds_toArray, List.set_cons_zero, List.set_cons_succ, i64_w, i32_w]
              rfl
            refine last_ (i := 16) (N := none) #[true, true, true, true, true, true, true, true, true, true, true, true, true, true, true, true, true] rfl rfl (one_of HT_.out (by kernel_rfl)) (by decide) (fun K hK => ?_)
            refine skip_ (w1 := ?_) (by rfl) rfl ?_ ?_
            rotate_left
            · go_simp
              rfl
            refine hK.out _ _ ?_
            clear hK K
            refine done_ (done_of HT_.out (by kernel_rfl)) ?_
            try go_wp2
            go_roundg k1
            case measure => have := HK1.out; omega
            case rel => exact ⟨(wrap64 (x12_1 + 1)), (x111000_1), (y112), (u111000), (.slice (some ⟨go20, 0, none⟩) x111001_1.length co22), (by first | rfl | (simp; done) | (simp [*]; done)), H', ⟨by have := HK1.out; omega⟩, ⟨by (with_reducible repeat (first | apply Kd.R_alloc | apply Kd.R_drewN | apply Kd.R_drew)); exact Kd.R_mono (Kd.R_far (p := ⟨go20, (x12_1 : Int).toNat, none⟩) (Kd.R_mono HO_111000.out (fun k_ hk => (⟨hk, fun e_ => hk (by rw [e_]; rfl)⟩ : _ ∧ k_ ≠ go20))) (fun _ hk => hk.2) (.int .i64 (Go.bits .or .i64 (Go.bits .and .i64 (rd x111001_1 x12_1) 7) (wrap64 ((Go.bits .and .i64 (ji19) 1) * 8))))) (fun _ hk => hk.1)⟩, ⟨by (with_reducible repeat (first | apply Kd.R_alloc | apply Kd.R_drewN | apply Kd.R_drew)); exact HQ23.out⟩, ⟨by (with_reducible repeat (first | refine blk_drewN ?_ _ | refine blk_drew ?_ | refine blk_alloc ?_ _)); refine blk_far ?_ (by have h_ := Kd.R_ne HO_111001.out BK102.out (by decide); intro e_; exact h_ (by rw [e_]; rfl)) _; (with_reducible repeat (first | refine blk_drewN ?_ _ | refine blk_drew ?_ | refine blk_alloc ?_ _)); exact BK102.out⟩, ⟨by (with_reducible repeat (first | refine blk_drewN ?_ _ | refine blk_drew ?_ | refine blk_alloc ?_ _)); refine blk_far ?_ (by have h_ := Kd.R_ne HO_111001.out BK103.out (by decide); intro e_; exact h_ (by rw [e_]; rfl)) _; (with_reducible repeat (first | refine blk_drewN ?_ _ | refine blk_drew ?_ | refine blk_alloc ?_ _)); exact BK103.out⟩, ⟨by (with_reducible repeat (first | refine blk_drewN ?_ _ | refine blk_drew ?_ | refine blk_alloc ?_ _)); refine blk_far ?_ (by have h_ := Kd.R_ne HO_111001.out BK110.out (by decide); intro e_; exact h_ (by rw [e_]; rfl)) _; (with_reducible repeat (first | refine blk_drewN ?_ _ | refine blk_drew ?_ | refine blk_alloc ?_ _)); exact BK110.out⟩, ⟨by repeat (first | (with_reducible first | exact HB.out | apply below_alloc | apply pw_below_drewN | apply below_drew1 | refine below_set ?_ GB20.out | refine below_set ?_ GE102.out | refine below_set ?_ GE103.out | refine below_set ?_ GE110.out) | exact HB.out)⟩⟩
          · rw [if_neg c17] at H
            exact absurd H (by simp)
        · rw [if_neg c16] at H
          exact absurd H (by simp)
      · rw [if_neg c15] at H
        have c15b0 : decide (x12_1 < (t107.length : Int)) = false := decide_eq_false c15
        clear c15
        simp only [Option.some.injEq, Prod.mk.injEq] at H
        obtain ⟨rfl, rfl⟩ := H
        have hnb24 := NB110_102.out
        have hnc24 := NB102_110.out
        have hnb25 := NB110_103.out
        have hnc25 := NB103_110.out
        have hcz26_0 : wr.cell? ⟨gb110, 0, none⟩ = some (u111000) := (blk_cell BK110.out 0).trans rfl
        have hcz26_1 : wr.cell? ⟨gb110, 1, none⟩ = some (u111001) := (blk_cell BK110.out 1).trans rfl
        have hfz26_0 := blk_frozen BK110.out 0
        have hfz26_1 := blk_frozen BK110.out 1
        obtain ⟨Ao27, co27, eo27⟩ := Kd.R_slice HO_111000.out
        subst eo27
        have hnb28 := NB103_102.out
        have hnc28 := NB102_103.out
        have hcz29_0 : wr.cell? ⟨gb103, 0, none⟩ = some (.slice none 0 0) := (blk_cell BK103.out 0).trans rfl
        have hcz29_1 : wr.cell? ⟨gb103, 1, none⟩ = some (.slice none 0 0) := (blk_cell BK103.out 1).trans rfl
        have hfz29_0 := blk_frozen BK103.out 0
        have hfz29_1 := blk_frozen BK103.out 1
        obtain ⟨Ao30, co30, eo30⟩ := Kd.R_slice HO_111001.out
        subst eo30
        go_wp2
        refine bodyPost_ret (results_cell_row rfl _ _ gb103 32 #[.slice Ao27 x111000_1.length co27, .slice Ao30 x111001_1.length co30] (0, 0) _ rfl (by (with_reducible repeat (first | refine blk_drewN ?_ _ | refine blk_drew ?_ | refine blk_alloc ?_ _)); refine blk_put (cs := #[.slice Ao27 x111000_1.length co27, .slice none 0 0]) ?_ 1 _ rfl; (with_reducible repeat (first | refine blk_drewN ?_ _ | refine blk_drew ?_ | refine blk_alloc ?_ _)); refine blk_put (cs := #[.slice none 0 0, .slice none 0 0]) ?_ 0 _ rfl; (with_reducible repeat (first | refine blk_drewN ?_ _ | refine blk_drew ?_ | refine blk_alloc ?_ _)); exact BK103.out) Tryd.underlying32 rfl (by kernel_rfl)) rfl ?_
        exact ⟨_, _, by first | rfl | (simp [errW_none, errW_some] <;> rfl) | (simp [*, errW_none, errW_some] <;> rfl), by (with_reducible repeat (first | apply Kd.R_alloc | apply Kd.R_drewN | apply Kd.R_drew)); exact Kd.R_mono (Kd.R_far (p := ⟨gb103, 1, none⟩) (Kd.R_far (p := ⟨gb103, 0, none⟩) (Kd.R_types HO_111000.out BK103.out (by decide)) (fun _ hk => hk.2) (.slice Ao27 x111000_1.length co27)) (fun _ hk => hk.2) (.slice Ao30 x111001_1.length co30)) (fun _ hk => hk.1), by (with_reducible repeat (first | apply Kd.R_alloc | apply Kd.R_drewN | apply Kd.R_drew)); exact Kd.R_mono (Kd.R_far (p := ⟨gb103, 1, none⟩) (Kd.R_far (p := ⟨gb103, 0, none⟩) (Kd.R_types HO_111001.out BK103.out (by decide)) (fun _ hk => hk.2) (.slice Ao27 x111000_1.length co27)) (fun _ hk => hk.2) (.slice Ao30 x111001_1.length co30)) (fun _ hk => hk.1), by repeat (first | (with_reducible first | exact HB.out | apply below_alloc | apply pw_below_drewN | apply below_drew1 | refine below_set ?_ GE102.out | refine below_set ?_ GE103.out | refine below_set ?_ GE110.out) | exact HB.out)⟩
end Go.Proofs.YtjffhhalmicodaaDoor.PM
end

section
set_option linter.unusedVariables false
set_option linter.unusedSimpArgs false
namespace Go.Proofs.YtjffhhalmicodaaDoor.L
open Go.RowKit Go.Proofs.YtjffhhalmicodaaDoorW.PrintWords Go.Proofs.YtjffhhalmicodaaDoorW.PrintLast Go.Proofs.YtjffhhalmicodaaDoorW.PrintMore Go.Proofs.YtjffhhalmicodaaDoor.X Go.Proofs.YtjffhhalmicodaaDoor.PM
theorem rd_set3 {L : List Int} {s : Nat} (hs : s < L.length) (x : Int) (i : Nat) : rd (L.set s x) i = if i = s then x else rd L i := by
  unfold rd
  rw [Int.toNat_natCast, List.getD_eq_getElem?_getD, List.getElem?_set, List.getD_eq_getElem?_getD]
  by_cases h : s = i
  · subst h
    simp [hs]
  · rw [if_neg h, if_neg (fun q => h q.symm)]
theorem mark3_eq (m S : Int) (i : Nat) : bits .or .i64 (bits .and .i64 m 7) (wrap64 (bits .and .i64 (shr .i64 S (i : Int)) 1 * 8)) = mark3 m S i := by
  unfold mark3 shl
  rw [← i64_w]
  rfl
theorem marked_loop (nx : List Int) (S : Int) : ∀ (d i : Nat) (l : List Int), i + d = l.length → l.length ≤ 1000000 → ∃ l', comfitlaw08_marked.l0 (d + 1) S (l.length : Int) (i : Int) nx l = some (nx, l') ∧ l'.length = l.length ∧ ∀ j : Nat, j < l.length → rd l' j = if i ≤ j then mark3 (rd l j) S j else rd l j := by
  intro d
  induction d with
  | zero =>
    intro i l hi hl
    refine ⟨l, by rw [comfitlaw08_marked.l0, if_neg (by omega)], rfl, fun j hj => by rw [if_neg (by omega)]⟩
  | succ d ih =>
    intro i l hi hl
    obtain ⟨l', h1, h2, h3⟩ := ih (i + 1) (l.set i (mark3 (rd l i) S i)) (by rw [List.length_set]; omega) (by rw [List.length_set]; omega)
    rw [List.length_set] at h1 h2 h3
    refine ⟨l', ?_, h2, fun j hj => ?_⟩
    · rw [comfitlaw08_marked.l0, if_pos (by omega), if_pos (by omega), if_pos (by omega), mark3_eq, Int.toNat_natCast, show wrap64 ((i : Int) + 1) = ((i + 1 : Nat) : Int) by unfold wrap64; omega]
      exact h1
    · rw [h3 j hj, rd_set3 (by omega)]
      by_cases e : j = i
      · subst e
        rw [if_neg (by omega), if_pos rfl, if_pos (Nat.le_refl _)]
      · rw [if_neg e]
        by_cases h : i + 1 ≤ j
        · rw [if_pos h, if_pos (by omega)]
        · rw [if_neg h, if_neg (by omega)]
theorem marked_at {nx mk : List Int} (hv : VW nx mk) (S : Int) : ∃ k mk', comfitlaw08_marked.f k nx mk S = some (nx, mk') ∧ M3 nx mk mk' S := by
  obtain ⟨e1, e2⟩ := take_of hv
  have hle := hv.le
  have hlen := hv.len
  obtain ⟨l', h1, h2, h3⟩ := marked_loop nx S mk.length 0 mk (by omega) (by omega)
  refine ⟨mk.length + 1, l', ?_, h2, fun i hi => ?_⟩
  · unfold comfitlaw08_marked.f
    rw [Of_eq, e1, e2]
    exact h1
  · rw [h3 i (by omega), if_pos (Nat.zero_le _)]
end Go.Proofs.YtjffhhalmicodaaDoor.L
end

section
set_option linter.unusedVariables false
namespace Go.Proofs.YtjffhhalmicodaaDoor.L
open Go.RowKit Go.Proofs.YtjffhhalmicodaaDoorW.PrintWords Go.Proofs.YtjffhhalmicodaaDoorW.PrintLast Go.Proofs.YtjffhhalmicodaaDoorW.PrintMore Go.Proofs.YtjffhhalmicodaaDoor.X
theorem and_any (x : Int) {y : Int} {n : Nat} (hn : n ≤ 61) (hy : InS n y) : InS n (bits .and .i64 x y) := by
  obtain ⟨m, rfl, hm⟩ := inS_nat hy
  have hm62 : m < 2 ^ 62 := Nat.lt_of_lt_of_le hm (pow_le62 (by omega))
  have hmod : m % 2 ^ 64 = m := Nat.mod_eq_of_lt (Nat.lt_of_lt_of_le hm62 (by decide))
  have e : bits .and .i64 x (m : Int) = IntKind.i64.wrap ((((BitVec.ofInt 64 x).toNat &&& m : Nat)) : Int) := by
    show IntKind.i64.wrap (((BitVec.ofInt 64 x &&& BitVec.ofInt 64 (m : Int)).toNat : Nat) : Int) = _
    rw [BitVec.toNat_and, BitVec.ofInt_natCast, BitVec.toNat_ofNat, hmod]
  have hlt : (BitVec.ofInt 64 x).toNat &&& m < 2 ^ n := Nat.and_lt_two_pow _ hm
  rw [e, wrap64_nat (Nat.lt_of_lt_of_le hlt (pow_le62 (by omega)))]
  exact inS_of hlt
theorem holds_at {nx mk : List Int} (hv : VW nx mk) {a : ByteArray} {f : Fm} (hw : whole (cs a) = some f) (hf : WF f) (hs : Sc [] f) (ha : a.size ≤ 40) : ∃ k, fixes_Holds.f k nx mk a = some (V nx mk f (0, 0, 0), 0) := by
  obtain ⟨k, m', h, _⟩ := hold_total hv f hf [] [] (0, 0, 0) (fun _ h => by cases h) hs (fun _ h => by cases h) (inE_zero _)
  refine ⟨k, ?_⟩
  unfold fixes_Holds.f
  rw [valid_true hv]
  simp only [Option.bind_some, if_true]
  rw [wholeS, if_pos ha, hw]
  simp only
  rw [h]
  rfl
end Go.Proofs.YtjffhhalmicodaaDoor.L
end

section
namespace Go.Proofs.YtjffhhalmicodaaDoor.L
open Go.Lib
theorem index_one (x : UInt8) : ∀ s : List UInt8, (index s [x] = -1 ∧ x ∉ s) ∨ ∃ i : Nat, index s [x] = (i : Int) ∧ ∃ a b, s = a ++ x :: b ∧ a.length = i ∧ x ∉ a := by
  intro s
  induction s with
  | nil => exact .inl ⟨rfl, by simp⟩
  | cons c l ih =>
    rw [index]
    by_cases h : x = c
    · subst h
      refine .inr ⟨0, ?_, [], l, rfl, rfl, by simp⟩
      simp [List.isPrefixOf]
    · have hp : ([x] : List UInt8).isPrefixOf (c :: l) = false := by simp [List.isPrefixOf, h]
      rw [if_neg (by rw [hp]; decide)]
      rcases ih with ⟨h1, h2⟩ | ⟨i, h1, a, b, h2, h3, h4⟩
      · refine .inl ⟨by rw [h1]; rfl, ?_⟩
        simp [h, h2]
      · refine .inr ⟨i + 1, ?_, c :: a, b, by rw [h2]; rfl, by simp [h3], by simp [h, h4]⟩
        rw [h1, if_neg (by simp)]
        omega
theorem map_none {x y : UInt8} : ∀ {s : List UInt8}, x ∉ s → s.map (fun c => if c = x then y else c) = s
  | [], _ => rfl
  | c :: l, h => by
    rw [List.map_cons, map_none (fun q => h (List.mem_cons_of_mem _ q)), if_neg (fun e => h (by rw [e]; exact List.mem_cons_self ..))]
theorem replace_one (x y : UInt8) : ∀ fuel (s : List UInt8), s.length ≤ fuel → replaceK [x] [y] (countFrom [x] fuel s) s = s.map fun c => if c = x then y else c := by
  intro fuel
  induction fuel with
  | zero =>
    intro s hs
    obtain rfl : s = [] := List.length_eq_zero_iff.1 (by omega)
    rfl
  | succ fuel ih =>
    intro s hs
    rw [countFrom]
    rcases index_one x s with ⟨h1, h2⟩ | ⟨i, h1, a, b, h2, h3, h4⟩
    · rw [h1, if_pos (by decide), replaceK, map_none h2]
    · have hd : s.drop (i + 1) = b := by rw [h2, ← h3, show a ++ x :: b = (a ++ [x]) ++ b by simp, List.drop_left' (by simp)]
      have ht : s.take i = a := by rw [h2, ← h3, List.take_left']; rfl
      have hl : ([x] : List UInt8).length = 1 := rfl
      rw [h1, if_neg (by simp), Int.toNat_natCast, hl, hd, Nat.add_comm 1, replaceK_hit _ _ _ _ i h1, ht, hl, hd]
      rw [ih b (by rw [h2] at hs; simp at hs; omega), h2, List.map_append, List.map_cons, if_pos rfl, map_none h4]
      simp
theorem replaceAll_one {x y : UInt8} (h : x ≠ y) (s : List UInt8) : replaceAll s [x] [y] = s.map fun c => if c = x then y else c := by
  have hne : (([x] : List UInt8) == [y]) = false := by simp [h]
  unfold replaceAll replace replaceNum count
  rw [if_neg (by rw [hne]; decide), if_pos (.inl (by decide))]
  exact replace_one x y _ s (by omega)
end Go.Proofs.YtjffhhalmicodaaDoor.L
end

section
namespace Go.Proofs
open Go.Shelf
def Tryd.lays144_ren : Go.Shelf.Ren := ⟨fun | 144 => 5 | 143 => 13 | 219 => 19 | 217 => 37 | 225 => 38 | 224 => 39 | 267 => 40 | 266 => 49 | 314 => 50 | n => n, fun | 9 => 9 | 4 => 4 | 3 => 3 | 5 => 5 | 46 => 49 | 146 => 81 | 51 => 80 | n => n, fun | 1 => 0 | n => n⟩
theorem Tryd.lays144 : Go.Proofs.Lays.n144 Tryd.prog Tryd.lays144_ren := {
  mixed := by kernel_rfl
  f143 := Tryd.func13.trans (congrArg some (by kernel_rfl))
  f144 := Tryd.func5.trans (congrArg some (by kernel_rfl))
  f217 := Tryd.func37.trans (congrArg some (by kernel_rfl))
  f219 := Tryd.func19.trans (congrArg some (by kernel_rfl))
  f224 := Tryd.func39.trans (congrArg some (by kernel_rfl))
  f225 := Tryd.func38.trans (congrArg some (by kernel_rfl))
  f266 := Tryd.func49.trans (congrArg some (by kernel_rfl))
  f267 := Tryd.func40.trans (congrArg some (by kernel_rfl))
  f314 := Tryd.func50.trans (congrArg some (by kernel_rfl))
  t3 := Tryd.underlying3
  a3 := Tryd.isAgg3
  z3 := Tryd.sizeOf3
  v3 := Tryd.zeroValue3
  t4 := Tryd.underlying4
  a4 := Tryd.isAgg4
  z4 := Tryd.sizeOf4
  v4 := Tryd.zeroValue4
  t5 := Tryd.underlying5
  a5 := Tryd.isAgg5
  z5 := Tryd.sizeOf5
  v5 := Tryd.zeroValue5
  t9 := Tryd.underlying9
  a9 := Tryd.isAgg9
  z9 := Tryd.sizeOf9
  v9 := Tryd.zeroValue9
  t46 := Tryd.underlying49
  a46 := Tryd.isAgg49
  z46 := Tryd.sizeOf49
  v46 := Tryd.zeroValue49
  t51 := Tryd.underlying80
  a51 := Tryd.isAgg80
  z51 := Tryd.sizeOf80
  v51 := Tryd.zeroValue80
  t146 := Tryd.underlying81
  a146 := Tryd.isAgg81
  z146 := Tryd.sizeOf81
  v146 := Tryd.zeroValue81
  g1 := by kernel_rfl }
open Go.RowKit Go.Lib in
theorem Tryd.strings_Contains_one (s : ByteArray) (c : UInt8) (w : World) :
    Calls Tryd.prog 5 #[.string s, .string ⟨#[c]⟩] w fun e w' => e = .returned (.bool (decide (0 ≤ Lib.indexByte s.data.toList c))) ∧ w' = w := Any.strings_Contains_one Tryd.lays144 s c w
open Go.RowKit Go.Lib in
theorem Tryd.strings_Contains (s sub : ByteArray) (m : Int) (w : World) (hs : s.size < 4294967281) (hm : w.cell? ⟨0, 0, none⟩ = some (.int .i64 m)) :
    Calls Tryd.prog 5 #[.string s, .string sub] w fun e w' => e = .returned (.bool (Lib.contains s.data.toList sub.data.toList)) ∧ w' = w := Any.strings_Contains Tryd.lays144 s sub m w hs hm
def Tryd.laysM144_ren : Go.Shelf.Ren := ⟨fun | 144 => 5 | 143 => 13 | 219 => 19 | 217 => 37 | 225 => 38 | 224 => 39 | 267 => 40 | 266 => 49 | 314 => 50 | n => n, fun | 9 => 9 | 4 => 4 | 3 => 3 | 5 => 5 | 46 => 49 | 146 => 81 | 51 => 80 | n => n, fun | 1 => 0 | n => n⟩
theorem Tryd.laysM144 : Go.Proofs.LaysM.n144 Tryd.prog Tryd.laysM144_ren := {
  mixed := by kernel_rfl
  f143 := Tryd.func13.trans (congrArg some (by kernel_rfl))
  f144 := Tryd.func5.trans (congrArg some (by kernel_rfl))
  f217 := Tryd.func37.trans (congrArg some (by kernel_rfl))
  f219 := Tryd.func19.trans (congrArg some (by kernel_rfl))
  f224 := Tryd.func39.trans (congrArg some (by kernel_rfl))
  f225 := Tryd.func38.trans (congrArg some (by kernel_rfl))
  f266 := Tryd.func49.trans (congrArg some (by kernel_rfl))
  f267 := Tryd.func40.trans (congrArg some (by kernel_rfl))
  f314 := Tryd.func50.trans (congrArg some (by kernel_rfl))
  t3 := Tryd.underlying3
  a3 := Tryd.isAgg3
  z3 := Tryd.sizeOf3
  v3 := Tryd.zeroValue3
  t4 := Tryd.underlying4
  a4 := Tryd.isAgg4
  z4 := Tryd.sizeOf4
  v4 := Tryd.zeroValue4
  t5 := Tryd.underlying5
  a5 := Tryd.isAgg5
  z5 := Tryd.sizeOf5
  v5 := Tryd.zeroValue5
  t9 := Tryd.underlying9
  a9 := Tryd.isAgg9
  z9 := Tryd.sizeOf9
  v9 := Tryd.zeroValue9
  t46 := Tryd.underlying49
  a46 := Tryd.isAgg49
  z46 := Tryd.sizeOf49
  v46 := Tryd.zeroValue49
  t51 := Tryd.underlying80
  a51 := Tryd.isAgg80
  z51 := Tryd.sizeOf80
  v51 := Tryd.zeroValue80
  t146 := Tryd.underlying81
  a146 := Tryd.isAgg81
  z146 := Tryd.sizeOf81
  v146 := Tryd.zeroValue81
  g1 := by kernel_rfl
  i3 := by kernel_rfl
  i4 := by kernel_rfl
  i5 := by kernel_rfl
  i9 := by kernel_rfl
  i46 := by kernel_rfl
  i51 := by kernel_rfl
  i146 := by kernel_rfl
  m1 := by kernel_rfl
  s1_3 := fun w h => Go.Proofs.cell_of_shapedOpen_int (zero := #[.int .i64 0]) (t := 3) h (of_decide_eq_true (by kernel_rfl)) (by kernel_rfl) rfl (by kernel_rfl) (by kernel_rfl) Tryd.underlying3 }
def Tryd.lays155_ren : Go.Shelf.Ren := ⟨fun | 155 => 11 | 154 => 18 | 138 => 32 | 165 => 33 | 143 => 13 | 166 => 34 | 197 => 35 | 169 => 36 | 195 => 44 | 218 => 45 | 240 => 46 | 241 => 47 | 219 => 19 | 260 => 48 | 276 => 56 | 277 => 57 | 217 => 37 | 225 => 38 | 224 => 39 | 267 => 40 | 266 => 49 | 314 => 50 | n => n, fun | 9 => 9 | 3 => 3 | 4 => 4 | 72 => 62 | 0 => 0 | 76 => 66 | 105 => 68 | 21 => 21 | 5 => 5 | 70 => 59 | 20 => 20 | 37 => 60 | 75 => 65 | 127 => 79 | 164 => 86 | 46 => 49 | 119 => 89 | 139 => 92 | 138 => 91 | 146 => 81 | 51 => 80 | 80 => 70 | n => n, fun | 1 => 0 | 3 => 1 | 4 => 2 | n => n⟩
theorem Tryd.lays155 : Go.Proofs.Lays.n155 Tryd.prog Tryd.lays155_ren := {
  mixed := by kernel_rfl
  f138 := Tryd.func32.trans (congrArg some (by kernel_rfl))
  f143 := Tryd.func13.trans (congrArg some (by kernel_rfl))
  f154 := Tryd.func18.trans (congrArg some (by kernel_rfl))
  f155 := Tryd.func11.trans (congrArg some (by kernel_rfl))
  f165 := Tryd.func33.trans (congrArg some (by kernel_rfl))
  f166 := Tryd.func34.trans (congrArg some (by kernel_rfl))
  f169 := Tryd.func36.trans (congrArg some (by kernel_rfl))
  f195 := Tryd.func44.trans (congrArg some (by kernel_rfl))
  f197 := Tryd.func35.trans (congrArg some (by kernel_rfl))
  f217 := Tryd.func37.trans (congrArg some (by kernel_rfl))
  f218 := Tryd.func45.trans (congrArg some (by kernel_rfl))
  f219 := Tryd.func19.trans (congrArg some (by kernel_rfl))
  f224 := Tryd.func39.trans (congrArg some (by kernel_rfl))
  f225 := Tryd.func38.trans (congrArg some (by kernel_rfl))
  f240 := Tryd.func46.trans (congrArg some (by kernel_rfl))
  f241 := Tryd.func47.trans (congrArg some (by kernel_rfl))
  f260 := Tryd.func48.trans (congrArg some (by kernel_rfl))
  f266 := Tryd.func49.trans (congrArg some (by kernel_rfl))
  f267 := Tryd.func40.trans (congrArg some (by kernel_rfl))
  f276 := Tryd.func56.trans (congrArg some (by kernel_rfl))
  f277 := Tryd.func57.trans (congrArg some (by kernel_rfl))
  f314 := Tryd.func50.trans (congrArg some (by kernel_rfl))
  t0 := Tryd.underlying0
  a0 := Tryd.isAgg0
  z0 := Tryd.sizeOf0
  v0 := Tryd.zeroValue0
  t3 := Tryd.underlying3
  a3 := Tryd.isAgg3
  z3 := Tryd.sizeOf3
  v3 := Tryd.zeroValue3
  t4 := Tryd.underlying4
  a4 := Tryd.isAgg4
  z4 := Tryd.sizeOf4
  v4 := Tryd.zeroValue4
  t5 := Tryd.underlying5
  a5 := Tryd.isAgg5
  z5 := Tryd.sizeOf5
  v5 := Tryd.zeroValue5
  t9 := Tryd.underlying9
  a9 := Tryd.isAgg9
  z9 := Tryd.sizeOf9
  v9 := Tryd.zeroValue9
  t20 := Tryd.underlying20
  a20 := Tryd.isAgg20
  z20 := Tryd.sizeOf20
  v20 := Tryd.zeroValue20
  t21 := Tryd.underlying21
  a21 := Tryd.isAgg21
  z21 := Tryd.sizeOf21
  v21 := Tryd.zeroValue21
  t37 := Tryd.underlying60
  a37 := Tryd.isAgg60
  z37 := Tryd.sizeOf60
  v37 := Tryd.zeroValue60
  t46 := Tryd.underlying49
  a46 := Tryd.isAgg49
  z46 := Tryd.sizeOf49
  v46 := Tryd.zeroValue49
  t51 := Tryd.underlying80
  a51 := Tryd.isAgg80
  z51 := Tryd.sizeOf80
  v51 := Tryd.zeroValue80
  t70 := Tryd.underlying59
  a70 := Tryd.isAgg59
  z70 := Tryd.sizeOf59
  v70 := Tryd.zeroValue59
  t72 := Tryd.underlying62
  a72 := Tryd.isAgg62
  z72 := Tryd.sizeOf62
  v72 := Tryd.zeroValue62
  t75 := Tryd.underlying65
  a75 := Tryd.isAgg65
  z75 := Tryd.sizeOf65
  v75 := Tryd.zeroValue65
  t76 := Tryd.underlying66
  a76 := Tryd.isAgg66
  z76 := Tryd.sizeOf66
  v76 := Tryd.zeroValue66
  t105 := Tryd.underlying68
  a105 := Tryd.isAgg68
  z105 := Tryd.sizeOf68
  v105 := Tryd.zeroValue68
  t119 := Tryd.underlying89
  a119 := Tryd.isAgg89
  z119 := Tryd.sizeOf89
  t127 := Tryd.underlying79
  a127 := Tryd.isAgg79
  z127 := Tryd.sizeOf79
  v127 := Tryd.zeroValue79
  t138 := Tryd.underlying91
  a138 := Tryd.isAgg91
  z138 := Tryd.sizeOf91
  v138 := Tryd.zeroValue91
  t139 := Tryd.underlying92
  a139 := Tryd.isAgg92
  z139 := Tryd.sizeOf92
  v139 := Tryd.zeroValue92
  t146 := Tryd.underlying81
  a146 := Tryd.isAgg81
  z146 := Tryd.sizeOf81
  v146 := Tryd.zeroValue81
  t164 := Tryd.underlying86
  a164 := Tryd.isAgg86
  z164 := Tryd.sizeOf86
  v164 := Tryd.zeroValue86
  g1 := by kernel_rfl
  g3 := by kernel_rfl
  g4 := by kernel_rfl }
theorem Tryd.Builder_Extra_155 : Builder.Extra Tryd.prog Tryd.lays155_ren := {
  sizeBuilder := by kernel_rfl
  liesBuilder := by kernel_rfl
  t5 := Tryd.underlying5
  a5 := Tryd.isAgg5
  z5 := Tryd.sizeOf5
  v5 := Tryd.zeroValue5
  infoByte := by kernel_rfl
  cellsByte := by kernel_rfl
  sizeByte := by kernel_rfl
  neB5 := by decide }
open Go.RowKit Go.Lib in
theorem Tryd.strings_ReplaceAll (s old new : ByteArray) (m : Int) (w : World) (hs : s.size < 4294967281) (hm : w.cell? ⟨0, 0, none⟩ = some (.int .i64 m)) (h1 : 1 ≤ old.size) (hlen : s.size + Lib.countB s old * new.size ≤ 140737488355328) :
    Calls Tryd.prog 11 #[.string s, .string old, .string new] w fun e w' =>
      e = .returned (.string ⟨(Lib.replaceAll s.data.toList old.data.toList new.data.toList).toArray⟩) ∧ Below w.heap.size w w' := Any.strings_ReplaceAll Tryd.lays155 Tryd.Builder_Extra_155 s old new m w hs hm h1 hlen
end Go.Proofs
end

section
set_option linter.unusedVariables false
namespace Go.Proofs.YtjffhhalmicodaaDoor.X
open Go.RowKit Go.Proofs.YtjffhhalmicodaaDoorW.PrintWords Go.Proofs.YtjffhhalmicodaaDoorW.PrintLast Go.Proofs.YtjffhhalmicodaaDoorW.PrintMore
def strings_Contains.f (a b : ByteArray) : Option Bool := if b.data = #[51] then some (decide (0 ≤ Lib.indexByte a.data.toList 51)) else none
theorem strings_Contains.calls (a b : ByteArray) (r : Bool) (w : World) (h : strings_Contains.f a b = some r) :
    Calls Tryd.prog 5 #[.string a, .string b] w fun e w' => e = .returned (.bool r) ∧ Drawn0 w w' := by
  unfold strings_Contains.f at h
  split at h
  · rename_i hb
    obtain ⟨b⟩ := b
    simp only at hb
    subst hb
    injection h with h
    subst h
    exact (Go.Proofs.Tryd.strings_Contains_one a 51 w).mono fun e w' ⟨h1, h2⟩ => ⟨h1, h2 ▸ Drawn0.refl _⟩
  · cases h
def repl (x y : UInt8) (a : ByteArray) : ByteArray := ⟨(a.data.toList.map fun c => if c = x then y else c).toArray⟩
def strings_ReplaceAll.f (a b c : ByteArray) : Option ByteArray := if (b.data = #[120] ∧ c.data = #[51]) ∧ a.size ≤ 1000 then some (repl 120 51 a) else none
theorem strings_ReplaceAll.calls (a b c r : ByteArray) (w : World) (hm : ∃ m, w.cell? ⟨0, 0, none⟩ = some (.int .i64 m)) (h : strings_ReplaceAll.f a b c = some r) :
    Calls Tryd.prog 11 #[.string a, .string b, .string c] w fun e w' => e = .returned (.string r) ∧ Below w.heap.size w w' := by
  unfold strings_ReplaceAll.f at h
  split at h
  · rename_i hb
    obtain ⟨⟨hb, hc⟩, hsz⟩ := hb
    obtain ⟨b⟩ := b
    obtain ⟨c⟩ := c
    simp only at hb hc
    subst hb
    subst hc
    injection h with h
    subst h
    obtain ⟨m, hm⟩ := hm
    have hcount : Lib.countB a ⟨#[120]⟩ * 1 ≤ a.size := Lib.countB_mul_le ⟨#[120]⟩ (by decide) a.size a (Nat.le_refl _)
    refine (Go.Proofs.Tryd.strings_ReplaceAll a ⟨#[120]⟩ ⟨#[51]⟩ m w (by omega) hm (by decide) ?_).mono fun e w' ⟨h1, h2⟩ => ⟨?_, h2⟩
    · show a.size + Lib.countB a ⟨#[120]⟩ * 1 ≤ _
      omega
    · rw [h1]
      unfold repl
      rw [← L.replaceAll_one (by decide)]
  · cases h
end Go.Proofs.YtjffhhalmicodaaDoor.X
end

section
namespace Go.Proofs.YtjffhhalmicodaaDoor.PN
open Go.RowKit Go.Proofs.YtjffhhalmicodaaDoorW.PrintWords Go.Proofs.YtjffhhalmicodaaDoorW.PrintLast Go.Proofs.YtjffhhalmicodaaDoorW.PrintMore
attribute [local go_sem] max2_int min2_int max_two min_two max_three min_three max_four min_four
set_option linter.unusedVariables false
set_option linter.unusedSimpArgs false
def errW : Option Int → Value
  | none => .nilIface
  | some c => .iface 0 (.int .i64 c)
theorem errW_none : errW none = .nilIface := rfl
theorem errW_some (c : Int) : errW (some c) = .iface 0 (.int .i64 c) := rfl
end Go.Proofs.YtjffhhalmicodaaDoor.PN
end
