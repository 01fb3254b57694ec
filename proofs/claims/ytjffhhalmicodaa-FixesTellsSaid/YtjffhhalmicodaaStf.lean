/- Texts of this claim, merged by a program (wip/tools/shake.py); what nothing names is left out. -/
import Derived.Test.YtjffhhalmicodaaProg
import Derived.Below
import Derived.Deep.Draws
import Derived.Deep.AppendLies
import Derived.Maps.AppendAt
import Derived.OwnWalk
import Derived.Laws.BytesArg
import Derived.Laws.MakeOwn
import Derived.Laws.OwnMore
import Derived.Deep.OwnRows
import Derived.Tactics
import Derived.Lib.ConvBytes
import Derived.Laws.Slices
import Derived.WalkKit
import Derived.KernelRfl
import Derived.RowKit3
import Derived.Deep.LoopGhost
import Derived.Deep.QuietTactic
import Derived.BigQuiet
import Derived.WideLaws
import Derived.Deep.DeepCutAuto
import Derived.Deep.CutBlock
import Derived.Deep.RegionHeld3
import Derived.Laws.Rows
import Derived.Lib.AppendStr
import Derived.ArgAppend
import Derived.Laws.IdiomCopy
import Derived.OrdersHeld
import Derived.Laws.BitsLemmas
import Derived.RowKit
import Derived.Test.YtjffhhalmicodaaSte
section
namespace Go.Proofs.Ytjffhhalmicodaa.PB
open Go.RowKit Go.Proofs.G.PrintWords Go.Proofs.G.PrintLast Go.Proofs.G.PrintMore
attribute [local go_sem] max2_int min2_int max_two min_two max_three min_three max_four min_four
set_option linter.unusedVariables false
set_option linter.unusedSimpArgs false
mutual
def r8read.j0 : Nat → ByteArray → Int → Int → Int → Bool → Option (Int × Int)
  | 0, _, _, _, _, _ => none
  | k + 1, x0, x1, x2, x8, x22 => if x22 = true then (some (wrap64 (x1 + 1), 0)) else (if x8 = 45 then (if (wrap64 (x1 + 1)) < (x0.size : Int) then (if 0 ≤ (wrap64 (x1 + 1)) then ((PA.r8digit.f (bt x0 (wrap64 (x1 + 1)))).bind fun t104 => (r8read.j1 k x0 x1 x2 x8 (decide (t104 ≥ 0)))) else (none)) else (r8read.j1 k x0 x1 x2 x8 false)) else (r8read.j1 k x0 x1 x2 x8 false))
def r8read.j1 : Nat → ByteArray → Int → Int → Int → Bool → Option (Int × Int)
  | 0, _, _, _, _, _ => none
  | k + 1, x0, x1, x2, x8, x49 => if x49 = true then (some (wrap64 (x1 + 2), 0)) else (if x8 = 38 then (r8read.j2 k x0 x1 x2 x8 true) else (r8read.j2 k x0 x1 x2 x8 (x8 == 124)))
def r8read.j2 : Nat → ByteArray → Int → Int → Int → Bool → Option (Int × Int)
  | 0, _, _, _, _, _ => none
  | k + 1, x0, x1, x2, x8, x69 => if x69 = true then ((r8read.f k x0 (wrap64 (x1 + 1)) x2).bind fun bt105 => (if bt105.1 < 0 then (some ((-1), 0)) else ((r8read.f k x0 bt105.1 x2).bind fun bt107 => (some (bt107.1, mx bt105.2 bt107.2))))) else (if x8 = 60 then (r8read.j3 k x0 x1 x2 x8 true) else (r8read.j3 k x0 x1 x2 x8 (x8 == 91)))
def r8read.j3 : Nat → ByteArray → Int → Int → Int → Bool → Option (Int × Int)
  | 0, _, _, _, _, _ => none
  | k + 1, x0, x1, x2, x8, x97 => if x97 = true then ((r8read.f k x0 (wrap64 (x1 + 1)) x2).bind fun bt109 => (some (bt109.1, wrap64 (bt109.2 + 1)))) else (if x8 = 109 then (if (wrap64 (x1 + 1)) < (x0.size : Int) then (if 0 ≤ (wrap64 (x1 + 1)) then ((PA.r8letter.f (bt x0 (wrap64 (x1 + 1)))).bind fun t111 => (if t111 ≥ 0 then ((PA.r8letter.f (bt x0 (wrap64 (x1 + 1)))).bind fun t112 => (if 0 ≤ t112 then (r8read.j4 k x0 x1 x2 ((Go.bits .and .i64 (shr .i64 x2 t112) 1) == 0)) else (none))) else (r8read.j4 k x0 x1 x2 false))) else (none)) else (r8read.j4 k x0 x1 x2 false)) else (if x8 = 103 then (if (wrap64 (x1 + 1)) < (x0.size : Int) then (if 0 ≤ (wrap64 (x1 + 1)) then ((PA.r8letter.f (bt x0 (wrap64 (x1 + 1)))).bind fun t113 => (if t113 ≥ 0 then ((PA.r8letter.f (bt x0 (wrap64 (x1 + 1)))).bind fun t114 => (if 0 ≤ t114 then (r8read.j4 k x0 x1 x2 ((Go.bits .and .i64 (shr .i64 x2 t114) 1) == 0)) else (none))) else (r8read.j4 k x0 x1 x2 false))) else (none)) else (r8read.j4 k x0 x1 x2 false)) else (r8read.j4 k x0 x1 x2 false)))
def r8read.j4 : Nat → ByteArray → Int → Int → Bool → Option (Int × Int)
  | 0, _, _, _, _ => none
  | k + 1, x0, x1, x2, x115 => if x115 = true then (if 0 ≤ (wrap64 (x1 + 1)) then (if (wrap64 (x1 + 1)) < (x0.size : Int) then ((PA.r8letter.f (bt x0 (wrap64 (x1 + 1)))).bind fun t115 => (if 0 ≤ t115 then ((r8read.f k x0 (wrap64 (x1 + 2)) (Go.bits .or .i64 x2 (shl .i64 1 t115))).bind fun bt116 => (some (bt116.1, bt116.2))) else (none))) else (none)) else (none)) else (some ((-1), 0))
def r8read.f : Nat → ByteArray → Int → Int → Option (Int × Int)
  | 0, _, _, _ => none
  | k + 1, a0, a1, a2 => if a1 ≥ (a0.size : Int) then (some ((-1), 0)) else (if 0 ≤ a1 then (if a1 < (a0.size : Int) then ((PA.r8digit.f (bt a0 a1)).bind fun t101 => (if t101 ≥ 0 then (r8read.j0 k a0 a1 a2 (bt a0 a1) true) else (if (bt a0 a1) = 116 then (r8read.j0 k a0 a1 a2 (bt a0 a1) true) else (if (bt a0 a1) = 102 then (r8read.j0 k a0 a1 a2 (bt a0 a1) true) else ((PA.r8letter.f (bt a0 a1)).bind fun t102 => (if t102 ≥ 0 then ((PA.r8letter.f (bt a0 a1)).bind fun t103 => (if 0 ≤ t103 then (r8read.j0 k a0 a1 a2 (bt a0 a1) ((Go.bits .and .i64 (shr .i64 a2 t103) 1) == 1)) else (none))) else (r8read.j0 k a0 a1 a2 (bt a0 a1) false))))))) else (none)) else (none))
end
theorem r8read.mono_l : ∀ k, (∀ y0 y1 y2, LeO (r8read.f k y0 y1 y2) (r8read.f (k + 1) y0 y1 y2)) ∧ (∀ y0 y1 y2 y3 y4, LeO (r8read.j0 k y0 y1 y2 y3 y4) (r8read.j0 (k + 1) y0 y1 y2 y3 y4)) ∧ (∀ y0 y1 y2 y3 y4, LeO (r8read.j1 k y0 y1 y2 y3 y4) (r8read.j1 (k + 1) y0 y1 y2 y3 y4)) ∧ (∀ y0 y1 y2 y3 y4, LeO (r8read.j2 k y0 y1 y2 y3 y4) (r8read.j2 (k + 1) y0 y1 y2 y3 y4)) ∧ (∀ y0 y1 y2 y3 y4, LeO (r8read.j3 k y0 y1 y2 y3 y4) (r8read.j3 (k + 1) y0 y1 y2 y3 y4)) ∧ (∀ y0 y1 y2 y3, LeO (r8read.j4 k y0 y1 y2 y3) (r8read.j4 (k + 1) y0 y1 y2 y3))
 | 0 => ⟨fun _ _ _ r h => by simp [r8read.f] at h, fun _ _ _ _ _ r h => by simp [r8read.j0] at h, fun _ _ _ _ _ r h => by simp [r8read.j1] at h, fun _ _ _ _ _ r h => by simp [r8read.j2] at h, fun _ _ _ _ _ r h => by simp [r8read.j3] at h, fun _ _ _ _ r h => by simp [r8read.j4] at h⟩
 | k + 1 => by
  obtain ⟨ih0, ih1, ih2, ih3, ih4, ih5⟩ := r8read.mono_l k
  refine ⟨?_, ?_, ?_, ?_, ?_, ?_⟩
  ·intro y0 y1 y2
   unfold r8read.f
   repeat' first
   | (with_reducible exact ih0 _ _ _)
   | (with_reducible exact ih1 _ _ _ _ _)
   | (with_reducible exact ih2 _ _ _ _ _)
   | (with_reducible exact ih3 _ _ _ _ _)
   | (with_reducible exact ih4 _ _ _ _ _)
   | (with_reducible exact ih5 _ _ _ _)
   | (with_reducible exact LeO.refl _)
   | (with_reducible exact LeO.none _)
   | (with_reducible refine LeO.ite ?_ ?_)
   | (with_reducible refine LeO.bind ?_ (fun _ => ?_))
   | exact ih0 _ _ _
   | exact ih1 _ _ _ _ _
   | exact ih2 _ _ _ _ _
   | exact ih3 _ _ _ _ _
   | exact ih4 _ _ _ _ _
   | exact ih5 _ _ _ _
   | exact LeO.none _
   | refine LeO.ite ?_ ?_
   | refine LeO.bind ?_ (fun _ => ?_)
  ·intro y0 y1 y2 y3 y4
   unfold r8read.j0
   repeat' first
   | (with_reducible exact ih0 _ _ _)
   | (with_reducible exact ih1 _ _ _ _ _)
   | (with_reducible exact ih2 _ _ _ _ _)
   | (with_reducible exact ih3 _ _ _ _ _)
   | (with_reducible exact ih4 _ _ _ _ _)
   | (with_reducible exact ih5 _ _ _ _)
   | (with_reducible exact LeO.refl _)
   | (with_reducible exact LeO.none _)
   | (with_reducible refine LeO.ite ?_ ?_)
   | (with_reducible refine LeO.bind ?_ (fun _ => ?_))
   | exact ih0 _ _ _
   | exact ih1 _ _ _ _ _
   | exact ih2 _ _ _ _ _
   | exact ih3 _ _ _ _ _
   | exact ih4 _ _ _ _ _
   | exact ih5 _ _ _ _
   | exact LeO.none _
   | refine LeO.ite ?_ ?_
   | refine LeO.bind ?_ (fun _ => ?_)
  ·intro y0 y1 y2 y3 y4
   unfold r8read.j1
   repeat' first
   | (with_reducible exact ih0 _ _ _)
   | (with_reducible exact ih1 _ _ _ _ _)
   | (with_reducible exact ih2 _ _ _ _ _)
   | (with_reducible exact ih3 _ _ _ _ _)
   | (with_reducible exact ih4 _ _ _ _ _)
   | (with_reducible exact ih5 _ _ _ _)
   | (with_reducible exact LeO.refl _)
   | (with_reducible exact LeO.none _)
   | (with_reducible refine LeO.ite ?_ ?_)
   | (with_reducible refine LeO.bind ?_ (fun _ => ?_))
   | exact ih0 _ _ _
   | exact ih1 _ _ _ _ _
   | exact ih2 _ _ _ _ _
   | exact ih3 _ _ _ _ _
   | exact ih4 _ _ _ _ _
   | exact ih5 _ _ _ _
   | exact LeO.none _
   | refine LeO.ite ?_ ?_
   | refine LeO.bind ?_ (fun _ => ?_)
  ·intro y0 y1 y2 y3 y4
   unfold r8read.j2
   repeat' first
   | (with_reducible exact ih0 _ _ _)
   | (with_reducible exact ih1 _ _ _ _ _)
   | (with_reducible exact ih2 _ _ _ _ _)
   | (with_reducible exact ih3 _ _ _ _ _)
   | (with_reducible exact ih4 _ _ _ _ _)
   | (with_reducible exact ih5 _ _ _ _)
   | (with_reducible exact LeO.refl _)
   | (with_reducible exact LeO.none _)
   | (with_reducible refine LeO.ite ?_ ?_)
   | (with_reducible refine LeO.bind ?_ (fun _ => ?_))
   | exact ih0 _ _ _
   | exact ih1 _ _ _ _ _
   | exact ih2 _ _ _ _ _
   | exact ih3 _ _ _ _ _
   | exact ih4 _ _ _ _ _
   | exact ih5 _ _ _ _
   | exact LeO.none _
   | refine LeO.ite ?_ ?_
   | refine LeO.bind ?_ (fun _ => ?_)
  ·intro y0 y1 y2 y3 y4
   unfold r8read.j3
   repeat' first
   | (with_reducible exact ih0 _ _ _)
   | (with_reducible exact ih1 _ _ _ _ _)
   | (with_reducible exact ih2 _ _ _ _ _)
   | (with_reducible exact ih3 _ _ _ _ _)
   | (with_reducible exact ih4 _ _ _ _ _)
   | (with_reducible exact ih5 _ _ _ _)
   | (with_reducible exact LeO.refl _)
   | (with_reducible exact LeO.none _)
   | (with_reducible refine LeO.ite ?_ ?_)
   | (with_reducible refine LeO.bind ?_ (fun _ => ?_))
   | exact ih0 _ _ _
   | exact ih1 _ _ _ _ _
   | exact ih2 _ _ _ _ _
   | exact ih3 _ _ _ _ _
   | exact ih4 _ _ _ _ _
   | exact ih5 _ _ _ _
   | exact LeO.none _
   | refine LeO.ite ?_ ?_
   | refine LeO.bind ?_ (fun _ => ?_)
  ·intro y0 y1 y2 y3
   unfold r8read.j4
   repeat' first
   | (with_reducible exact ih0 _ _ _)
   | (with_reducible exact ih1 _ _ _ _ _)
   | (with_reducible exact ih2 _ _ _ _ _)
   | (with_reducible exact ih3 _ _ _ _ _)
   | (with_reducible exact ih4 _ _ _ _ _)
   | (with_reducible exact ih5 _ _ _ _)
   | (with_reducible exact LeO.refl _)
   | (with_reducible exact LeO.none _)
   | (with_reducible refine LeO.ite ?_ ?_)
   | (with_reducible refine LeO.bind ?_ (fun _ => ?_))
   | exact ih0 _ _ _
   | exact ih1 _ _ _ _ _
   | exact ih2 _ _ _ _ _
   | exact ih3 _ _ _ _ _
   | exact ih4 _ _ _ _ _
   | exact ih5 _ _ _ _
   | exact LeO.none _
   | refine LeO.ite ?_ ?_
   | refine LeO.bind ?_ (fun _ => ?_)
set_option maxHeartbeats 8000000 in
set_option maxRecDepth 100000 in
theorem r8read.calls (k : Nat) : ∀ (a0 : ByteArray) (a1 : Int) (a2 : Int) (r1 : Int) (r2 : Int) (w : World) (h : r8read.f k a0 a1 a2 = some (r1, r2)),
  Calls Try.prog 50 #[.string a0, .int .i64 a1, .int .i64 a2] w fun e w' => e = .returned (.tuple #[.int .i64 r1, .int .i64 r2]) ∧ Below w.heap.size w w' := by
 induction k using Nat.strongRecOn with
 | _ k ih =>
 intro a0 a1 a2 r1 r2 w h
 cases k with
 | zero => exact absurd h (by simp [r8read.f])
 | succ k =>
 simp only [r8read.f] at h
 have HB := As0.mk (Below.refl w.heap.size w)
 have H : (if a1 ≥ (a0.size : Int) then (some ((-1), 0)) else (if 0 ≤ a1 then (if a1 < (a0.size : Int) then ((PA.r8digit.f (bt a0 a1)).bind fun t101 => (if t101 ≥ 0 then (r8read.j0 k a0 a1 a2 (bt a0 a1) true) else (if (bt a0 a1) = 116 then (r8read.j0 k a0 a1 a2 (bt a0 a1) true) else (if (bt a0 a1) = 102 then (r8read.j0 k a0 a1 a2 (bt a0 a1) true) else ((PA.r8letter.f (bt a0 a1)).bind fun t102 => (if t102 ≥ 0 then ((PA.r8letter.f (bt a0 a1)).bind fun t103 => (if 0 ≤ t103 then (r8read.j0 k a0 a1 a2 (bt a0 a1) ((Go.bits .and .i64 (shr .i64 a2 t103) 1) == 1)) else (none))) else (r8read.j0 k a0 a1 a2 (bt a0 a1) false))))))) else (none)) else (none))) = some (r1, r2) := h
 clear h
 by_cases c4 : a1 ≥ (a0.size : Int)
 ·rw [if_pos c4] at H
  have c4b0 : decide ((a0.size : Int) ≤ a1) = true := decide_eq_true c4
  clear c4
  simp only [Option.some.injEq, Prod.mk.injEq] at H
  obtain ⟨rfl, rfl⟩ := H
  go_enter Try.func50, Try.ntmps50
  go_wp2
  go_ret2
  exact ⟨by first | rfl | (simp [errW_none, errW_some] <;> rfl) | (simp [*, errW_none, errW_some] <;> rfl), by repeat (first | (with_reducible first | exact HB.out | apply below_alloc | apply pwd | apply bd1) | exact HB.out)⟩
 ·rw [if_neg c4] at H
  have c4b0 : decide ((a0.size : Int) ≤ a1) = false := decide_eq_false c4
  clear c4
  by_cases c5 : 0 ≤ a1
  ·rw [if_pos c5] at H
   have c5b0 : decide (0 ≤ a1) = true := decide_eq_true c5
   clear c5
   by_cases c6 : a1 < (a0.size : Int)
   ·rw [if_pos c6] at H
    have c6b0 : decide (a1 < (a0.size : Int)) = true := decide_eq_true c6
    clear c6
    have HC8 := As0.mk H
    clear H
    have p7 : 0 ≤ (a1 : Int) := of_decide_eq_true (by first | (with_reducible assumption) | assumption)
    have q7 : a1 < (a0.size : Int) := of_decide_eq_true (by first | (with_reducible assumption) | assumption)
    have hx7 := bt_at a0 a1
    replace p7 := eq_true p7
    replace q7 := eq_true q7
    go_enter Try.func50, Try.ntmps50
    go_upto_region 4 with (fail)
    go_cut [22] (fun v22 wc => ∃ (kq : Nat) (x22_7 : Bool), v22 = .bool x22_7 ∧ As0 (r8read.j0 kq a0 a1 a2 (bt a0 a1) x22_7 = some (r1, r2)) ∧ As0 (kq ≤ k) ∧ As0 (Below w.heap.size w wc))
    case first =>
     have H := HC8.out
     clear HC8
     replace H := Option.bind_eq_some_iff.mp H
     obtain ⟨t101, A90, H⟩ := H
     replace H : (if t101 ≥ 0 then (r8read.j0 k a0 a1 a2 (bt a0 a1) true) else (if (bt a0 a1) = 116 then (r8read.j0 k a0 a1 a2 (bt a0 a1) true) else (if (bt a0 a1) = 102 then (r8read.j0 k a0 a1 a2 (bt a0 a1) true) else ((PA.r8letter.f (bt a0 a1)).bind fun t102 => (if t102 ≥ 0 then ((PA.r8letter.f (bt a0 a1)).bind fun t103 => (if 0 ≤ t103 then (r8read.j0 k a0 a1 a2 (bt a0 a1) ((Go.bits .and .i64 (shr .i64 a2 t103) 1) == 1)) else (none))) else (r8read.j0 k a0 a1 a2 (bt a0 a1) false)))))) = some (r1, r2) := H
     have A9 := As0.mk A90
     clear A90
     by_cases c10 : t101 ≥ 0
     ·rw [if_pos c10] at H
      have c10b0 : decide (0 ≤ t101) = true := decide_eq_true c10
      clear c10
      (first | rw [c10b0] | (simp only [i64_w, i32_w]; rw [c10b0]) | skip)
      have H' := As0.mk H
      clear H
      go_wp2_with (first | ((with_reducible refine gate_callee (f := 59) rfl ?_); refine goesL_ (some 24) rfl rfl Try.func59 (by kernel_rfl) rfl #[.int .u8 (bt a0 a1)] rfl (by (try simp only [sm]); first | done | rfl | (simp only [List.length_drop, List.length_take]; rfl)) ?_; (with_reducible refine (PA.r8digit.calls (bt a0 a1) t101 _ A9.out).mono ?_); rintro e w' ⟨rfl, ⟨nd, rfl⟩⟩; refine ⟨_, rfl, ?_⟩))
      go_meet
      case rel => exact ⟨_, (true), (by first | rfl | (simp; done) | (simp [*]; done)), H', ⟨by first | omega | exact Nat.le_refl _⟩, ⟨by repeat (first | (with_reducible first | exact HB.out | apply below_alloc | apply pwd | apply bd1) | exact HB.out)⟩⟩
     ·rw [if_neg c10] at H
      have c10b0 : decide (0 ≤ t101) = false := decide_eq_false c10
      clear c10
      (first | rw [c10b0] | (simp only [i64_w, i32_w]; rw [c10b0]) | skip)
      by_cases c11 : (bt a0 a1) = 116
      ·rw [if_pos c11] at H
       have c11b0 : ((bt a0 a1) == 116) = true := beq_iff_eq.mpr c11
       have c11b1 : ((bt a0 a1) != 116) = false := bne_eq_false_iff_eq.mpr c11
       clear c11
       have H' := As0.mk H
       clear H
       go_wp2_with (first | ((with_reducible refine gate_callee (f := 59) rfl ?_); refine goesL_ (some 24) rfl rfl Try.func59 (by kernel_rfl) rfl #[.int .u8 (bt a0 a1)] rfl (by (try simp only [sm]); first | done | rfl | (simp only [List.length_drop, List.length_take]; rfl)) ?_; (with_reducible refine (PA.r8digit.calls (bt a0 a1) t101 _ A9.out).mono ?_); rintro e w' ⟨rfl, ⟨nd, rfl⟩⟩; refine ⟨_, rfl, ?_⟩))
       go_meet
       case rel => exact ⟨_, (true), (by first | rfl | (simp; done) | (simp [*]; done)), H', ⟨by first | omega | exact Nat.le_refl _⟩, ⟨by repeat (first | (with_reducible first | exact HB.out | apply below_alloc | apply pwd | apply bd1) | exact HB.out)⟩⟩
      ·rw [if_neg c11] at H
       have c11b0 : ((bt a0 a1) == 116) = false := beq_eq_false_iff_ne.mpr c11
       have c11b1 : ((bt a0 a1) != 116) = true := bne_iff_ne.mpr c11
       by_cases c12 : (bt a0 a1) = 102
       ·rw [if_pos c12] at H
        have c12b0 : ((bt a0 a1) == 102) = true := beq_iff_eq.mpr c12
        have c12b1 : ((bt a0 a1) != 102) = false := bne_eq_false_iff_eq.mpr c12
        clear c12
        have H' := As0.mk H
        clear H
        go_wp2_with (first | ((with_reducible refine gate_callee (f := 59) rfl ?_); refine goesL_ (some 24) rfl rfl Try.func59 (by kernel_rfl) rfl #[.int .u8 (bt a0 a1)] rfl (by (try simp only [sm]); first | done | rfl | (simp only [List.length_drop, List.length_take]; rfl)) ?_; (with_reducible refine (PA.r8digit.calls (bt a0 a1) t101 _ A9.out).mono ?_); rintro e w' ⟨rfl, ⟨nd, rfl⟩⟩; refine ⟨_, rfl, ?_⟩))
        go_meet
        case rel => exact ⟨_, (true), (by first | rfl | (simp; done) | (simp [*]; done)), H', ⟨by first | omega | exact Nat.le_refl _⟩, ⟨by repeat (first | (with_reducible first | exact HB.out | apply below_alloc | apply pwd | apply bd1) | exact HB.out)⟩⟩
       ·rw [if_neg c12] at H
        have c12b0 : ((bt a0 a1) == 102) = false := beq_eq_false_iff_ne.mpr c12
        have c12b1 : ((bt a0 a1) != 102) = true := bne_iff_ne.mpr c12
        replace H := Option.bind_eq_some_iff.mp H
        obtain ⟨t102, A130, H⟩ := H
        replace H : (if t102 ≥ 0 then ((PA.r8letter.f (bt a0 a1)).bind fun t103 => (if 0 ≤ t103 then (r8read.j0 k a0 a1 a2 (bt a0 a1) ((Go.bits .and .i64 (shr .i64 a2 t103) 1) == 1)) else (none))) else (r8read.j0 k a0 a1 a2 (bt a0 a1) false)) = some (r1, r2) := H
        have A13 := As0.mk A130
        clear A130
        by_cases c14 : t102 ≥ 0
        ·rw [if_pos c14] at H
         have c14b0 : decide (0 ≤ t102) = true := decide_eq_true c14
         clear c14
         replace H := Option.bind_eq_some_iff.mp H
         obtain ⟨t103, A150, H⟩ := H
         replace H : (if 0 ≤ t103 then (r8read.j0 k a0 a1 a2 (bt a0 a1) ((Go.bits .and .i64 (shr .i64 a2 t103) 1) == 1)) else (none)) = some (r1, r2) := H
         have A15 := As0.mk A150
         clear A150
         by_cases c16 : 0 ≤ t103
         ·rw [if_pos c16] at H
          have c16b0 := eq_true c16
          have c16b1 : decide (0 ≤ t103) = true := decide_eq_true c16
          clear c16
          obtain ⟨ji17, hji17⟩ : ∃ j_ : Int, (shr .i64 a2 t103) = j_ := ⟨_, rfl⟩
          replace H : (r8read.j0 k a0 a1 a2 (bt a0 a1) ((Go.bits .and .i64 (ji17) 1) == 1)) = some (r1, r2) := by first | (rw [hji17] at H; exact H) | (simp only [hji17] at H ⊢; exact H)
          (try rw [hji17] at A9)
          (try rw [hji17] at A13)
          (try rw [hji17] at A15)
          have hji17_ : (a2 / 2 ^ min t103.toNat 64) = ji17 := hji17
          have hji17z : t103 ≤ 64 → (a2 / 2 ^ t103.toNat) = ji17 := shr_small hji17
          have H' := As0.mk H
          clear H
          have e_t103 : t103 = t102 := Option.some.inj (A15.out.symm.trans A13.out)
          (try rw [e_t103] at c10b0)
          (try rw [e_t103] at c11b0)
          (try rw [e_t103] at c11b1)
          (try rw [e_t103] at c12b0)
          (try rw [e_t103] at c12b1)
          (try rw [e_t103] at c14b0)
          (try rw [e_t103] at c16b0)
          (try rw [e_t103] at c16b1)
          (try rw [e_t103] at hji17)
          (try rw [e_t103] at hji17_)
          (try rw [e_t103] at hji17z)
          go_wp2_with (first | ((with_reducible refine gate_callee (f := 59) rfl ?_); refine goesL_ (some 24) rfl rfl Try.func59 (by kernel_rfl) rfl #[.int .u8 (bt a0 a1)] rfl (by (try simp only [sm]); first | done | rfl | (simp only [List.length_drop, List.length_take]; rfl)) ?_; (with_reducible refine (PA.r8digit.calls (bt a0 a1) t101 _ A9.out).mono ?_); rintro e w' ⟨rfl, ⟨nd, rfl⟩⟩; refine ⟨_, rfl, ?_⟩) | (go_at_call 60; (with_reducible refine (PA.r8letter.calls (bt a0 a1) t102 _ A13.out).mono ?_); rintro e w' ⟨rfl, ⟨nd, rfl⟩⟩) | (go_at_call 60; (with_reducible refine (PA.r8letter.calls (bt a0 a1) t103 _ A15.out).mono ?_); rintro e w' ⟨rfl, ⟨nd, rfl⟩⟩))
          go_meet
          case rel => exact ⟨_, (((Go.bits .and .i64 (ji17) 1) == 1)), (by first | rfl | (simp; done) | (simp only [← hji17] <;> (first | rfl | simp)) | (simp [*]; done)), H', ⟨by first | omega | exact Nat.le_refl _⟩, ⟨by repeat (first | (with_reducible first | exact HB.out | apply below_alloc | apply pwd | apply bd1) | exact HB.out)⟩⟩
         ·rw [if_neg c16] at H
          exact absurd H (by simp)
        ·rw [if_neg c14] at H
         have c14b0 : decide (0 ≤ t102) = false := decide_eq_false c14
         clear c14
         have H' := As0.mk H
         clear H
         go_wp2_with (first | ((with_reducible refine gate_callee (f := 59) rfl ?_); refine goesL_ (some 24) rfl rfl Try.func59 (by kernel_rfl) rfl #[.int .u8 (bt a0 a1)] rfl (by (try simp only [sm]); first | done | rfl | (simp only [List.length_drop, List.length_take]; rfl)) ?_; (with_reducible refine (PA.r8digit.calls (bt a0 a1) t101 _ A9.out).mono ?_); rintro e w' ⟨rfl, ⟨nd, rfl⟩⟩; refine ⟨_, rfl, ?_⟩) | (go_at_call 60; (with_reducible refine (PA.r8letter.calls (bt a0 a1) t102 _ A13.out).mono ?_); rintro e w' ⟨rfl, ⟨nd, rfl⟩⟩))
         go_meet
         case rel => exact ⟨_, (false), (by first | rfl | (simp; done) | (simp [*]; done)), H', ⟨by first | omega | exact Nat.le_refl _⟩, ⟨by repeat (first | (with_reducible first | exact HB.out | apply below_alloc | apply pwd | apply bd1) | exact HB.out)⟩⟩
    case rest =>
     clear HC8
     try clear c1
     try clear p2
     try clear c4
     try clear c4b0
     try clear c5
     try clear c5b0
     try clear c6
     try clear c6b0
     try clear p7
     try clear q7
     try clear hx7
     try clear c10
     try clear c10b0
     try clear c11
     try clear c11b0
     try clear c11b1
     try clear c12
     try clear c12b0
     try clear c12b1
     try clear c14
     try clear c14b0
     try clear c16
     try clear c16b0
     try clear c16b1
     try clear p7
     try clear q7
     obtain ⟨kq, x22_7, rfl, HA, HJ7, HB⟩ := hcut
     cases kq with
     | zero => exact absurd HA.out (by simp [r8read.j0])
     | succ kj7 =>
      have H := HA.out
      clear HA
      simp only [r8read.j0] at H
      by_cases c18 : x22_7 = true
      ·subst c18
       have H1 : (some (wrap64 (a1 + 1), 0)) = some (r1, r2) := by rw [if_pos rfl] at H; exact H
       clear H
       have H := H1
       clear H1
       simp only [Option.some.injEq, Prod.mk.injEq] at H
       obtain ⟨rfl, rfl⟩ := H
       go_wp2
       go_ret2
       exact ⟨by first | rfl | (simp [errW_none, errW_some] <;> rfl) | (simp [*, errW_none, errW_some] <;> rfl), by repeat (first | (with_reducible first | exact HB.out | apply below_alloc | apply pwd | apply bd1) | exact HB.out)⟩
      ·replace c18 := Bool.eq_false_iff.mpr c18
       subst c18
       have H1 : (if (bt a0 a1) = 45 then (if (wrap64 (a1 + 1)) < (a0.size : Int) then (if 0 ≤ (wrap64 (a1 + 1)) then ((PA.r8digit.f (bt a0 (wrap64 (a1 + 1)))).bind fun t104 => (r8read.j1 kj7 a0 a1 a2 (bt a0 a1) (decide (t104 ≥ 0)))) else (none)) else (r8read.j1 kj7 a0 a1 a2 (bt a0 a1) false)) else (r8read.j1 kj7 a0 a1 a2 (bt a0 a1) false)) = some (r1, r2) := by rw [if_neg (show ¬ (false = true) by decide)] at H; exact H
       clear H
       have H := H1
       clear H1
       have HC19 := As0.mk H
       clear H
       go_upto_region 6 with (fail)
       go_cut [49] (fun v49 wc => ∃ (kq : Nat) (x49_18 : Bool), v49 = .bool x49_18 ∧ As0 (r8read.j1 kq a0 a1 a2 (bt a0 a1) x49_18 = some (r1, r2)) ∧ As0 (kq ≤ kj7) ∧ As0 (Below w.heap.size w wc))
       case first =>
        have H := HC19.out
        clear HC19
        by_cases c20 : (bt a0 a1) = 45
        ·rw [if_pos c20] at H
         have c20b0 : ((bt a0 a1) == 45) = true := beq_iff_eq.mpr c20
         have c20b1 : ((bt a0 a1) != 45) = false := bne_eq_false_iff_eq.mpr c20
         clear c20
         (first | rw [c20b0] | (simp only [i64_w, i32_w]; rw [c20b0]) | skip)
         by_cases c21 : (wrap64 (a1 + 1)) < (a0.size : Int)
         ·rw [if_pos c21] at H
          have c21b0 : decide ((wrap64 (a1 + 1)) < (a0.size : Int)) = true := decide_eq_true c21
          clear c21
          obtain ⟨ji22, hji22⟩ : ∃ j_ : Int, (wrap64 (a1 + 1)) = j_ := ⟨_, rfl⟩
          replace H : (if 0 ≤ (ji22) then ((PA.r8digit.f (bt a0 (ji22))).bind fun t104 => (r8read.j1 kj7 a0 a1 a2 (bt a0 a1) (decide (t104 ≥ 0)))) else (none)) = some (r1, r2) := by first | (rw [hji22] at H; exact H) | (simp only [hji22] at H ⊢; exact H)
          (try rw [hji22] at c21b0)
          have hji22w : (IntKind.i64.wrap (a1 + 1)) = ji22 := (i64_w _).trans hji22
          by_cases c23 : 0 ≤ (ji22)
          ·rw [if_pos c23] at H
           have c23b0 : decide (0 ≤ (ji22)) = true := decide_eq_true c23
           clear c23
           replace H := Option.bind_eq_some_iff.mp H
           obtain ⟨t104, A250, H⟩ := H
           replace H : (r8read.j1 kj7 a0 a1 a2 (bt a0 a1) (decide (t104 ≥ 0))) = some (r1, r2) := H
           have A25 := As0.mk A250
           clear A250
           have H' := As0.mk H
           clear H
           have p24 : 0 ≤ ((ji22) : Int) := of_decide_eq_true (by first | (with_reducible assumption) | assumption)
           have q24 : (ji22) < (a0.size : Int) := of_decide_eq_true (by first | (with_reducible assumption) | assumption)
           have hx24 := bt_at a0 (ji22)
           replace p24 := eq_true p24
           replace q24 := eq_true q24
           go_wp2_with (first | (go_at_call 59; (with_reducible refine (PA.r8digit.calls (bt a0 (ji22)) t104 _ A25.out).mono ?_); rintro e w' ⟨rfl, ⟨nd, rfl⟩⟩))
           go_meet
           case rel => exact ⟨_, (decide (t104 ≥ 0)), (by first | rfl | (simp; done) | (simp [*]; done)), H', ⟨by have := HJ7.out; first | omega | exact Nat.le_refl _⟩, ⟨by repeat (first | (with_reducible first | exact HB.out | apply below_alloc | apply pwd | apply bd1) | exact HB.out)⟩⟩
          ·rw [if_neg c23] at H
           exact absurd H (by simp)
         ·rw [if_neg c21] at H
          have c21b0 : decide ((wrap64 (a1 + 1)) < (a0.size : Int)) = false := decide_eq_false c21
          clear c21
          have H' := As0.mk H
          clear H
          go_wp2
          go_meet
          case rel => exact ⟨_, (false), (by first | rfl | (simp; done) | (simp [*]; done)), H', ⟨by have := HJ7.out; first | omega | exact Nat.le_refl _⟩, ⟨by repeat (first | (with_reducible first | exact HB.out | apply below_alloc | apply pwd | apply bd1) | exact HB.out)⟩⟩
        ·rw [if_neg c20] at H
         have c20b0 : ((bt a0 a1) == 45) = false := beq_eq_false_iff_ne.mpr c20
         have c20b1 : ((bt a0 a1) != 45) = true := bne_iff_ne.mpr c20
         (first | rw [c20b0] | (simp only [i64_w, i32_w]; rw [c20b0]) | skip)
         have H' := As0.mk H
         clear H
         go_wp2
         go_meet
         case rel => exact ⟨_, (false), (by first | rfl | (simp; done) | (simp [*]; done)), H', ⟨by have := HJ7.out; first | omega | exact Nat.le_refl _⟩, ⟨by repeat (first | (with_reducible first | exact HB.out | apply below_alloc | apply pwd | apply bd1) | exact HB.out)⟩⟩
       case rest =>
        clear HC19
        try clear c1
        try clear c2
        try clear p2
        try clear q2
        try clear hx2
        try clear c4
        try clear c4b0
        try clear c5
        try clear c5b0
        try clear c6
        try clear c6b0
        try clear p6
        try clear p7
        try clear q7
        try clear hx7
        try clear c10
        try clear c10b0
        try clear c11
        try clear c11b0
        try clear c11b1
        try clear c12
        try clear c12b0
        try clear c12b1
        try clear c14
        try clear c14b0
        try clear c16
        try clear c16b0
        try clear c16b1
        try clear c18
        try clear c20
        try clear c20b0
        try clear c20b1
        try clear c21
        try clear c21b0
        try clear c23
        try clear c23b0
        try clear p24
        try clear q24
        try clear hx24
        try clear p2
        try clear p24
        try clear p7
        try clear q24
        try clear q7
        obtain ⟨kq, x49_18, rfl, HA, HJ18, HB⟩ := hcut
        cases kq with
        | zero => exact absurd HA.out (by simp [r8read.j1])
        | succ kj18 =>
         have H := HA.out
         clear HA
         simp only [r8read.j1] at H
         by_cases c26 : x49_18 = true
         ·subst c26
          have H1 : (some (wrap64 (a1 + 2), 0)) = some (r1, r2) := by rw [if_pos rfl] at H; exact H
          clear H
          have H := H1
          clear H1
          simp only [Option.some.injEq, Prod.mk.injEq] at H
          obtain ⟨rfl, rfl⟩ := H
          go_wp2
          go_ret2
          exact ⟨by first | rfl | (simp [errW_none, errW_some] <;> rfl) | (simp [*, errW_none, errW_some] <;> rfl), by repeat (first | (with_reducible first | exact HB.out | apply below_alloc | apply pwd | apply bd1) | exact HB.out)⟩
         ·replace c26 := Bool.eq_false_iff.mpr c26
          subst c26
          have H1 : (if (bt a0 a1) = 38 then (r8read.j2 kj18 a0 a1 a2 (bt a0 a1) true) else (r8read.j2 kj18 a0 a1 a2 (bt a0 a1) ((bt a0 a1) == 124))) = some (r1, r2) := by rw [if_neg (show ¬ (false = true) by decide)] at H; exact H
          clear H
          have H := H1
          clear H1
          have HC27 := As0.mk H
          clear H
          go_upto_region 8 with (fail)
          go_cut [69] (fun v69 wc => ∃ (kq : Nat) (x69_26 : Bool), v69 = .bool x69_26 ∧ As0 (r8read.j2 kq a0 a1 a2 (bt a0 a1) x69_26 = some (r1, r2)) ∧ As0 (kq ≤ kj18) ∧ As0 (Below w.heap.size w wc))
          case first =>
           have H := HC27.out
           clear HC27
           by_cases c28 : (bt a0 a1) = 38
           ·rw [if_pos c28] at H
            have c28b0 : ((bt a0 a1) == 38) = true := beq_iff_eq.mpr c28
            have c28b1 : ((bt a0 a1) != 38) = false := bne_eq_false_iff_eq.mpr c28
            clear c28
            (first | rw [c28b0] | (simp only [i64_w, i32_w]; rw [c28b0]) | skip)
            have H' := As0.mk H
            clear H
            go_wp2
            go_meet
            case rel => exact ⟨_, (true), (by first | rfl | (simp; done) | (simp [*]; done)), H', ⟨by have := HJ7.out; have := HJ18.out; first | omega | exact Nat.le_refl _⟩, ⟨by repeat (first | (with_reducible first | exact HB.out | apply below_alloc | apply pwd | apply bd1) | exact HB.out)⟩⟩
           ·rw [if_neg c28] at H
            have c28b0 : ((bt a0 a1) == 38) = false := beq_eq_false_iff_ne.mpr c28
            have c28b1 : ((bt a0 a1) != 38) = true := bne_iff_ne.mpr c28
            (first | rw [c28b0] | (simp only [i64_w, i32_w]; rw [c28b0]) | skip)
            have H' := As0.mk H
            clear H
            go_wp2
            go_meet
            case rel => exact ⟨_, (((bt a0 a1) == 124)), (by first | rfl | (simp; done) | (simp [*]; done)), H', ⟨by have := HJ7.out; have := HJ18.out; first | omega | exact Nat.le_refl _⟩, ⟨by repeat (first | (with_reducible first | exact HB.out | apply below_alloc | apply pwd | apply bd1) | exact HB.out)⟩⟩
          case rest =>
           clear HC27
           try clear c1
           try clear c2
           try clear p2
           try clear q2
           try clear hx2
           try clear c4
           try clear c4b0
           try clear c5
           try clear c5b0
           try clear c6
           try clear c6b0
           try clear p6
           try clear p7
           try clear q7
           try clear hx7
           try clear c10
           try clear c10b0
           try clear c11
           try clear c11b0
           try clear c11b1
           try clear c12
           try clear c12b0
           try clear c12b1
           try clear c14
           try clear c14b0
           try clear c16
           try clear c16b0
           try clear c16b1
           try clear c18
           try clear c20
           try clear c20b0
           try clear c20b1
           try clear c21
           try clear c21b0
           try clear c23
           try clear c23b0
           try clear p24
           try clear q24
           try clear hx24
           try clear c26
           try clear c28
           try clear c28b0
           try clear c28b1
           try clear p2
           try clear p24
           try clear p6
           try clear p7
           try clear q2
           try clear q24
           try clear q7
           obtain ⟨kq, x69_26, rfl, HA, HJ26, HB⟩ := hcut
           cases kq with
           | zero => exact absurd HA.out (by simp [r8read.j2])
           | succ kj26 =>
            have H := HA.out
            clear HA
            simp only [r8read.j2] at H
            by_cases c29 : x69_26 = true
            ·subst c29
             have H1 : ((r8read.f kj26 a0 (wrap64 (a1 + 1)) a2).bind fun bt105 => (if bt105.1 < 0 then (some ((-1), 0)) else ((r8read.f kj26 a0 bt105.1 a2).bind fun bt107 => (some (bt107.1, mx bt105.2 bt107.2))))) = some (r1, r2) := by rw [if_pos rfl] at H; exact H
             clear H
             have H := H1
             clear H1
             replace H := Option.bind_eq_some_iff.mp H
             obtain ⟨⟨t105, t106⟩, A300, H⟩ := H
             replace H : (if t105 < 0 then (some ((-1), 0)) else ((r8read.f kj26 a0 t105 a2).bind fun bt107 => (some (bt107.1, mx t106 bt107.2)))) = some (r1, r2) := H
             have A30 := As0.mk A300
             clear A300
             by_cases c31 : t105 < 0
             ·rw [if_pos c31] at H
              have c31b0 : decide (t105 < 0) = true := decide_eq_true c31
              clear c31
              simp only [Option.some.injEq, Prod.mk.injEq] at H
              obtain ⟨rfl, rfl⟩ := H
              go_wp2_with (first | ((with_reducible refine gate_callee (f := 50) rfl ?_); refine goesL_ (some 81) rfl rfl Try.func50 (by kernel_rfl) rfl #[.string a0, .int .i64 (wrap64 (a1 + 1)), .int .i64 a2] rfl (by (try simp only [sm]); first | done | rfl | (simp only [List.length_drop, List.length_take]; rfl)) ?_; (with_reducible refine (ih kj26 (by have := HJ7.out; have := HJ18.out; have := HJ26.out; omega) a0 (wrap64 (a1 + 1)) a2 t105 t106 _ A30.out).mono ?_); rintro e w32 ⟨rfl, hb⟩; refine ⟨_, rfl, ?_⟩; have n0_ := As0.mk (bst (by repeat (first | (with_reducible first | exact HB.out | apply below_alloc | apply pwd | apply bd1) | exact HB.out)) hb); clear HB; have HB := n0_; clear n0_; (try clear hb); (try clear hb2); (try clear hk); (try clear hi)))
              go_ret2
              exact ⟨by first | rfl | (simp [errW_none, errW_some] <;> rfl) | (simp [*, errW_none, errW_some] <;> rfl), by repeat (first | (with_reducible first | exact HB.out | apply below_alloc | apply pwd | apply bd1) | exact HB.out)⟩
             ·rw [if_neg c31] at H
              have c31b0 : decide (t105 < 0) = false := decide_eq_false c31
              clear c31
              replace H := Option.bind_eq_some_iff.mp H
              obtain ⟨⟨t107, t108⟩, A330, H⟩ := H
              replace H : (some (t107, mx t106 t108)) = some (r1, r2) := H
              have A33 := As0.mk A330
              clear A330
              obtain ⟨ji34, hji34⟩ : ∃ j_ : Int, (mx t106 t108) = j_ := ⟨_, rfl⟩
              replace H : (some (t107, ji34)) = some (r1, r2) := by first | (rw [hji34] at H; exact H) | (simp only [hji34] at H ⊢; exact H)
              (try rw [hji34] at A30)
              (try rw [hji34] at A33)
              have hji34_ : (if t106 < t108 then t108 else t106) = ji34 := hji34
              simp only [Option.some.injEq, Prod.mk.injEq] at H
              obtain ⟨rfl, rfl⟩ := H
              go_wp2_with (first | ((with_reducible refine gate_callee (f := 50) rfl ?_); refine goesL_ (some 81) rfl rfl Try.func50 (by kernel_rfl) rfl #[.string a0, .int .i64 (wrap64 (a1 + 1)), .int .i64 a2] rfl (by (try simp only [sm]); first | done | rfl | (simp only [List.length_drop, List.length_take]; rfl)) ?_; (with_reducible refine (ih kj26 (by have := HJ7.out; have := HJ18.out; have := HJ26.out; omega) a0 (wrap64 (a1 + 1)) a2 t105 t106 _ A30.out).mono ?_); rintro e w35 ⟨rfl, hb⟩; refine ⟨_, rfl, ?_⟩; have n0_ := As0.mk (bst (by repeat (first | (with_reducible first | exact HB.out | apply below_alloc | apply pwd | apply bd1) | exact HB.out)) hb); clear HB; have HB := n0_; clear n0_; (try clear hb); (try clear hb2); (try clear hk); (try clear hi)) | ((with_reducible refine gate_callee (f := 50) rfl ?_); refine goesL_ (some 90) rfl rfl Try.func50 (by kernel_rfl) rfl #[.string a0, .int .i64 t105, .int .i64 a2] rfl (by (try simp only [sm]); first | done | rfl | (simp only [List.length_drop, List.length_take]; rfl)) ?_; (with_reducible refine (ih kj26 (by have := HJ7.out; have := HJ18.out; have := HJ26.out; omega) a0 t105 a2 t107 t108 _ A33.out).mono ?_); rintro e w36 ⟨rfl, hb⟩; refine ⟨_, rfl, ?_⟩; have n0_ := As0.mk (bst (by repeat (first | (with_reducible first | exact HB.out | apply below_alloc | apply pwd | apply bd1) | exact HB.out)) hb); clear HB; have HB := n0_; clear n0_; (try clear hb); (try clear hb2); (try clear hk); (try clear hi)))
              go_ret2
              exact ⟨by first | rfl | (simp [errW_none, errW_some] <;> rfl) | (simp only [← hji34]; first | rfl | (simp [errW_none, errW_some] <;> rfl)) | (simp [*, errW_none, errW_some] <;> rfl), by repeat (first | (with_reducible first | exact HB.out | apply below_alloc | apply pwd | apply bd1) | exact HB.out)⟩
            ·replace c29 := Bool.eq_false_iff.mpr c29
             subst c29
             have H1 : (if (bt a0 a1) = 60 then (r8read.j3 kj26 a0 a1 a2 (bt a0 a1) true) else (r8read.j3 kj26 a0 a1 a2 (bt a0 a1) ((bt a0 a1) == 91))) = some (r1, r2) := by rw [if_neg (show ¬ (false = true) by decide)] at H; exact H
             clear H
             have H := H1
             clear H1
             have HC37 := As0.mk H
             clear H
             go_upto_region 14 with (fail)
             go_cut [97] (fun v97 wc => ∃ (kq : Nat) (x97_36 : Bool), v97 = .bool x97_36 ∧ As0 (r8read.j3 kq a0 a1 a2 (bt a0 a1) x97_36 = some (r1, r2)) ∧ As0 (kq ≤ kj26) ∧ As0 (Below w.heap.size w wc))
             case first =>
              have H := HC37.out
              clear HC37
              by_cases c38 : (bt a0 a1) = 60
              ·rw [if_pos c38] at H
               have c38b0 : ((bt a0 a1) == 60) = true := beq_iff_eq.mpr c38
               have c38b1 : ((bt a0 a1) != 60) = false := bne_eq_false_iff_eq.mpr c38
               clear c38
               (first | rw [c38b0] | (simp only [i64_w, i32_w]; rw [c38b0]) | skip)
               have H' := As0.mk H
               clear H
               go_wp2
               go_meet
               case rel => exact ⟨_, (true), (by first | rfl | (simp; done) | (simp [*]; done)), H', ⟨by have := HJ7.out; have := HJ18.out; have := HJ26.out; first | omega | exact Nat.le_refl _⟩, ⟨by repeat (first | (with_reducible first | exact HB.out | apply below_alloc | apply pwd | apply bd1) | exact HB.out)⟩⟩
              ·rw [if_neg c38] at H
               have c38b0 : ((bt a0 a1) == 60) = false := beq_eq_false_iff_ne.mpr c38
               have c38b1 : ((bt a0 a1) != 60) = true := bne_iff_ne.mpr c38
               (first | rw [c38b0] | (simp only [i64_w, i32_w]; rw [c38b0]) | skip)
               have H' := As0.mk H
               clear H
               go_wp2
               go_meet
               case rel => exact ⟨_, (((bt a0 a1) == 91)), (by first | rfl | (simp; done) | (simp [*]; done)), H', ⟨by have := HJ7.out; have := HJ18.out; have := HJ26.out; first | omega | exact Nat.le_refl _⟩, ⟨by repeat (first | (with_reducible first | exact HB.out | apply below_alloc | apply pwd | apply bd1) | exact HB.out)⟩⟩
             case rest =>
              clear HC37
              try clear c1
              try clear c2
              try clear p2
              try clear q2
              try clear hx2
              try clear c3
              try clear c4
              try clear c4b0
              try clear c5
              try clear c5b0
              try clear c6
              try clear c6b0
              try clear p6
              try clear p7
              try clear q7
              try clear hx7
              try clear c10
              try clear c10b0
              try clear c11
              try clear c11b0
              try clear c11b1
              try clear c12
              try clear c12b0
              try clear c12b1
              try clear c14
              try clear c14b0
              try clear c16
              try clear c16b0
              try clear c16b1
              try clear c18
              try clear c20
              try clear c20b0
              try clear c20b1
              try clear c21
              try clear c21b0
              try clear c23
              try clear c23b0
              try clear p24
              try clear q24
              try clear hx24
              try clear c26
              try clear c28
              try clear c28b0
              try clear c28b1
              try clear c29
              try clear c31
              try clear c31b0
              try clear c38
              try clear c38b0
              try clear c38b1
              try clear p2
              try clear p24
              try clear p6
              try clear p7
              try clear q2
              try clear q24
              try clear q7
              obtain ⟨kq, x97_36, rfl, HA, HJ36, HB⟩ := hcut
              cases kq with
              | zero => exact absurd HA.out (by simp [r8read.j3])
              | succ kj36 =>
               have H := HA.out
               clear HA
               simp only [r8read.j3] at H
               by_cases c39 : x97_36 = true
               ·subst c39
                have H1 : ((r8read.f kj36 a0 (wrap64 (a1 + 1)) a2).bind fun bt109 => (some (bt109.1, wrap64 (bt109.2 + 1)))) = some (r1, r2) := by rw [if_pos rfl] at H; exact H
                clear H
                have H := H1
                clear H1
                replace H := Option.bind_eq_some_iff.mp H
                obtain ⟨⟨t109, t110⟩, A400, H⟩ := H
                replace H : (some (t109, wrap64 (t110 + 1))) = some (r1, r2) := H
                have A40 := As0.mk A400
                clear A400
                simp only [Option.some.injEq, Prod.mk.injEq] at H
                obtain ⟨rfl, rfl⟩ := H
                go_wp2_with (first | ((with_reducible refine gate_callee (f := 50) rfl ?_); refine goesL_ (some 109) rfl rfl Try.func50 (by kernel_rfl) rfl #[.string a0, .int .i64 (wrap64 (a1 + 1)), .int .i64 a2] rfl (by (try simp only [sm]); first | done | rfl | (simp only [List.length_drop, List.length_take]; rfl)) ?_; (with_reducible refine (ih kj36 (by have := HJ7.out; have := HJ18.out; have := HJ26.out; have := HJ36.out; omega) a0 (wrap64 (a1 + 1)) a2 t109 t110 _ A40.out).mono ?_); rintro e w41 ⟨rfl, hb⟩; refine ⟨_, rfl, ?_⟩; have n0_ := As0.mk (bst (by repeat (first | (with_reducible first | exact HB.out | apply below_alloc | apply pwd | apply bd1) | exact HB.out)) hb); clear HB; have HB := n0_; clear n0_; (try clear hb); (try clear hb2); (try clear hk); (try clear hi)))
                go_ret2
                exact ⟨by first | rfl | (simp [errW_none, errW_some] <;> rfl) | (simp [*, errW_none, errW_some] <;> rfl), by repeat (first | (with_reducible first | exact HB.out | apply below_alloc | apply pwd | apply bd1) | exact HB.out)⟩
               ·replace c39 := Bool.eq_false_iff.mpr c39
                subst c39
                have H1 : (if (bt a0 a1) = 109 then (if (wrap64 (a1 + 1)) < (a0.size : Int) then (if 0 ≤ (wrap64 (a1 + 1)) then ((PA.r8letter.f (bt a0 (wrap64 (a1 + 1)))).bind fun t111 => (if t111 ≥ 0 then ((PA.r8letter.f (bt a0 (wrap64 (a1 + 1)))).bind fun t112 => (if 0 ≤ t112 then (r8read.j4 kj36 a0 a1 a2 ((Go.bits .and .i64 (shr .i64 a2 t112) 1) == 0)) else (none))) else (r8read.j4 kj36 a0 a1 a2 false))) else (none)) else (r8read.j4 kj36 a0 a1 a2 false)) else (if (bt a0 a1) = 103 then (if (wrap64 (a1 + 1)) < (a0.size : Int) then (if 0 ≤ (wrap64 (a1 + 1)) then ((PA.r8letter.f (bt a0 (wrap64 (a1 + 1)))).bind fun t113 => (if t113 ≥ 0 then ((PA.r8letter.f (bt a0 (wrap64 (a1 + 1)))).bind fun t114 => (if 0 ≤ t114 then (r8read.j4 kj36 a0 a1 a2 ((Go.bits .and .i64 (shr .i64 a2 t114) 1) == 0)) else (none))) else (r8read.j4 kj36 a0 a1 a2 false))) else (none)) else (r8read.j4 kj36 a0 a1 a2 false)) else (r8read.j4 kj36 a0 a1 a2 false))) = some (r1, r2) := by rw [if_neg (show ¬ (false = true) by decide)] at H; exact H
                clear H
                have H := H1
                clear H1
                have HC42 := As0.mk H
                clear H
                go_upto_region 17 with (fail)
                go_cut [115] (fun v115 wc => ∃ (kq : Nat) (x115_41 : Bool), v115 = .bool x115_41 ∧ As0 (r8read.j4 kq a0 a1 a2 x115_41 = some (r1, r2)) ∧ As0 (kq ≤ kj36) ∧ As0 (Below w.heap.size w wc))
                case first =>
                 have H := HC42.out
                 clear HC42
                 by_cases c43 : (bt a0 a1) = 109
                 ·rw [if_pos c43] at H
                  have c43b0 : ((bt a0 a1) == 109) = true := beq_iff_eq.mpr c43
                  have c43b1 : ((bt a0 a1) != 109) = false := bne_eq_false_iff_eq.mpr c43
                  clear c43
                  (first | rw [c43b0] | (simp only [i64_w, i32_w]; rw [c43b0]) | skip)
                  by_cases c44 : (wrap64 (a1 + 1)) < (a0.size : Int)
                  ·rw [if_pos c44] at H
                   have c44b0 : decide ((wrap64 (a1 + 1)) < (a0.size : Int)) = true := decide_eq_true c44
                   clear c44
                   obtain ⟨ji45, hji45⟩ : ∃ j_ : Int, (wrap64 (a1 + 1)) = j_ := ⟨_, rfl⟩
                   replace H : (if 0 ≤ (ji45) then ((PA.r8letter.f (bt a0 (ji45))).bind fun t111 => (if t111 ≥ 0 then ((PA.r8letter.f (bt a0 (ji45))).bind fun t112 => (if 0 ≤ t112 then (r8read.j4 kj36 a0 a1 a2 ((Go.bits .and .i64 (shr .i64 a2 t112) 1) == 0)) else (none))) else (r8read.j4 kj36 a0 a1 a2 false))) else (none)) = some (r1, r2) := by first | (rw [hji45] at H; exact H) | (simp only [hji45] at H ⊢; exact H)
                   (try rw [hji45] at c44b0)
                   have hji45w : (IntKind.i64.wrap (a1 + 1)) = ji45 := (i64_w _).trans hji45
                   by_cases c46 : 0 ≤ (ji45)
                   ·rw [if_pos c46] at H
                    have c46b0 : decide (0 ≤ (ji45)) = true := decide_eq_true c46
                    clear c46
                    replace H := Option.bind_eq_some_iff.mp H
                    obtain ⟨t111, A480, H⟩ := H
                    replace H : (if t111 ≥ 0 then ((PA.r8letter.f (bt a0 (ji45))).bind fun t112 => (if 0 ≤ t112 then (r8read.j4 kj36 a0 a1 a2 ((Go.bits .and .i64 (shr .i64 a2 t112) 1) == 0)) else (none))) else (r8read.j4 kj36 a0 a1 a2 false)) = some (r1, r2) := H
                    have A48 := As0.mk A480
                    clear A480
                    by_cases c49 : t111 ≥ 0
                    ·rw [if_pos c49] at H
                     have c49b0 : decide (0 ≤ t111) = true := decide_eq_true c49
                     clear c49
                     replace H := Option.bind_eq_some_iff.mp H
                     obtain ⟨t112, A510, H⟩ := H
                     replace H : (if 0 ≤ t112 then (r8read.j4 kj36 a0 a1 a2 ((Go.bits .and .i64 (shr .i64 a2 t112) 1) == 0)) else (none)) = some (r1, r2) := H
                     have A51 := As0.mk A510
                     clear A510
                     by_cases c52 : 0 ≤ t112
                     ·rw [if_pos c52] at H
                      have c52b0 := eq_true c52
                      have c52b1 : decide (0 ≤ t112) = true := decide_eq_true c52
                      clear c52
                      obtain ⟨ji53, hji53⟩ : ∃ j_ : Int, (shr .i64 a2 t112) = j_ := ⟨_, rfl⟩
                      replace H : (r8read.j4 kj36 a0 a1 a2 ((Go.bits .and .i64 (ji53) 1) == 0)) = some (r1, r2) := by first | (rw [hji53] at H; exact H) | (simp only [hji53] at H ⊢; exact H)
                      (try rw [hji53] at A48)
                      (try rw [hji53] at A51)
                      have hji53_ : (a2 / 2 ^ min t112.toNat 64) = ji53 := hji53
                      have hji53z : t112 ≤ 64 → (a2 / 2 ^ t112.toNat) = ji53 := shr_small hji53
                      have H' := As0.mk H
                      clear H
                      have p47 : 0 ≤ ((ji45) : Int) := of_decide_eq_true (by first | (with_reducible assumption) | assumption)
                      have q47 : (ji45) < (a0.size : Int) := of_decide_eq_true (by first | (with_reducible assumption) | assumption)
                      have hx47 := bt_at a0 (ji45)
                      replace p47 := eq_true p47
                      replace q47 := eq_true q47
                      have e_t112 : t112 = t111 := Option.some.inj (A51.out.symm.trans A48.out)
                      (try rw [e_t112] at c43b0)
                      (try rw [e_t112] at c43b1)
                      (try rw [e_t112] at c44b0)
                      (try rw [e_t112] at hji45)
                      (try rw [e_t112] at hji45w)
                      (try rw [e_t112] at c46b0)
                      (try rw [e_t112] at c49b0)
                      (try rw [e_t112] at c52b0)
                      (try rw [e_t112] at c52b1)
                      (try rw [e_t112] at hji53)
                      (try rw [e_t112] at hji53_)
                      (try rw [e_t112] at hji53z)
                      go_wp2_with (first | (go_at_call 60; (with_reducible refine (PA.r8letter.calls (bt a0 (ji45)) t111 _ A48.out).mono ?_); rintro e w' ⟨rfl, ⟨nd, rfl⟩⟩; have p50 : 0 ≤ ((ji45) : Int) := of_decide_eq_true (by first | (with_reducible assumption) | assumption); have q50 : (ji45) < (a0.size : Int) := of_decide_eq_true (by first | (with_reducible assumption) | assumption); have hx50 := bt_at a0 (ji45); replace p50 := eq_true p50; replace q50 := eq_true q50) | (go_at_call 60; (with_reducible refine (PA.r8letter.calls (bt a0 (ji45)) t112 _ A51.out).mono ?_); rintro e w' ⟨rfl, ⟨nd, rfl⟩⟩))
                      go_meet
                      case rel => exact ⟨_, (((Go.bits .and .i64 (ji53) 1) == 0)), (by first | rfl | (simp; done) | (simp only [← hji53] <;> (first | rfl | simp)) | (simp [*]; done)), H', ⟨by have := HJ7.out; have := HJ18.out; have := HJ26.out; have := HJ36.out; first | omega | exact Nat.le_refl _⟩, ⟨by repeat (first | (with_reducible first | exact HB.out | apply below_alloc | apply pwd | apply bd1) | exact HB.out)⟩⟩
                     ·rw [if_neg c52] at H
                      exact absurd H (by simp)
                    ·rw [if_neg c49] at H
                     have c49b0 : decide (0 ≤ t111) = false := decide_eq_false c49
                     clear c49
                     have H' := As0.mk H
                     clear H
                     have p47 : 0 ≤ ((ji45) : Int) := of_decide_eq_true (by first | (with_reducible assumption) | assumption)
                     have q47 : (ji45) < (a0.size : Int) := of_decide_eq_true (by first | (with_reducible assumption) | assumption)
                     have hx47 := bt_at a0 (ji45)
                     replace p47 := eq_true p47
                     replace q47 := eq_true q47
                     go_wp2_with (first | (go_at_call 60; (with_reducible refine (PA.r8letter.calls (bt a0 (ji45)) t111 _ A48.out).mono ?_); rintro e w' ⟨rfl, ⟨nd, rfl⟩⟩))
                     go_meet
                     case rel => exact ⟨_, (false), (by first | rfl | (simp; done) | (simp [*]; done)), H', ⟨by have := HJ7.out; have := HJ18.out; have := HJ26.out; have := HJ36.out; first | omega | exact Nat.le_refl _⟩, ⟨by repeat (first | (with_reducible first | exact HB.out | apply below_alloc | apply pwd | apply bd1) | exact HB.out)⟩⟩
                   ·rw [if_neg c46] at H
                    exact absurd H (by simp)
                  ·rw [if_neg c44] at H
                   have c44b0 : decide ((wrap64 (a1 + 1)) < (a0.size : Int)) = false := decide_eq_false c44
                   clear c44
                   have H' := As0.mk H
                   clear H
                   go_wp2
                   go_meet
                   case rel => exact ⟨_, (false), (by first | rfl | (simp; done) | (simp [*]; done)), H', ⟨by have := HJ7.out; have := HJ18.out; have := HJ26.out; have := HJ36.out; first | omega | exact Nat.le_refl _⟩, ⟨by repeat (first | (with_reducible first | exact HB.out | apply below_alloc | apply pwd | apply bd1) | exact HB.out)⟩⟩
                 ·rw [if_neg c43] at H
                  have c43b0 : ((bt a0 a1) == 109) = false := beq_eq_false_iff_ne.mpr c43
                  have c43b1 : ((bt a0 a1) != 109) = true := bne_iff_ne.mpr c43
                  (first | rw [c43b0] | (simp only [i64_w, i32_w]; rw [c43b0]) | skip)
                  by_cases c54 : (bt a0 a1) = 103
                  ·rw [if_pos c54] at H
                   have c54b0 : ((bt a0 a1) == 103) = true := beq_iff_eq.mpr c54
                   have c54b1 : ((bt a0 a1) != 103) = false := bne_eq_false_iff_eq.mpr c54
                   clear c54
                   by_cases c55 : (wrap64 (a1 + 1)) < (a0.size : Int)
                   ·rw [if_pos c55] at H
                    have c55b0 : decide ((wrap64 (a1 + 1)) < (a0.size : Int)) = true := decide_eq_true c55
                    clear c55
                    obtain ⟨ji56, hji56⟩ : ∃ j_ : Int, (wrap64 (a1 + 1)) = j_ := ⟨_, rfl⟩
                    replace H : (if 0 ≤ (ji56) then ((PA.r8letter.f (bt a0 (ji56))).bind fun t113 => (if t113 ≥ 0 then ((PA.r8letter.f (bt a0 (ji56))).bind fun t114 => (if 0 ≤ t114 then (r8read.j4 kj36 a0 a1 a2 ((Go.bits .and .i64 (shr .i64 a2 t114) 1) == 0)) else (none))) else (r8read.j4 kj36 a0 a1 a2 false))) else (none)) = some (r1, r2) := by first | (rw [hji56] at H; exact H) | (simp only [hji56] at H ⊢; exact H)
                    (try rw [hji56] at c55b0)
                    have hji56w : (IntKind.i64.wrap (a1 + 1)) = ji56 := (i64_w _).trans hji56
                    by_cases c57 : 0 ≤ (ji56)
                    ·rw [if_pos c57] at H
                     have c57b0 : decide (0 ≤ (ji56)) = true := decide_eq_true c57
                     clear c57
                     replace H := Option.bind_eq_some_iff.mp H
                     obtain ⟨t113, A590, H⟩ := H
                     replace H : (if t113 ≥ 0 then ((PA.r8letter.f (bt a0 (ji56))).bind fun t114 => (if 0 ≤ t114 then (r8read.j4 kj36 a0 a1 a2 ((Go.bits .and .i64 (shr .i64 a2 t114) 1) == 0)) else (none))) else (r8read.j4 kj36 a0 a1 a2 false)) = some (r1, r2) := H
                     have A59 := As0.mk A590
                     clear A590
                     by_cases c60 : t113 ≥ 0
                     ·rw [if_pos c60] at H
                      have c60b0 : decide (0 ≤ t113) = true := decide_eq_true c60
                      clear c60
                      replace H := Option.bind_eq_some_iff.mp H
                      obtain ⟨t114, A620, H⟩ := H
                      replace H : (if 0 ≤ t114 then (r8read.j4 kj36 a0 a1 a2 ((Go.bits .and .i64 (shr .i64 a2 t114) 1) == 0)) else (none)) = some (r1, r2) := H
                      have A62 := As0.mk A620
                      clear A620
                      by_cases c63 : 0 ≤ t114
                      ·rw [if_pos c63] at H
                       have c63b0 := eq_true c63
                       have c63b1 : decide (0 ≤ t114) = true := decide_eq_true c63
                       clear c63
                       obtain ⟨ji64, hji64⟩ : ∃ j_ : Int, (shr .i64 a2 t114) = j_ := ⟨_, rfl⟩
                       replace H : (r8read.j4 kj36 a0 a1 a2 ((Go.bits .and .i64 (ji64) 1) == 0)) = some (r1, r2) := by first | (rw [hji64] at H; exact H) | (simp only [hji64] at H ⊢; exact H)
                       (try rw [hji64] at A59)
                       (try rw [hji64] at A62)
                       have hji64_ : (a2 / 2 ^ min t114.toNat 64) = ji64 := hji64
                       have hji64z : t114 ≤ 64 → (a2 / 2 ^ t114.toNat) = ji64 := shr_small hji64
                       have H' := As0.mk H
                       clear H
                       have p58 : 0 ≤ ((ji56) : Int) := of_decide_eq_true (by first | (with_reducible assumption) | assumption)
                       have q58 : (ji56) < (a0.size : Int) := of_decide_eq_true (by first | (with_reducible assumption) | assumption)
                       have hx58 := bt_at a0 (ji56)
                       replace p58 := eq_true p58
                       replace q58 := eq_true q58
                       have e_t114 : t114 = t113 := Option.some.inj (A62.out.symm.trans A59.out)
                       (try rw [e_t114] at c44b0)
                       (try rw [e_t114] at c43b0)
                       (try rw [e_t114] at c43b1)
                       (try rw [e_t114] at c54b0)
                       (try rw [e_t114] at c54b1)
                       (try rw [e_t114] at c55b0)
                       (try rw [e_t114] at hji56)
                       (try rw [e_t114] at hji56w)
                       (try rw [e_t114] at c57b0)
                       (try rw [e_t114] at c60b0)
                       (try rw [e_t114] at c63b0)
                       (try rw [e_t114] at c63b1)
                       (try rw [e_t114] at hji64)
                       (try rw [e_t114] at hji64_)
                       (try rw [e_t114] at hji64z)
                       go_wp2_with (first | (go_at_call 60; (with_reducible refine (PA.r8letter.calls (bt a0 (ji56)) t113 _ A59.out).mono ?_); rintro e w' ⟨rfl, ⟨nd, rfl⟩⟩; have p61 : 0 ≤ ((ji56) : Int) := of_decide_eq_true (by first | (with_reducible assumption) | assumption); have q61 : (ji56) < (a0.size : Int) := of_decide_eq_true (by first | (with_reducible assumption) | assumption); have hx61 := bt_at a0 (ji56); replace p61 := eq_true p61; replace q61 := eq_true q61) | (go_at_call 60; (with_reducible refine (PA.r8letter.calls (bt a0 (ji56)) t114 _ A62.out).mono ?_); rintro e w' ⟨rfl, ⟨nd, rfl⟩⟩))
                       go_meet
                       case rel => exact ⟨_, (((Go.bits .and .i64 (ji64) 1) == 0)), (by first | rfl | (simp; done) | (simp only [← hji64] <;> (first | rfl | simp)) | (simp [*]; done)), H', ⟨by have := HJ7.out; have := HJ18.out; have := HJ26.out; have := HJ36.out; first | omega | exact Nat.le_refl _⟩, ⟨by repeat (first | (with_reducible first | exact HB.out | apply below_alloc | apply pwd | apply bd1) | exact HB.out)⟩⟩
                      ·rw [if_neg c63] at H
                       exact absurd H (by simp)
                     ·rw [if_neg c60] at H
                      have c60b0 : decide (0 ≤ t113) = false := decide_eq_false c60
                      clear c60
                      have H' := As0.mk H
                      clear H
                      have p58 : 0 ≤ ((ji56) : Int) := of_decide_eq_true (by first | (with_reducible assumption) | assumption)
                      have q58 : (ji56) < (a0.size : Int) := of_decide_eq_true (by first | (with_reducible assumption) | assumption)
                      have hx58 := bt_at a0 (ji56)
                      replace p58 := eq_true p58
                      replace q58 := eq_true q58
                      go_wp2_with (first | (go_at_call 60; (with_reducible refine (PA.r8letter.calls (bt a0 (ji56)) t113 _ A59.out).mono ?_); rintro e w' ⟨rfl, ⟨nd, rfl⟩⟩))
                      go_meet
                      case rel => exact ⟨_, (false), (by first | rfl | (simp; done) | (simp [*]; done)), H', ⟨by have := HJ7.out; have := HJ18.out; have := HJ26.out; have := HJ36.out; first | omega | exact Nat.le_refl _⟩, ⟨by repeat (first | (with_reducible first | exact HB.out | apply below_alloc | apply pwd | apply bd1) | exact HB.out)⟩⟩
                    ·rw [if_neg c57] at H
                     exact absurd H (by simp)
                   ·rw [if_neg c55] at H
                    have c55b0 : decide ((wrap64 (a1 + 1)) < (a0.size : Int)) = false := decide_eq_false c55
                    clear c55
                    have H' := As0.mk H
                    clear H
                    go_wp2
                    go_meet
                    case rel => exact ⟨_, (false), (by first | rfl | (simp; done) | (simp [*]; done)), H', ⟨by have := HJ7.out; have := HJ18.out; have := HJ26.out; have := HJ36.out; first | omega | exact Nat.le_refl _⟩, ⟨by repeat (first | (with_reducible first | exact HB.out | apply below_alloc | apply pwd | apply bd1) | exact HB.out)⟩⟩
                  ·rw [if_neg c54] at H
                   have c54b0 : ((bt a0 a1) == 103) = false := beq_eq_false_iff_ne.mpr c54
                   have c54b1 : ((bt a0 a1) != 103) = true := bne_iff_ne.mpr c54
                   have H' := As0.mk H
                   clear H
                   go_wp2
                   go_meet
                   case rel => exact ⟨_, (false), (by first | rfl | (simp; done) | (simp [*]; done)), H', ⟨by have := HJ7.out; have := HJ18.out; have := HJ26.out; have := HJ36.out; first | omega | exact Nat.le_refl _⟩, ⟨by repeat (first | (with_reducible first | exact HB.out | apply below_alloc | apply pwd | apply bd1) | exact HB.out)⟩⟩
                case rest =>
                 clear HC42
                 try clear c1
                 try clear c2
                 try clear p2
                 try clear q2
                 try clear hx2
                 try clear c3
                 try clear c4
                 try clear c4b0
                 try clear p4
                 try clear q4
                 try clear hx4
                 try clear c5
                 try clear c5b0
                 try clear p5
                 try clear q5
                 try clear hx5
                 try clear c6
                 try clear c6b0
                 try clear p6
                 try clear q6
                 try clear hx6
                 try clear p7
                 try clear q7
                 try clear hx7
                 try clear c10
                 try clear c10b0
                 try clear c11
                 try clear c11b0
                 try clear c11b1
                 try clear c12
                 try clear c12b0
                 try clear c12b1
                 try clear c14
                 try clear c14b0
                 try clear c16
                 try clear c16b0
                 try clear c16b1
                 try clear c18
                 try clear c20
                 try clear c20b0
                 try clear c20b1
                 try clear c21
                 try clear c21b0
                 try clear c23
                 try clear c23b0
                 try clear p24
                 try clear q24
                 try clear hx24
                 try clear c26
                 try clear c28
                 try clear c28b0
                 try clear c28b1
                 try clear c29
                 try clear c31
                 try clear c31b0
                 try clear c38
                 try clear c38b0
                 try clear c38b1
                 try clear c39
                 try clear c43
                 try clear c43b0
                 try clear c43b1
                 try clear c44
                 try clear c44b0
                 try clear c46
                 try clear c46b0
                 try clear p47
                 try clear q47
                 try clear hx47
                 try clear c49
                 try clear c49b0
                 try clear c50
                 try clear p50
                 try clear q50
                 try clear hx50
                 try clear c52
                 try clear c52b0
                 try clear c52b1
                 try clear c54
                 try clear c54b0
                 try clear c54b1
                 try clear c55
                 try clear c55b0
                 try clear c57
                 try clear c57b0
                 try clear p58
                 try clear q58
                 try clear hx58
                 try clear c60
                 try clear c60b0
                 try clear p61
                 try clear q61
                 try clear hx61
                 try clear c63
                 try clear c63b0
                 try clear c63b1
                 try clear p64
                 try clear p2
                 try clear p24
                 try clear p47
                 try clear p50
                 try clear p58
                 try clear p6
                 try clear p61
                 try clear p7
                 try clear q2
                 try clear q24
                 try clear q47
                 try clear q50
                 try clear q58
                 try clear q61
                 try clear q7
                 obtain ⟨kq, x115_41, rfl, HA, HJ41, HB⟩ := hcut
                 cases kq with
                 | zero => exact absurd HA.out (by simp [r8read.j4])
                 | succ kj41 =>
                  have H := HA.out
                  clear HA
                  simp only [r8read.j4] at H
                  by_cases c65 : x115_41 = true
                  ·subst c65
                   have H1 : (if 0 ≤ (wrap64 (a1 + 1)) then (if (wrap64 (a1 + 1)) < (a0.size : Int) then ((PA.r8letter.f (bt a0 (wrap64 (a1 + 1)))).bind fun t115 => (if 0 ≤ t115 then ((r8read.f kj41 a0 (wrap64 (a1 + 2)) (Go.bits .or .i64 a2 (shl .i64 1 t115))).bind fun bt116 => (some (bt116.1, bt116.2))) else (none))) else (none)) else (none)) = some (r1, r2) := by rw [if_pos rfl] at H; exact H
                   clear H
                   have H := H1
                   clear H1
                   obtain ⟨ji66, hji66⟩ : ∃ j_ : Int, (wrap64 (a1 + 1)) = j_ := ⟨_, rfl⟩
                   replace H : (if 0 ≤ (ji66) then (if (ji66) < (a0.size : Int) then ((PA.r8letter.f (bt a0 (ji66))).bind fun t115 => (if 0 ≤ t115 then ((r8read.f kj41 a0 (wrap64 (a1 + 2)) (Go.bits .or .i64 a2 (shl .i64 1 t115))).bind fun bt116 => (some (bt116.1, bt116.2))) else (none))) else (none)) else (none)) = some (r1, r2) := by first | (rw [hji66] at H; exact H) | (simp only [hji66] at H ⊢; exact H)
                   have hji66w : (IntKind.i64.wrap (a1 + 1)) = ji66 := (i64_w _).trans hji66
                   by_cases c67 : 0 ≤ (ji66)
                   ·rw [if_pos c67] at H
                    have c67b0 : decide (0 ≤ (ji66)) = true := decide_eq_true c67
                    clear c67
                    by_cases c68 : (ji66) < (a0.size : Int)
                    ·rw [if_pos c68] at H
                     have c68b0 : decide ((ji66) < (a0.size : Int)) = true := decide_eq_true c68
                     clear c68
                     replace H := Option.bind_eq_some_iff.mp H
                     obtain ⟨t115, A700, H⟩ := H
                     replace H : (if 0 ≤ t115 then ((r8read.f kj41 a0 (wrap64 (a1 + 2)) (Go.bits .or .i64 a2 (shl .i64 1 t115))).bind fun bt116 => (some (bt116.1, bt116.2))) else (none)) = some (r1, r2) := H
                     have A70 := As0.mk A700
                     clear A700
                     by_cases c71 : 0 ≤ t115
                     ·rw [if_pos c71] at H
                      have c71b0 := eq_true c71
                      have c71b1 : decide (0 ≤ t115) = true := decide_eq_true c71
                      clear c71
                      obtain ⟨ji72, hji72⟩ : ∃ j_ : Int, (shl .i64 1 t115) = j_ := ⟨_, rfl⟩
                      replace H : ((r8read.f kj41 a0 (wrap64 (a1 + 2)) (Go.bits .or .i64 a2 (ji72))).bind fun bt116 => (some (bt116.1, bt116.2))) = some (r1, r2) := by first | (rw [hji72] at H; exact H) | (simp only [hji72] at H ⊢; exact H)
                      (try rw [hji72] at A70)
                      have hji72_ : (IntKind.i64.wrap (1 * 2 ^ min t115.toNat 64)) = ji72 := hji72
                      have hji72z : t115 ≤ 64 → (IntKind.i64.wrap (1 * 2 ^ t115.toNat)) = ji72 := shl_small hji72
                      have hji72u : (IntKind.i64.wrap (2 ^ min t115.toNat 64)) = ji72 := by have h_ := hji72_; rw [Int.one_mul] at h_; exact h_
                      have hji72v : t115 ≤ 64 → (IntKind.i64.wrap (2 ^ t115.toNat)) = ji72 := fun hle_ => by have h_ := hji72z hle_; rw [Int.one_mul] at h_; exact h_
                      have hji72y : (wrap64 (1 * 2 ^ min t115.toNat 64)) = ji72 := (i64_w _).symm.trans hji72_
                      have hji72x : t115 ≤ 64 → (wrap64 (1 * 2 ^ t115.toNat)) = ji72 := fun h_ => (i64_w _).symm.trans (hji72z h_)
                      replace H := Option.bind_eq_some_iff.mp H
                      obtain ⟨⟨t116, t117⟩, A730, H⟩ := H
                      replace H : (some (t116, t117)) = some (r1, r2) := H
                      have A73 := As0.mk A730
                      clear A730
                      simp only [Option.some.injEq, Prod.mk.injEq] at H
                      obtain ⟨rfl, rfl⟩ := H
                      have p69 : 0 ≤ ((ji66) : Int) := of_decide_eq_true (by first | (with_reducible assumption) | assumption)
                      have q69 : (ji66) < (a0.size : Int) := of_decide_eq_true (by first | (with_reducible assumption) | assumption)
                      have hx69 := bt_at a0 (ji66)
                      replace p69 := eq_true p69
                      replace q69 := eq_true q69
                      go_wp2_with (first | ((with_reducible refine gate_callee (f := 60) rfl ?_); refine goesL_ (some 156) rfl rfl Try.func60 (by kernel_rfl) rfl #[.int .u8 (bt a0 (ji66))] rfl (by (try simp only [sm]); first | done | (simp only [hji66]; rfl) | rfl | (simp only [List.length_drop, List.length_take]; rfl)) ?_; (with_reducible refine (PA.r8letter.calls (bt a0 (ji66)) t115 _ A70.out).mono ?_); rintro e w' ⟨rfl, ⟨nd, rfl⟩⟩; refine ⟨_, rfl, ?_⟩) | ((with_reducible refine gate_callee (f := 50) rfl ?_); refine goesL_ (some 159) rfl rfl Try.func50 (by kernel_rfl) rfl #[.string a0, .int .i64 (wrap64 (a1 + 2)), .int .i64 (Go.bits .or .i64 a2 (ji72))] rfl (by (try simp only [sm]); first | done | (simp only [hji72]; rfl) | rfl | (simp only [List.length_drop, List.length_take]; rfl)) ?_; (with_reducible refine (ih kj41 (by have := HJ7.out; have := HJ18.out; have := HJ26.out; have := HJ36.out; have := HJ41.out; omega) a0 (wrap64 (a1 + 2)) (Go.bits .or .i64 a2 (ji72)) t116 t117 _ A73.out).mono ?_); rintro e w74 ⟨rfl, hb⟩; refine ⟨_, rfl, ?_⟩; have n0_ := As0.mk (bst (by repeat (first | (with_reducible first | exact HB.out | apply below_alloc | apply pwd | apply bd1) | exact HB.out)) hb); clear HB; have HB := n0_; clear n0_; (try clear hb); (try clear hb2); (try clear hk); (try clear hi)))
                      go_ret2
                      exact ⟨by first | rfl | (simp [errW_none, errW_some] <;> rfl) | (simp only [← hji66, ← hji72]; first | rfl | (simp [errW_none, errW_some] <;> rfl)) | (simp [*, errW_none, errW_some] <;> rfl), by repeat (first | (with_reducible first | exact HB.out | apply below_alloc | apply pwd | apply bd1) | exact HB.out)⟩
                     ·rw [if_neg c71] at H
                      exact absurd H (by simp)
                    ·rw [if_neg c68] at H
                     exact absurd H (by simp)
                   ·rw [if_neg c67] at H
                    exact absurd H (by simp)
                  ·replace c65 := Bool.eq_false_iff.mpr c65
                   subst c65
                   have H1 : (some ((-1), 0)) = some (r1, r2) := by rw [if_neg (show ¬ (false = true) by decide)] at H; exact H
                   clear H
                   have H := H1
                   clear H1
                   simp only [Option.some.injEq, Prod.mk.injEq] at H
                   obtain ⟨rfl, rfl⟩ := H
                   go_wp2
                   go_ret2
                   exact ⟨by first | rfl | (simp [errW_none, errW_some] <;> rfl) | (simp [*, errW_none, errW_some] <;> rfl), by repeat (first | (with_reducible first | exact HB.out | apply below_alloc | apply pwd | apply bd1) | exact HB.out)⟩
   ·rw [if_neg c6] at H
    exact absurd H (by simp)
  ·rw [if_neg c5] at H
   exact absurd H (by simp)
end Go.Proofs.Ytjffhhalmicodaa.PB
end

section
namespace Go.Proofs.Ytjffhhalmicodaa.PB
open Go.RowKit Go.Proofs.G.PrintWords Go.Proofs.G.PrintLast Go.Proofs.G.PrintMore
attribute [local go_sem] max2_int min2_int max_two min_two max_three min_three max_four min_four
set_option linter.unusedVariables false
set_option linter.unusedSimpArgs false
mutual
def r8Valid.j0 : Nat → Int → Bool → List Int → List Int → Option (Bool)
  | 0, _, _, _, _ => none
  | k + 1, x3, x21, x121000, x121001 => if x21 = true then (some false) else (r8Valid.l0 k x3 x121000 (x121000.length : Int) 0 x121000 x121001)
def r8Valid.l0 : Nat → Int → List Int → Int → Int → List Int → List Int → Option (Bool)
  | 0, _, _, _, _, _, _ => none
  | k + 1, x3, x23, x24, x25, x121000, x121001 => if x25 < x24 then (if 0 ≤ x25 then (if x25 < (x23.length : Int) then (if (rd x23 x25) < 0 then (some false) else (if 0 ≤ x3 then (if (rd x23 x25) ≥ (shl .i64 1 x3) then (some false) else (if x25 < (x121001.length : Int) then (if (rd x121001 x25) < 0 then (some false) else (if (rd x121001 x25) > 15 then (some false) else (r8Valid.l0 k x3 x23 x24 (wrap64 (x25 + 1)) x121000 x121001))) else (none))) else (none))) else (none)) else (none)) else (some true)
end
def r8Valid.f (k : Nat) (l0_0 : List Int) (l0_1 : List Int) : Option (Bool) := if (l0_0.length : Int) < 1 then (r8Valid.j0 k (l0_0.length : Int) true l0_0 l0_1) else (if (l0_0.length : Int) > 6 then (r8Valid.j0 k (l0_0.length : Int) true l0_0 l0_1) else (r8Valid.j0 k (l0_0.length : Int) ((l0_1.length : Int) != (l0_0.length : Int)) l0_0 l0_1))
theorem r8Valid.mono_l : ∀ k, (∀ y0 y1 y2 y3, LeO (r8Valid.j0 k y0 y1 y2 y3) (r8Valid.j0 (k + 1) y0 y1 y2 y3)) ∧ (∀ y0 y1 y2 y3 y4 y5, LeO (r8Valid.l0 k y0 y1 y2 y3 y4 y5) (r8Valid.l0 (k + 1) y0 y1 y2 y3 y4 y5))
 | 0 => ⟨fun _ _ _ _ r h => by simp [r8Valid.j0] at h, fun _ _ _ _ _ _ r h => by simp [r8Valid.l0] at h⟩
 | k + 1 => by
  obtain ⟨ih0, ih1⟩ := r8Valid.mono_l k
  refine ⟨?_, ?_⟩
  ·intro y0 y1 y2 y3
   unfold r8Valid.j0
   repeat' first
   | (with_reducible exact ih0 _ _ _ _)
   | (with_reducible exact ih1 _ _ _ _ _ _)
   | (with_reducible exact LeO.refl _)
   | (with_reducible exact LeO.none _)
   | (with_reducible refine LeO.ite ?_ ?_)
   | (with_reducible refine LeO.bind ?_ (fun _ => ?_))
   | exact ih0 _ _ _ _
   | exact ih1 _ _ _ _ _ _
   | exact LeO.none _
   | refine LeO.ite ?_ ?_
   | refine LeO.bind ?_ (fun _ => ?_)
  ·intro y0 y1 y2 y3 y4 y5
   unfold r8Valid.l0
   repeat' first
   | (with_reducible exact ih0 _ _ _ _)
   | (with_reducible exact ih1 _ _ _ _ _ _)
   | (with_reducible exact LeO.refl _)
   | (with_reducible exact LeO.none _)
   | (with_reducible refine LeO.ite ?_ ?_)
   | (with_reducible refine LeO.bind ?_ (fun _ => ?_))
   | exact ih0 _ _ _ _
   | exact ih1 _ _ _ _ _ _
   | exact LeO.none _
   | refine LeO.ite ?_ ?_
   | refine LeO.bind ?_ (fun _ => ?_)
theorem r8Valid.mono : ∀ a0 a1 k, LeO (r8Valid.f k a0 a1) (r8Valid.f (k + 1) a0 a1) := by
  intro a0 a1 k
  obtain ⟨ih0, ih1⟩ := r8Valid.mono_l k
  unfold r8Valid.f
  repeat' first
      | (with_reducible exact ih0 _ _ _ _)
      | (with_reducible exact ih1 _ _ _ _ _ _)
      | (with_reducible exact LeO.refl _)
      | (with_reducible exact LeO.none _)
      | (with_reducible refine LeO.ite ?_ ?_)
      | (with_reducible refine LeO.bind ?_ (fun _ => ?_))
      | exact ih0 _ _ _ _
      | exact ih1 _ _ _ _ _ _
      | exact LeO.none _
      | refine LeO.ite ?_ ?_
      | refine LeO.bind ?_ (fun _ => ?_)
set_option maxHeartbeats 8000000 in
set_option maxRecDepth 100000 in
theorem r8Valid.calls (k : Nat) (A0_0 : Option Addr) (c0_0 : Nat) (l0_0 : List Int) (A0_1 : Option Addr) (c0_1 : Nat) (l0_1 : List Int) (r : Bool) (w : World) (hr0_0 : Kd.C (Kd.int .i64) w A0_0 l0_0.length l0_0) (hc0_0 : l0_0.length ≤ c0_0) (hr0_1 : Kd.C (Kd.int .i64) w A0_1 l0_1.length l0_1) (hc0_1 : l0_1.length ≤ c0_1) (h : r8Valid.f k l0_0 l0_1 = some r) :
  Calls Try.prog 21 #[.agg #[.slice A0_0 l0_0.length c0_0, .slice A0_1 l0_1.length c0_1]] w fun e w' => e = .returned (.bool r) ∧ Below w.heap.size w w' := by
 have hu24 := Try.underlying24
 have HR0_0 := As0.mk hr0_0
 have HC0_0 := As0.mk hc0_0
 clear hr0_0 hc0_0
 have HR0_1 := As0.mk hr0_1
 have HC0_1 := As0.mk hc0_1
 clear hr0_1 hc0_1
 have HB := As0.mk (Below.refl w.heap.size w)
 have H : (if (l0_0.length : Int) < 1 then (r8Valid.j0 k (l0_0.length : Int) true l0_0 l0_1) else (if (l0_0.length : Int) > 6 then (r8Valid.j0 k (l0_0.length : Int) true l0_0 l0_1) else (r8Valid.j0 k (l0_0.length : Int) ((l0_1.length : Int) != (l0_0.length : Int)) l0_0 l0_1))) = some r := h
 clear h
 have HC2 := As0.mk H
 clear H
 go_enter Try.func21, Try.ntmps21
 go_upto_region 2 with (first | ((with_reducible refine gate_dst (N := 1) rfl ?_); (try (refine gate_guard (by rfl) ?_; dsimp only)); refine box_event ?hg (N := 1) ?hd (cs := #[.slice A0_0 l0_0.length c0_0, .slice A0_1 l0_1.length c0_1]) (t := 24) ?hr ?_; (case hd => rfl); (case hg => rfl); (case hr => first | (go_simp; done) | (go_simp; rfl)); intro gb120 hg w3 hbox hb; have n0_ := As0.mk (bst (by repeat (first | (with_reducible first | exact HB.out | apply below_alloc | apply pwd | apply bd1) | exact HB.out)) hb); have n1_ := As0.mk (hbox); have n2_ := As0.mk ((by rw [hg]; exact (below_size (by repeat (first | (with_reducible first | exact HB.out | apply below_alloc | apply pwd | apply bd1) | exact HB.out))) : w.heap.size ≤ gb120)); have n3_ := As0.mk ((by rw [hg]; exact (below_size (by repeat (first | (with_reducible first | exact HB.out | apply below_alloc | apply pwd | apply bd1) | exact HB.out))) : w.heap.size ≤ gb120)); clear HB; have HB := n0_; have BK120 := n1_; have GW120 := n2_; have GE120 := n3_; clear n0_ n1_ n2_ n3_; clear hb hbox hg; have hcz4_0 : w3.cell? ⟨gb120, 0, none⟩ = some (.slice A0_0 l0_0.length c0_0) := (blk_cell BK120.out 0).trans rfl; have hcz4_1 : w3.cell? ⟨gb120, 1, none⟩ = some (.slice A0_1 l0_1.length c0_1) := (blk_cell BK120.out 1).trans rfl; have hfz4_0 := blk_frozen BK120.out 0; have hfz4_1 := blk_frozen BK120.out 1))
 (try simp only [Act.put, List.setIfInBounds_toArray, List.set_cons_zero, List.set_cons_succ])
 go_cut [21] (fun v21 wc => ∃ (kq : Nat) (x21_1 : Bool), v21 = .bool x21_1 ∧ As0 (r8Valid.j0 kq (l0_0.length : Int) x21_1 l0_0 l0_1 = some r) ∧ As0 (kq ≤ k) ∧ As0 (wc.heap[gb120]? = some (.cells #[(.slice A0_0 l0_0.length c0_0), (.slice A0_1 l0_1.length c0_1)] 24 (0, 0))) ∧ As0 (Below w.heap.size w wc))
 case first =>
  have H := HC2.out
  clear HC2
  by_cases c5 : (l0_0.length : Int) < 1
  ·rw [if_pos c5] at H
   have c5b0 : decide ((l0_0.length : Int) < 1) = true := decide_eq_true c5
   have c5b1 : decide (l0_0.length < 1) = true := decide_eq_true (by omega)
   clear c5
   (first | rw [c5b0] | (simp only [i64_w, i32_w]; rw [c5b0]) | skip)
   have H' := As0.mk H
   clear H
   go_wp2
   go_meet
   case rel => exact ⟨_, (true), (by first | rfl | (simp; done) | (simp [*]; done)), H', ⟨by first | omega | exact Nat.le_refl _⟩, ⟨by (with_reducible repeat (first | refine blk_drewN ?_ _ | refine blk_drew ?_ | refine blk_alloc ?_ _)); exact BK120.out⟩, ⟨by repeat (first | (with_reducible first | exact HB.out | apply below_alloc | apply pwd | apply bd1 | refine below_set ?_ GE120.out) | exact HB.out)⟩⟩
  ·rw [if_neg c5] at H
   have c5b0 : decide ((l0_0.length : Int) < 1) = false := decide_eq_false c5
   have c5b1 : decide (l0_0.length < 1) = false := decide_eq_false (by omega)
   clear c5
   (first | rw [c5b0] | (simp only [i64_w, i32_w]; rw [c5b0]) | skip)
   by_cases c6 : (l0_0.length : Int) > 6
   ·rw [if_pos c6] at H
    have c6b0 : decide (6 < (l0_0.length : Int)) = true := decide_eq_true c6
    have c6b1 : decide (6 < l0_0.length) = true := decide_eq_true (by omega)
    clear c6
    have H' := As0.mk H
    clear H
    go_wp2
    go_meet
    case rel => exact ⟨_, (true), (by first | rfl | (simp; done) | (simp [*]; done)), H', ⟨by first | omega | exact Nat.le_refl _⟩, ⟨by (with_reducible repeat (first | refine blk_drewN ?_ _ | refine blk_drew ?_ | refine blk_alloc ?_ _)); exact BK120.out⟩, ⟨by repeat (first | (with_reducible first | exact HB.out | apply below_alloc | apply pwd | apply bd1 | refine below_set ?_ GE120.out) | exact HB.out)⟩⟩
   ·rw [if_neg c6] at H
    have c6b0 : decide (6 < (l0_0.length : Int)) = false := decide_eq_false c6
    have c6b1 : decide (6 < l0_0.length) = false := decide_eq_false (by omega)
    clear c6
    have H' := As0.mk H
    clear H
    have hcz7_0 : w3.cell? ⟨gb120, 0, none⟩ = some (.slice A0_0 l0_0.length c0_0) := (blk_cell BK120.out 0).trans rfl
    have hcz7_1 : w3.cell? ⟨gb120, 1, none⟩ = some (.slice A0_1 l0_1.length c0_1) := (blk_cell BK120.out 1).trans rfl
    have hfz7_0 := blk_frozen BK120.out 0
    have hfz7_1 := blk_frozen BK120.out 1
    go_wp2
    go_meet
    case rel => exact ⟨_, (((l0_1.length : Int) != (l0_0.length : Int))), (by first | rfl | (simp; done) | (simp [*]; done)), H', ⟨by first | omega | exact Nat.le_refl _⟩, ⟨by (with_reducible repeat (first | refine blk_drewN ?_ _ | refine blk_drew ?_ | refine blk_alloc ?_ _)); exact BK120.out⟩, ⟨by repeat (first | (with_reducible first | exact HB.out | apply below_alloc | apply pwd | apply bd1 | refine below_set ?_ GE120.out) | exact HB.out)⟩⟩
 case rest =>
  clear HC2
  try clear c2
  try clear p2
  try clear c5
  try clear c5b0
  try clear c5b1
  try clear c6
  try clear c6b0
  try clear c6b1
  try clear hcz4_0
  try clear hcz4_1
  try clear hcz7_0
  try clear hcz7_1
  try clear hfz4_0
  try clear hfz4_1
  try clear hfz7_0
  try clear hfz7_1
  obtain ⟨kq, x21_1, rfl, HA, HJ1, BK120, HB⟩ := hcut
  cases kq with
  | zero => exact absurd HA.out (by simp [r8Valid.j0])
  | succ kj1 =>
   have H := HA.out
   clear HA
   simp only [r8Valid.j0] at H
   by_cases c8 : x21_1 = true
   ·subst c8
    have H1 : (some false) = some r := by rw [if_pos rfl] at H; exact H
    clear H
    have H := H1
    clear H1
    obtain rfl := Option.some.inj H
    go_wp2
    go_ret
    exact ⟨by first | rfl | (simp [errW_none, errW_some] <;> rfl) | (simp [*, errW_none, errW_some] <;> rfl), by repeat (first | (with_reducible first | exact HB.out | apply below_alloc | apply pwd | apply bd1 | refine below_set ?_ GE120.out) | exact HB.out)⟩
   ·replace c8 := Bool.eq_false_iff.mpr c8
    subst c8
    have H1 : (r8Valid.l0 kj1 (l0_0.length : Int) l0_0 (l0_0.length : Int) 0 l0_0 l0_1) = some r := by rw [if_neg (show ¬ (false = true) by decide)] at H; exact H
    clear H
    have H := H1
    clear H1
    have H' := As0.mk H
    clear H
    have hcz9_0 : wc.cell? ⟨gb120, 0, none⟩ = some (.slice A0_0 l0_0.length c0_0) := (blk_cell BK120.out 0).trans rfl
    have hcz9_1 : wc.cell? ⟨gb120, 1, none⟩ = some (.slice A0_1 l0_1.length c0_1) := (blk_cell BK120.out 1).trans rfl
    have hfz9_0 := blk_frozen BK120.out 0
    have hfz9_1 := blk_frozen BK120.out 1
    go_wp2
    go_loopg [25] kj1 (fun kq v25 w' => ∃ (x25_2 : Int), v25 = .int .i64 x25_2 ∧ As0 (r8Valid.l0 kq (l0_0.length : Int) l0_0 (l0_0.length : Int) x25_2 l0_0 l0_1 = some r) ∧ As0 (kq ≤ kj1) ∧ As0 (w'.heap[gb120]? = some (.cells #[(.slice A0_0 l0_0.length c0_0), (.slice A0_1 l0_1.length c0_1)] 24 (0, 0))) ∧ As0 (Below w.heap.size w w'))
    case atStart => exact ⟨(0), (by first | rfl | (simp; done) | (simp [*]; done)), H', ⟨Nat.le_refl _⟩, ⟨by (with_reducible repeat (first | refine blk_drewN ?_ _ | refine blk_drew ?_ | refine blk_alloc ?_ _)); exact BK120.out⟩, ⟨by repeat (first | (with_reducible first | exact HB.out | apply below_alloc | apply pwd | apply bd1 | refine below_set ?_ GE120.out) | exact HB.out)⟩⟩
    case round =>
     clear H'
     try clear c2
     try clear p2
     try clear c5
     try clear c5b0
     try clear c5b1
     try clear c6
     try clear c6b0
     try clear c6b1
     try clear c8
     try clear hcz4_0
     try clear hcz4_1
     try clear hcz7_0
     try clear hcz7_1
     try clear hcz9_0
     try clear hcz9_1
     try clear hfz4_0
     try clear hfz4_1
     try clear hfz7_0
     try clear hfz7_1
     try clear hfz9_0
     try clear hfz9_1
     try clear p2
     obtain ⟨x25_2, rfl, HA, HK2, BK120, HB⟩ := hrel
     cases gk with
     | zero => exact absurd HA.out (by simp [r8Valid.l0])
     | succ k2 =>
      have H := HA.out
      clear HA
      simp only [r8Valid.l0] at H
      by_cases c10 : x25_2 < (l0_0.length : Int)
      ·rw [if_pos c10] at H
       have c10b0 : decide (x25_2 < (l0_0.length : Int)) = true := decide_eq_true c10
       clear c10
       by_cases c11 : 0 ≤ x25_2
       ·rw [if_pos c11] at H
        have c11b0 : decide (0 ≤ x25_2) = true := decide_eq_true c11
        clear c11
        by_cases c12 : x25_2 < (l0_0.length : Int)
        ·rw [if_pos c12] at H
         have c12b0 : decide (x25_2 < (l0_0.length : Int)) = true := decide_eq_true c12
         clear c12
         by_cases c13 : (rd l0_0 x25_2) < 0
         ·rw [if_pos c13] at H
          have c13b0 : decide ((rd l0_0 x25_2) < 0) = true := decide_eq_true c13
          clear c13
          obtain rfl := Option.some.inj H
          have p121 : 0 ≤ (x25_2 : Int) := of_decide_eq_true (by first | (with_reducible assumption) | assumption)
          have q121 : x25_2 < (l0_0.length : Int) := of_decide_eq_true (by first | (with_reducible assumption) | assumption)
          obtain ⟨ad121, e121, hx121_0⟩ := Kd.at_int HR0_0.out x25_2 p121 q121
          cases e121
          replace hx121_0 := (HB.out.cell (World.block_lt_of_cell? w _ hx121_0)).trans hx121_0
          replace p121 := eq_true p121
          replace q121 := eq_true q121
          go_wp2
          go_ret
          exact ⟨by first | rfl | (simp [errW_none, errW_some] <;> rfl) | (simp [*, errW_none, errW_some] <;> rfl), by repeat (first | (with_reducible first | exact HB.out | apply below_alloc | apply pwd | apply bd1 | refine below_set ?_ GE120.out) | exact HB.out)⟩
         ·rw [if_neg c13] at H
          have c13b0 : decide ((rd l0_0 x25_2) < 0) = false := decide_eq_false c13
          clear c13
          by_cases c14 : 0 ≤ (l0_0.length : Int)
          ·rw [if_pos c14] at H
           have c14b0 := eq_true c14
           have c14b1 : decide (0 ≤ (l0_0.length : Int)) = true := decide_eq_true c14
           clear c14
           obtain ⟨ji15, hji15⟩ : ∃ j_ : Int, (shl .i64 1 (l0_0.length : Int)) = j_ := ⟨_, rfl⟩
           replace H : (if (rd l0_0 x25_2) ≥ (ji15) then (some false) else (if x25_2 < (l0_1.length : Int) then (if (rd l0_1 x25_2) < 0 then (some false) else (if (rd l0_1 x25_2) > 15 then (some false) else (r8Valid.l0 k2 (l0_0.length : Int) l0_0 (l0_0.length : Int) (wrap64 (x25_2 + 1)) l0_0 l0_1))) else (none))) = some r := by first | (rw [hji15] at H; exact H) | (simp only [hji15] at H ⊢; exact H)
           have hji15_ : (IntKind.i64.wrap (1 * 2 ^ min (l0_0.length : Int).toNat 64)) = ji15 := hji15
           have hji15z : (l0_0.length : Int) ≤ 64 → (IntKind.i64.wrap (1 * 2 ^ (l0_0.length : Int).toNat)) = ji15 := shl_small hji15
           have hji15p : (IntKind.i64.wrap (1 * 2 ^ min l0_0.length 64)) = ji15 := hji15_
           have hji15q : (l0_0.length : Int) ≤ 64 → (IntKind.i64.wrap (1 * 2 ^ l0_0.length)) = ji15 := hji15z
           have hji15r : (IntKind.i64.wrap (2 ^ min l0_0.length 64)) = ji15 := by have h_ := hji15p; rw [Int.one_mul] at h_; exact h_
           have hji15s : (l0_0.length : Int) ≤ 64 → (IntKind.i64.wrap (2 ^ l0_0.length)) = ji15 := fun hle_ => by have h_ := hji15q hle_; rw [Int.one_mul] at h_; exact h_
           have hji15u : (IntKind.i64.wrap (2 ^ min (l0_0.length : Int).toNat 64)) = ji15 := by have h_ := hji15_; rw [Int.one_mul] at h_; exact h_
           have hji15v : (l0_0.length : Int) ≤ 64 → (IntKind.i64.wrap (2 ^ (l0_0.length : Int).toNat)) = ji15 := fun hle_ => by have h_ := hji15z hle_; rw [Int.one_mul] at h_; exact h_
           have hji15y : (wrap64 (1 * 2 ^ min (l0_0.length : Int).toNat 64)) = ji15 := (i64_w _).symm.trans hji15_
           have hji15x : (l0_0.length : Int) ≤ 64 → (wrap64 (1 * 2 ^ (l0_0.length : Int).toNat)) = ji15 := fun h_ => (i64_w _).symm.trans (hji15z h_)
           by_cases c16 : (rd l0_0 x25_2) ≥ (ji15)
           ·rw [if_pos c16] at H
            have c16b0 : decide ((ji15) ≤ (rd l0_0 x25_2)) = true := decide_eq_true c16
            clear c16
            obtain rfl := Option.some.inj H
            have p121 : 0 ≤ (x25_2 : Int) := of_decide_eq_true (by first | (with_reducible assumption) | assumption)
            have q121 : x25_2 < (l0_0.length : Int) := of_decide_eq_true (by first | (with_reducible assumption) | assumption)
            obtain ⟨ad121, e121, hx121_0⟩ := Kd.at_int HR0_0.out x25_2 p121 q121
            cases e121
            replace hx121_0 := (HB.out.cell (World.block_lt_of_cell? w _ hx121_0)).trans hx121_0
            replace p121 := eq_true p121
            replace q121 := eq_true q121
            go_wp2
            go_ret
            exact ⟨by first | rfl | (simp [errW_none, errW_some] <;> rfl) | (simp only [← hji15]; first | rfl | (simp [errW_none, errW_some] <;> rfl)) | (simp [*, errW_none, errW_some] <;> rfl), by repeat (first | (with_reducible first | exact HB.out | apply below_alloc | apply pwd | apply bd1 | refine below_set ?_ GE120.out) | exact HB.out)⟩
           ·rw [if_neg c16] at H
            have c16b0 : decide ((ji15) ≤ (rd l0_0 x25_2)) = false := decide_eq_false c16
            clear c16
            by_cases c17 : x25_2 < (l0_1.length : Int)
            ·rw [if_pos c17] at H
             have c17b0 : decide (x25_2 < (l0_1.length : Int)) = true := decide_eq_true c17
             clear c17
             by_cases c18 : (rd l0_1 x25_2) < 0
             ·rw [if_pos c18] at H
              have c18b0 : decide ((rd l0_1 x25_2) < 0) = true := decide_eq_true c18
              clear c18
              obtain rfl := Option.some.inj H
              have p121 : 0 ≤ (x25_2 : Int) := of_decide_eq_true (by first | (with_reducible assumption) | assumption)
              have q121 : x25_2 < (l0_0.length : Int) := of_decide_eq_true (by first | (with_reducible assumption) | assumption)
              obtain ⟨ad121, e121, hx121_0⟩ := Kd.at_int HR0_0.out x25_2 p121 q121
              cases e121
              replace hx121_0 := (HB.out.cell (World.block_lt_of_cell? w _ hx121_0)).trans hx121_0
              replace p121 := eq_true p121
              replace q121 := eq_true q121
              have hcz19_0 : wr.cell? ⟨gb120, 0, none⟩ = some (.slice (some ad121) l0_0.length c0_0) := (blk_cell BK120.out 0).trans rfl
              have hcz19_1 : wr.cell? ⟨gb120, 1, none⟩ = some (.slice A0_1 l0_1.length c0_1) := (blk_cell BK120.out 1).trans rfl
              have hfz19_0 := blk_frozen BK120.out 0
              have hfz19_1 := blk_frozen BK120.out 1
              have p122 : 0 ≤ (x25_2 : Int) := of_decide_eq_true (by first | (with_reducible assumption) | assumption)
              have q122 : x25_2 < (l0_1.length : Int) := of_decide_eq_true (by first | (with_reducible assumption) | assumption)
              obtain ⟨ad122, e122, hx122_0⟩ := Kd.at_int HR0_1.out x25_2 p122 q122
              cases e122
              replace hx122_0 := (HB.out.cell (World.block_lt_of_cell? w _ hx122_0)).trans hx122_0
              replace p122 := eq_true p122
              replace q122 := eq_true q122
              go_wp2
              go_ret
              exact ⟨by first | rfl | (simp [errW_none, errW_some] <;> rfl) | (simp only [← hji15]; first | rfl | (simp [errW_none, errW_some] <;> rfl)) | (simp [*, errW_none, errW_some] <;> rfl), by repeat (first | (with_reducible first | exact HB.out | apply below_alloc | apply pwd | apply bd1 | refine below_set ?_ GE120.out) | exact HB.out)⟩
             ·rw [if_neg c18] at H
              have c18b0 : decide ((rd l0_1 x25_2) < 0) = false := decide_eq_false c18
              clear c18
              by_cases c20 : (rd l0_1 x25_2) > 15
              ·rw [if_pos c20] at H
               have c20b0 : decide (15 < (rd l0_1 x25_2)) = true := decide_eq_true c20
               clear c20
               obtain rfl := Option.some.inj H
               have p121 : 0 ≤ (x25_2 : Int) := of_decide_eq_true (by first | (with_reducible assumption) | assumption)
               have q121 : x25_2 < (l0_0.length : Int) := of_decide_eq_true (by first | (with_reducible assumption) | assumption)
               obtain ⟨ad121, e121, hx121_0⟩ := Kd.at_int HR0_0.out x25_2 p121 q121
               cases e121
               replace hx121_0 := (HB.out.cell (World.block_lt_of_cell? w _ hx121_0)).trans hx121_0
               replace p121 := eq_true p121
               replace q121 := eq_true q121
               have hcz21_0 : wr.cell? ⟨gb120, 0, none⟩ = some (.slice (some ad121) l0_0.length c0_0) := (blk_cell BK120.out 0).trans rfl
               have hcz21_1 : wr.cell? ⟨gb120, 1, none⟩ = some (.slice A0_1 l0_1.length c0_1) := (blk_cell BK120.out 1).trans rfl
               have hfz21_0 := blk_frozen BK120.out 0
               have hfz21_1 := blk_frozen BK120.out 1
               have p122 : 0 ≤ (x25_2 : Int) := of_decide_eq_true (by first | (with_reducible assumption) | assumption)
               have q122 : x25_2 < (l0_1.length : Int) := of_decide_eq_true (by first | (with_reducible assumption) | assumption)
               obtain ⟨ad122, e122, hx122_0⟩ := Kd.at_int HR0_1.out x25_2 p122 q122
               cases e122
               replace hx122_0 := (HB.out.cell (World.block_lt_of_cell? w _ hx122_0)).trans hx122_0
               replace p122 := eq_true p122
               replace q122 := eq_true q122
               have p123 : 0 ≤ (x25_2 : Int) := of_decide_eq_true (by first | (with_reducible assumption) | assumption)
               have q123 : x25_2 < (l0_1.length : Int) := of_decide_eq_true (by first | (with_reducible assumption) | assumption)
               obtain ⟨ad123, e123, hx123_0⟩ := Kd.at_int HR0_1.out x25_2 p123 q123
               obtain rfl : ad122 = ad123 := (by injection e123)
               replace hx123_0 := (HB.out.cell (World.block_lt_of_cell? w _ hx123_0)).trans hx123_0
               replace p123 := eq_true p123
               replace q123 := eq_true q123
               go_wp2
               go_ret
               exact ⟨by first | rfl | (simp [errW_none, errW_some] <;> rfl) | (simp only [← hji15]; first | rfl | (simp [errW_none, errW_some] <;> rfl)) | (simp [*, errW_none, errW_some] <;> rfl), by repeat (first | (with_reducible first | exact HB.out | apply below_alloc | apply pwd | apply bd1 | refine below_set ?_ GE120.out) | exact HB.out)⟩
              ·rw [if_neg c20] at H
               have c20b0 : decide (15 < (rd l0_1 x25_2)) = false := decide_eq_false c20
               clear c20
               have H' := As0.mk H
               clear H
               have p121 : 0 ≤ (x25_2 : Int) := of_decide_eq_true (by first | (with_reducible assumption) | assumption)
               have q121 : x25_2 < (l0_0.length : Int) := of_decide_eq_true (by first | (with_reducible assumption) | assumption)
               obtain ⟨ad121, e121, hx121_0⟩ := Kd.at_int HR0_0.out x25_2 p121 q121
               cases e121
               replace hx121_0 := (HB.out.cell (World.block_lt_of_cell? w _ hx121_0)).trans hx121_0
               replace p121 := eq_true p121
               replace q121 := eq_true q121
               have hcz22_0 : wr.cell? ⟨gb120, 0, none⟩ = some (.slice (some ad121) l0_0.length c0_0) := (blk_cell BK120.out 0).trans rfl
               have hcz22_1 : wr.cell? ⟨gb120, 1, none⟩ = some (.slice A0_1 l0_1.length c0_1) := (blk_cell BK120.out 1).trans rfl
               have hfz22_0 := blk_frozen BK120.out 0
               have hfz22_1 := blk_frozen BK120.out 1
               have p122 : 0 ≤ (x25_2 : Int) := of_decide_eq_true (by first | (with_reducible assumption) | assumption)
               have q122 : x25_2 < (l0_1.length : Int) := of_decide_eq_true (by first | (with_reducible assumption) | assumption)
               obtain ⟨ad122, e122, hx122_0⟩ := Kd.at_int HR0_1.out x25_2 p122 q122
               cases e122
               replace hx122_0 := (HB.out.cell (World.block_lt_of_cell? w _ hx122_0)).trans hx122_0
               replace p122 := eq_true p122
               replace q122 := eq_true q122
               have p123 : 0 ≤ (x25_2 : Int) := of_decide_eq_true (by first | (with_reducible assumption) | assumption)
               have q123 : x25_2 < (l0_1.length : Int) := of_decide_eq_true (by first | (with_reducible assumption) | assumption)
               obtain ⟨ad123, e123, hx123_0⟩ := Kd.at_int HR0_1.out x25_2 p123 q123
               obtain rfl : ad122 = ad123 := (by injection e123)
               replace hx123_0 := (HB.out.cell (World.block_lt_of_cell? w _ hx123_0)).trans hx123_0
               replace p123 := eq_true p123
               replace q123 := eq_true q123
               go_wp2
               go_roundg k2
               case measure => have := HJ1.out; have := HK2.out; omega
               case rel => exact ⟨(wrap64 (x25_2 + 1)), (by first | rfl | (simp; done) | (simp [*]; done)), H', ⟨by have := HJ1.out; have := HK2.out; omega⟩, ⟨by (with_reducible repeat (first | refine blk_drewN ?_ _ | refine blk_drew ?_ | refine blk_alloc ?_ _)); exact BK120.out⟩, ⟨by repeat (first | (with_reducible first | exact HB.out | apply below_alloc | apply pwd | apply bd1 | refine below_set ?_ GE120.out) | exact HB.out)⟩⟩
            ·rw [if_neg c17] at H
             exact absurd H (by simp)
          ·rw [if_neg c14] at H
           exact absurd H (by simp)
        ·rw [if_neg c12] at H
         exact absurd H (by simp)
       ·rw [if_neg c11] at H
        exact absurd H (by simp)
      ·rw [if_neg c10] at H
       have c10b0 : decide (x25_2 < (l0_0.length : Int)) = false := decide_eq_false c10
       clear c10
       obtain rfl := Option.some.inj H
       go_wp2
       go_ret
       exact ⟨by first | rfl | (simp [errW_none, errW_some] <;> rfl) | (simp [*, errW_none, errW_some] <;> rfl), by repeat (first | (with_reducible first | exact HB.out | apply below_alloc | apply pwd | apply bd1 | refine below_set ?_ GE120.out) | exact HB.out)⟩
def q8awake.f (k : Nat)  : Option (Bool) := (X.fixes_Holds.f k (([2, 1] : List Int)) (([0, 1] : List Int)) (⟨#[48]⟩ : ByteArray)).bind fun bt130 => (if bt130.1 = 2 then (some (bt130.2 == 0)) else (some false))
theorem q8awake.mono : ∀ k, LeO (q8awake.f k ) (q8awake.f (k + 1) ) := by
  intro  k
  unfold q8awake.f
  repeat' first
      | (with_reducible exact X.fixes_Holds.mono _ _ _ _)
      | (with_reducible exact LeO.refl _)
      | (with_reducible exact LeO.none _)
      | (with_reducible refine LeO.ite ?_ ?_)
      | (with_reducible refine LeO.bind ?_ (fun _ => ?_))
      | exact X.fixes_Holds.mono _ _ _ _
      | exact LeO.none _
      | refine LeO.ite ?_ ?_
      | refine LeO.bind ?_ (fun _ => ?_)
set_option maxHeartbeats 8000000 in
set_option maxRecDepth 100000 in
theorem q8awake.calls (k : Nat)  (r : Bool) (w : World) (h : q8awake.f k  = some r) :
  Calls Try.prog 22 #[] w fun e w' => e = .returned (.bool r) ∧ Below w.heap.size w w' := by
 have hu28 := Try.underlying28
 have HB := As0.mk (Below.refl w.heap.size w)
 have H : ((X.fixes_Holds.f k (([2, 1] : List Int)) (([0, 1] : List Int)) (⟨#[48]⟩ : ByteArray)).bind fun bt130 => (if bt130.1 = 2 then (some (bt130.2 == 0)) else (some false))) = some r := h
 clear h
 obtain ⟨y124, hy124⟩ : ∃ y_ : List Int, y_ = (([2, 1] : List Int)) := ⟨_, rfl⟩
 replace H : ((X.fixes_Holds.f k y124 (([0, 1] : List Int)) (⟨#[48]⟩ : ByteArray)).bind fun bt130 => (if bt130.1 = 2 then (some (bt130.2 == 0)) else (some false))) = some r := by first | (rw [hy124]; with_reducible exact H) | (have H2_ := (Option.bind_some _ _).symm.trans H; rw [hy124]; with_reducible exact H2_) | (have H2_ := (Option.bind_some _ _).symm.trans H; with_reducible exact H2_) | with_reducible exact H | (rw [hy124]; exact H) | exact H
 have Ny124 := As0.mk hy124
 clear hy124
 obtain ⟨y127, hy127⟩ : ∃ y_ : List Int, y_ = (([0, 1] : List Int)) := ⟨_, rfl⟩
 replace H : ((X.fixes_Holds.f k y124 y127 (⟨#[48]⟩ : ByteArray)).bind fun bt130 => (if bt130.1 = 2 then (some (bt130.2 == 0)) else (some false))) = some r := by first | (rw [hy127]; with_reducible exact H) | (have H2_ := (Option.bind_some _ _).symm.trans H; rw [hy127]; with_reducible exact H2_) | (have H2_ := (Option.bind_some _ _).symm.trans H; with_reducible exact H2_) | with_reducible exact H | (rw [hy127]; exact H) | exact H
 have Ny127 := As0.mk hy127
 clear hy127
 replace H := Option.bind_eq_some_iff.mp H
 obtain ⟨⟨t130, t131⟩, A10, H⟩ := H
 replace H : (if t130 = 2 then (some (t131 == 0)) else (some false)) = some r := H
 have A1 := As0.mk A10
 clear A10
 by_cases c2 : t130 = 2
 ·rw [if_pos c2] at H
  have c2b0 : (t130 == 2) = true := beq_iff_eq.mpr c2
  have c2b1 : (t130 != 2) = false := bne_eq_false_iff_eq.mpr c2
  clear c2
  obtain rfl := Option.some.inj H
  go_enter Try.func22, Try.ntmps22
  go_wp2_with (first | ((with_reducible refine gate_dst (N := 4) rfl ?_); refine Kd.R_lit (Kd.int .i64) _ 3 ?hg (N := 4) ?hd (xs := ([2, 1] : List Int)) (inner := [.int .i64 2, .int .i64 1]) (ok := fun _ => True) (okp := fun _ => True) ?hr ?hp (fun _ hk => hk) trivial (Below.refl _ _) (Nat.le_refl _) (by simp) ?_; (case hd => rfl); (case hg => rfl); (case hr => first | (go_simp; done) | (go_simp; rfl)); (case hp => exact (Reps.one (show Kd.M (Kd.int .i64) _ _ _ 2 [.int .i64 2] from rfl) (Reps.one (show Kd.M (Kd.int .i64) _ _ _ 1 [.int .i64 1] from rfl) (Reps.none _ _)))); intro v125 w3 ho4 hb hg_ hnew_; clear hg_ hnew_; (first | rw [← Ny124.out] at ho4 | (simp only [Int.reduceToNat] at ho4; rw [← Ny124.out] at ho4)); have n0_ := As0.mk (Kd.R_lower ho4 (below_size (by repeat (first | (with_reducible first | exact HB.out | apply below_alloc | apply pwd | apply bd1) | exact HB.out)))); have n1_ := As0.mk (bst (by repeat (first | (with_reducible first | exact HB.out | apply below_alloc | apply pwd | apply bd1) | exact HB.out)) hb); clear HB; have HO126 := n0_; have HB := n1_; clear n0_ n1_; clear hb ho4) | ((with_reducible refine gate_dst (N := 5) rfl ?_); refine Kd.R_lit (Kd.int .i64) _ 3 ?hg (N := 5) ?hd (xs := ([0, 1] : List Int)) (inner := [.int .i64 0, .int .i64 1]) (ok := fun _ => True) (okp := fun _ => True) ?hr ?hp (fun _ hk => hk) trivial (Below.refl _ _) (Nat.le_refl _) (by simp) ?_; (case hd => rfl); (case hg => rfl); (case hr => first | (go_simp; done) | (go_simp; rfl)); (case hp => exact (Reps.one (show Kd.M (Kd.int .i64) _ _ _ 0 [.int .i64 0] from rfl) (Reps.one (show Kd.M (Kd.int .i64) _ _ _ 1 [.int .i64 1] from rfl) (Reps.none _ _)))); intro v128 w5 ho6 hb hg_ hnew_; clear hg_ hnew_; (first | rw [← Ny127.out] at ho6 | (simp only [Int.reduceToNat] at ho6; rw [← Ny127.out] at ho6)); have n0_ := As0.mk (Kd.R_elder' (by (with_reducible repeat (first | apply Kd.R_alloc | apply Kd.R_drewN | apply Kd.R_drew)); exact HO126.out) (Kd.R_base ho6) hb); have n1_ := As0.mk (Kd.R_lower (Kd.R_new' ho6 (Kd.R_lt (by (with_reducible repeat (first | apply Kd.R_alloc | apply Kd.R_drewN | apply Kd.R_drew)); exact HO126.out))) (below_size (by repeat (first | (with_reducible first | exact HB.out | apply below_alloc | apply pwd | apply bd1) | exact HB.out)))); have n2_ := As0.mk (bst (by repeat (first | (with_reducible first | exact HB.out | apply below_alloc | apply pwd | apply bd1) | exact HB.out)) hb); clear HO126; clear HB; have HO126 := n0_; have HO129 := n1_; have HB := n2_; clear n0_ n1_ n2_; clear hb ho6; obtain ⟨Ao7, co7, eo7⟩ := Kd.R_slice HO129.out; subst eo7; obtain ⟨Ao8, co8, eo8⟩ := Kd.R_slice HO126.out; subst eo8) | ((with_reducible refine gate_callee (f := 16) rfl ?_); refine goesL_ (some 7) rfl rfl Try.func16 (by kernel_rfl) rfl #[.agg #[.slice Ao8 y124.length co8, .slice Ao7 y127.length co7], .string (⟨#[48]⟩ : ByteArray)] rfl (by (try simp only [sm]); first | done | rfl | (simp only [List.length_drop, List.length_take]; rfl)) ?_; (with_reducible refine (X.fixes_Holds.calls k _ _ y124 _ _ y127 (⟨#[48]⟩ : ByteArray) t130 t131 _ ?side1 ?side2 ?side3 ?side4 A1.out).mono ?_); (case side1 => repeat (first | exact (Kd.R_reads' HO126.out).2.2 | (with_reducible refine Kd.C_alloc ?_ _) | (with_reducible refine Kd.C_drewN ?_ _) | (with_reducible refine Kd.C_drew ?_))); (case side2 => exact (Kd.R_reads' HO126.out).2.1); (case side3 => repeat (first | exact (Kd.R_reads' HO129.out).2.2 | (with_reducible refine Kd.C_alloc ?_ _) | (with_reducible refine Kd.C_drewN ?_ _) | (with_reducible refine Kd.C_drew ?_))); (case side4 => exact (Kd.R_reads' HO129.out).2.1); rintro e w9 ⟨rfl, hb⟩; refine ⟨_, rfl, ?_⟩; have n0_ := As0.mk (Kd.R_below (by (with_reducible repeat (first | apply Kd.R_alloc | apply Kd.R_drewN | apply Kd.R_drew)); exact HO126.out) hb); have n1_ := As0.mk (Kd.R_below (by (with_reducible repeat (first | apply Kd.R_alloc | apply Kd.R_drewN | apply Kd.R_drew)); exact HO129.out) hb); have n2_ := As0.mk (bst (by repeat (first | (with_reducible first | exact HB.out | apply below_alloc | apply pwd | apply bd1) | exact HB.out)) hb); clear HO126; clear HO129; clear HB; have HO126 := n0_; have HO129 := n1_; have HB := n2_; clear n0_ n1_ n2_; (try clear hb); (try clear hb2); (try clear hk); (try clear hi)))
  go_ret
  exact ⟨by first | rfl | (simp [errW_none, errW_some] <;> rfl) | (simp [*, errW_none, errW_some] <;> rfl), by repeat (first | (with_reducible first | exact HB.out | apply below_alloc | apply pwd | apply bd1) | exact HB.out)⟩
 ·rw [if_neg c2] at H
  have c2b0 : (t130 == 2) = false := beq_eq_false_iff_ne.mpr c2
  have c2b1 : (t130 != 2) = true := bne_iff_ne.mpr c2
  obtain rfl := Option.some.inj H
  go_enter Try.func22, Try.ntmps22
  go_wp2_with (first | ((with_reducible refine gate_dst (N := 4) rfl ?_); refine Kd.R_lit (Kd.int .i64) _ 3 ?hg (N := 4) ?hd (xs := ([2, 1] : List Int)) (inner := [.int .i64 2, .int .i64 1]) (ok := fun _ => True) (okp := fun _ => True) ?hr ?hp (fun _ hk => hk) trivial (Below.refl _ _) (Nat.le_refl _) (by simp) ?_; (case hd => rfl); (case hg => rfl); (case hr => first | (go_simp; done) | (go_simp; rfl)); (case hp => exact (Reps.one (show Kd.M (Kd.int .i64) _ _ _ 2 [.int .i64 2] from rfl) (Reps.one (show Kd.M (Kd.int .i64) _ _ _ 1 [.int .i64 1] from rfl) (Reps.none _ _)))); intro v125 w10 ho11 hb hg_ hnew_; clear hg_ hnew_; (first | rw [← Ny124.out] at ho11 | (simp only [Int.reduceToNat] at ho11; rw [← Ny124.out] at ho11)); have n0_ := As0.mk (Kd.R_lower ho11 (below_size (by repeat (first | (with_reducible first | exact HB.out | apply below_alloc | apply pwd | apply bd1) | exact HB.out)))); have n1_ := As0.mk (bst (by repeat (first | (with_reducible first | exact HB.out | apply below_alloc | apply pwd | apply bd1) | exact HB.out)) hb); clear HB; have HO126 := n0_; have HB := n1_; clear n0_ n1_; clear hb ho11) | ((with_reducible refine gate_dst (N := 5) rfl ?_); refine Kd.R_lit (Kd.int .i64) _ 3 ?hg (N := 5) ?hd (xs := ([0, 1] : List Int)) (inner := [.int .i64 0, .int .i64 1]) (ok := fun _ => True) (okp := fun _ => True) ?hr ?hp (fun _ hk => hk) trivial (Below.refl _ _) (Nat.le_refl _) (by simp) ?_; (case hd => rfl); (case hg => rfl); (case hr => first | (go_simp; done) | (go_simp; rfl)); (case hp => exact (Reps.one (show Kd.M (Kd.int .i64) _ _ _ 0 [.int .i64 0] from rfl) (Reps.one (show Kd.M (Kd.int .i64) _ _ _ 1 [.int .i64 1] from rfl) (Reps.none _ _)))); intro v128 w12 ho13 hb hg_ hnew_; clear hg_ hnew_; (first | rw [← Ny127.out] at ho13 | (simp only [Int.reduceToNat] at ho13; rw [← Ny127.out] at ho13)); have n0_ := As0.mk (Kd.R_elder' (by (with_reducible repeat (first | apply Kd.R_alloc | apply Kd.R_drewN | apply Kd.R_drew)); exact HO126.out) (Kd.R_base ho13) hb); have n1_ := As0.mk (Kd.R_lower (Kd.R_new' ho13 (Kd.R_lt (by (with_reducible repeat (first | apply Kd.R_alloc | apply Kd.R_drewN | apply Kd.R_drew)); exact HO126.out))) (below_size (by repeat (first | (with_reducible first | exact HB.out | apply below_alloc | apply pwd | apply bd1) | exact HB.out)))); have n2_ := As0.mk (bst (by repeat (first | (with_reducible first | exact HB.out | apply below_alloc | apply pwd | apply bd1) | exact HB.out)) hb); clear HO126; clear HB; have HO126 := n0_; have HO129 := n1_; have HB := n2_; clear n0_ n1_ n2_; clear hb ho13; obtain ⟨Ao14, co14, eo14⟩ := Kd.R_slice HO129.out; subst eo14; obtain ⟨Ao15, co15, eo15⟩ := Kd.R_slice HO126.out; subst eo15) | ((with_reducible refine gate_callee (f := 16) rfl ?_); refine goesL_ (some 7) rfl rfl Try.func16 (by kernel_rfl) rfl #[.agg #[.slice Ao15 y124.length co15, .slice Ao14 y127.length co14], .string (⟨#[48]⟩ : ByteArray)] rfl (by (try simp only [sm]); first | done | rfl | (simp only [List.length_drop, List.length_take]; rfl)) ?_; (with_reducible refine (X.fixes_Holds.calls k _ _ y124 _ _ y127 (⟨#[48]⟩ : ByteArray) t130 t131 _ ?side1 ?side2 ?side3 ?side4 A1.out).mono ?_); (case side1 => repeat (first | exact (Kd.R_reads' HO126.out).2.2 | (with_reducible refine Kd.C_alloc ?_ _) | (with_reducible refine Kd.C_drewN ?_ _) | (with_reducible refine Kd.C_drew ?_))); (case side2 => exact (Kd.R_reads' HO126.out).2.1); (case side3 => repeat (first | exact (Kd.R_reads' HO129.out).2.2 | (with_reducible refine Kd.C_alloc ?_ _) | (with_reducible refine Kd.C_drewN ?_ _) | (with_reducible refine Kd.C_drew ?_))); (case side4 => exact (Kd.R_reads' HO129.out).2.1); rintro e w16 ⟨rfl, hb⟩; refine ⟨_, rfl, ?_⟩; have n0_ := As0.mk (Kd.R_below (by (with_reducible repeat (first | apply Kd.R_alloc | apply Kd.R_drewN | apply Kd.R_drew)); exact HO126.out) hb); have n1_ := As0.mk (Kd.R_below (by (with_reducible repeat (first | apply Kd.R_alloc | apply Kd.R_drewN | apply Kd.R_drew)); exact HO129.out) hb); have n2_ := As0.mk (bst (by repeat (first | (with_reducible first | exact HB.out | apply below_alloc | apply pwd | apply bd1) | exact HB.out)) hb); clear HO126; clear HO129; clear HB; have HO126 := n0_; have HO129 := n1_; have HB := n2_; clear n0_ n1_ n2_; (try clear hb); (try clear hb2); (try clear hk); (try clear hi)))
  go_ret
  exact ⟨by first | rfl | (simp [errW_none, errW_some] <;> rfl) | (simp [*, errW_none, errW_some] <;> rfl), by repeat (first | (with_reducible first | exact HB.out | apply below_alloc | apply pwd | apply bd1) | exact HB.out)⟩
end Go.Proofs.Ytjffhhalmicodaa.PB
end

section
namespace Go.Proofs.Ytjffhhalmicodaa.PE
open Go.RowKit Go.Proofs.G.PrintWords Go.Proofs.G.PrintLast Go.Proofs.G.PrintMore
attribute [local go_sem] max2_int min2_int max_two min_two max_three min_three max_four min_four
set_option linter.unusedVariables false
set_option linter.unusedSimpArgs false
def errW : Option Int → Value
  | none => .nilIface
  | some c => .iface 0 (.int .i64 c)
theorem errW_none : errW none = .nilIface := rfl
theorem errW_some (c : Int) : errW (some c) = .iface 0 (.int .i64 c) := rfl
end Go.Proofs.Ytjffhhalmicodaa.PE
end

section
namespace Go.Proofs.Ytjffhhalmicodaa.PE
open Go.RowKit Go.Proofs.G.PrintWords Go.Proofs.G.PrintLast Go.Proofs.G.PrintMore
attribute [local go_sem] max2_int min2_int max_two min_two max_three min_three max_four min_four
set_option linter.unusedVariables false
set_option linter.unusedSimpArgs false
def slices_Equal_int_int.l0 : Nat → List Int → List Int → Int → Int → Option (Bool)
  | 0, _, _, _, _ => none
  | k + 1, x0, x1, x12, x13 => if x13 < x12 then (if 0 ≤ x13 then (if x13 < (x0.length : Int) then (if x13 < (x1.length : Int) then (if (rd x0 x13) = (rd x1 x13) then (slices_Equal_int_int.l0 k x0 x1 x12 (wrap64 (x13 + 1))) else (some false)) else (none)) else (none)) else (none)) else (some true)
def slices_Equal_int_int.f (k : Nat) (l0 : List Int) (l1 : List Int) : Option (Bool) := if (l0.length : Int) = (l1.length : Int) then (slices_Equal_int_int.l0 k l0 l1 (l0.length : Int) 0) else (some false)
set_option maxHeartbeats 8000000 in
set_option maxRecDepth 100000 in
theorem slices_Equal_int_int.calls (k : Nat) (A0 : Option Addr) (c0 : Nat) (l0 : List Int) (A1 : Option Addr) (c1 : Nat) (l1 : List Int) (r : Bool) (w : World) (hr0 : Kd.C (Kd.int .i64) w A0 l0.length l0) (hc0 : l0.length ≤ c0) (hr1 : Kd.C (Kd.int .i64) w A1 l1.length l1) (hc1 : l1.length ≤ c1) (h : slices_Equal_int_int.f k l0 l1 = some r) :
  Calls Try.prog 36 #[.slice A0 l0.length c0, .slice A1 l1.length c1] w fun e w' => e = .returned (.bool r) ∧ Drawn0 w w' := by
 have HR0 := As0.mk hr0
 have HC0 := As0.mk hc0
 clear hr0 hc0
 have HR1 := As0.mk hr1
 have HC1 := As0.mk hc1
 clear hr1 hc1
 have H : (if (l0.length : Int) = (l1.length : Int) then (slices_Equal_int_int.l0 k l0 l1 (l0.length : Int) 0) else (some false)) = some r := h
 clear h
 by_cases c3 : (l0.length : Int) = (l1.length : Int)
 ·rw [if_pos c3] at H
  have c3b0 : ((l0.length : Int) == (l1.length : Int)) = true := beq_iff_eq.mpr c3
  have c3b1 : ((l0.length : Int) != (l1.length : Int)) = false := bne_eq_false_iff_eq.mpr c3
  have c3b2 : (l0.length == l1.length) = true := by first | simpa using c3 | (simp at c3 ⊢; omega)
  clear c3
  have H' := As0.mk H
  clear H
  go_enter Try.func36, Try.ntmps36
  go_wp2
  repeat (go_quiet (fail); try go_wp2)
  go_loopg [13] k (fun kq v13 w' => ∃ (x13_1 : Int), v13 = .int .i64 x13_1 ∧ As0 (slices_Equal_int_int.l0 kq l0 l1 (l0.length : Int) x13_1 = some r) ∧ As0 (kq ≤ k) ∧ Drawn0 w w')
  case atStart => exact ⟨(0), (by first | rfl | (simp; done) | (simp [*]; done)), H', ⟨Nat.le_refl _⟩, by repeat (first | exact Drawn0.refl _ | apply Drawn0.step)⟩
  case round =>
   clear H'
   try clear c1
   try clear p2
   try clear c3
   try clear c3b0
   try clear c3b1
   try clear c3b2
   obtain ⟨x13_1, rfl, HA, HK1, ⟨m1, rfl⟩⟩ := hrel
   cases gk with
   | zero => exact absurd HA.out (by simp [slices_Equal_int_int.l0])
   | succ k1 =>
    have H := HA.out
    clear HA
    simp only [slices_Equal_int_int.l0] at H
    by_cases c4 : x13_1 < (l0.length : Int)
    ·rw [if_pos c4] at H
     have c4b0 : decide (x13_1 < (l0.length : Int)) = true := decide_eq_true c4
     clear c4
     by_cases c5 : 0 ≤ x13_1
     ·rw [if_pos c5] at H
      have c5b0 : decide (0 ≤ x13_1) = true := decide_eq_true c5
      clear c5
      by_cases c6 : x13_1 < (l0.length : Int)
      ·rw [if_pos c6] at H
       have c6b0 : decide (x13_1 < (l0.length : Int)) = true := decide_eq_true c6
       clear c6
       by_cases c7 : x13_1 < (l1.length : Int)
       ·rw [if_pos c7] at H
        have c7b0 : decide (x13_1 < (l1.length : Int)) = true := decide_eq_true c7
        clear c7
        by_cases c8 : (rd l0 x13_1) = (rd l1 x13_1)
        ·rw [if_pos c8] at H
         have c8b0 : ((rd l0 x13_1) == (rd l1 x13_1)) = true := beq_iff_eq.mpr c8
         have c8b1 : ((rd l0 x13_1) != (rd l1 x13_1)) = false := bne_eq_false_iff_eq.mpr c8
         clear c8
         have H' := As0.mk H
         clear H
         have p101 : 0 ≤ (x13_1 : Int) := of_decide_eq_true (by first | (with_reducible assumption) | assumption)
         have q101 : x13_1 < (l0.length : Int) := of_decide_eq_true (by first | (with_reducible assumption) | assumption)
         obtain ⟨ad101, e101, hx101_0⟩ := Kd.at_int HR0.out x13_1 p101 q101
         cases e101
         replace p101 := eq_true p101
         replace q101 := eq_true q101
         have p102 : 0 ≤ (x13_1 : Int) := of_decide_eq_true (by first | (with_reducible assumption) | assumption)
         have q102 : x13_1 < (l1.length : Int) := of_decide_eq_true (by first | (with_reducible assumption) | assumption)
         obtain ⟨ad102, e102, hx102_0⟩ := Kd.at_int HR1.out x13_1 p102 q102
         cases e102
         replace p102 := eq_true p102
         replace q102 := eq_true q102
         go_wp2
         repeat (go_quiet (fail); try go_wp2)
         go_roundg k1
         case measure => have := HK1.out; omega
         case rel => exact ⟨(wrap64 (x13_1 + 1)), (by first | rfl | (simp; done) | (simp [*]; done)), H', ⟨by have := HK1.out; omega⟩, by repeat (first | exact Drawn0.refl _ | apply Drawn0.step)⟩
        ·rw [if_neg c8] at H
         have c8b0 : ((rd l0 x13_1) == (rd l1 x13_1)) = false := beq_eq_false_iff_ne.mpr c8
         have c8b1 : ((rd l0 x13_1) != (rd l1 x13_1)) = true := bne_iff_ne.mpr c8
         obtain rfl := Option.some.inj H
         have p101 : 0 ≤ (x13_1 : Int) := of_decide_eq_true (by first | (with_reducible assumption) | assumption)
         have q101 : x13_1 < (l0.length : Int) := of_decide_eq_true (by first | (with_reducible assumption) | assumption)
         obtain ⟨ad101, e101, hx101_0⟩ := Kd.at_int HR0.out x13_1 p101 q101
         cases e101
         replace p101 := eq_true p101
         replace q101 := eq_true q101
         have p102 : 0 ≤ (x13_1 : Int) := of_decide_eq_true (by first | (with_reducible assumption) | assumption)
         have q102 : x13_1 < (l1.length : Int) := of_decide_eq_true (by first | (with_reducible assumption) | assumption)
         obtain ⟨ad102, e102, hx102_0⟩ := Kd.at_int HR1.out x13_1 p102 q102
         cases e102
         replace p102 := eq_true p102
         replace q102 := eq_true q102
         go_wp2
         repeat (go_quiet (fail); try go_wp2)
         go_ret
         exact ⟨by first | rfl | (simp; done) | (simp [*]; done), by repeat (first | exact Drawn0.refl _ | apply Drawn0.step)⟩
       ·rw [if_neg c7] at H
        exact absurd H (by simp)
      ·rw [if_neg c6] at H
       exact absurd H (by simp)
     ·rw [if_neg c5] at H
      exact absurd H (by simp)
    ·rw [if_neg c4] at H
     have c4b0 : decide (x13_1 < (l0.length : Int)) = false := decide_eq_false c4
     clear c4
     obtain rfl := Option.some.inj H
     go_wp2
     repeat (go_quiet (fail); try go_wp2)
     go_ret
     exact ⟨by first | rfl | (simp; done) | (simp [*]; done), by repeat (first | exact Drawn0.refl _ | apply Drawn0.step)⟩
 ·rw [if_neg c3] at H
  have c3b0 : ((l0.length : Int) == (l1.length : Int)) = false := beq_eq_false_iff_ne.mpr c3
  have c3b1 : ((l0.length : Int) != (l1.length : Int)) = true := bne_iff_ne.mpr c3
  have c3b2 : (l0.length == l1.length) = false := by first | simpa using c3 | (simp at c3 ⊢; omega)
  obtain rfl := Option.some.inj H
  go_enter Try.func36, Try.ntmps36
  go_wp2
  repeat (go_quiet (fail); try go_wp2)
  go_ret
  exact ⟨by first | rfl | (simp; done) | (simp [*]; done), by repeat (first | exact Drawn0.refl _ | apply Drawn0.step)⟩
end Go.Proofs.Ytjffhhalmicodaa.PE
end

section
set_option linter.unusedVariables false
set_option linter.unusedSimpArgs false
namespace Go.Proofs.Ytjffhhalmicodaa.X
open Go.RowKit Go.Proofs.G.PrintWords Go.Proofs.G.PrintLast Go.Proofs.G.PrintMore
theorem equal_from (a b : List Int) (h : a.length = b.length) (hsz : a.length ≤ 1000000) : ∀ d i : Nat, i + d = a.length → ∃ k, PE.slices_Equal_int_int.l0 k a b (a.length : Int) (i : Int) = some (decide (a.drop i = b.drop i)) := by
 intro d
 induction d with
 | zero =>
  intro i hi
  refine ⟨1, ?_⟩
  simp only [PE.slices_Equal_int_int.l0]
  rw [List.drop_of_length_le (by omega), List.drop_of_length_le (by omega)]
  simp [show ¬ i < a.length by omega]
 | succ d ih =>
  intro i hi
  obtain ⟨k, hk⟩ := ih (i + 1) (by omega)
  refine ⟨k + 1, ?_⟩
  have ha : i < a.length := by omega
  have hb : i < b.length := by omega
  rw [List.drop_eq_getElem_cons ha, List.drop_eq_getElem_cons hb]
  have e1 : rd a (i : Int) = a[i] := by simp [rd, List.getD_eq_getElem?_getD, ha]
  have e2 : rd b (i : Int) = b[i] := by simp [rd, List.getD_eq_getElem?_getD, hb]
  simp only [PE.slices_Equal_int_int.l0]
  rw [if_pos (by omega), if_pos (by omega), if_pos (by omega), if_pos (by omega), e1, e2, show wrap64 ((i : Int) + 1) = ((i + 1 : Nat) : Int) by unfold wrap64; omega, hk]
  by_cases hab : a[i] = b[i]
  ·rw [if_pos hab, hab]
   simp only [List.cons.injEq, true_and]
  ·rw [if_neg hab]
   simp only [List.cons.injEq, hab, false_and, decide_false]
theorem equal_eq (a b : List Int) (hsz : a.length ≤ 1000000) : ∃ k, PE.slices_Equal_int_int.f k a b = some (decide (a = b)) := by
 unfold PE.slices_Equal_int_int.f
 by_cases h : a.length = b.length
 ·obtain ⟨k, hk⟩ := equal_from a b h hsz a.length 0 (by omega)
  refine ⟨k, ?_⟩
  rw [if_pos (by omega)]
  simpa using hk
 ·refine ⟨0, ?_⟩
  rw [if_neg (by omega)]
  have : a ≠ b := fun e => h (by rw [e])
  simp [this]
theorem keyfn_mark (w : World) (bw n c1 : Nat) (A1 : Option Addr) (mk : List Int) (hr : Kd.C (Kd.int .i64) w A1 mk.length mk) (hw : w.cell? ⟨bw, 1, none⟩ = some (.slice A1 mk.length c1)) (hn : n ≤ mk.length) : KeyFn w 82 #[.pointer (some ⟨bw, 0, none⟩)] n (markKey mk) := by
  intro W s hsn hb
  obtain ⟨b, off, rfl, hlt, hc⟩ := ints_at hr (by omega)
  exact mark_calls bw b off mk.length c1 s (rd mk s) W (pwc hb hw) (by omega) hr.2.1 (pwc hb (hc s (by omega)))
theorem keyfn_next (w : World) (bw bl c0 c2 : Nat) (A0 A2 : Option Addr) (nx last : List Int) (hl : last.length = nx.length) (h61 : nx.length ≤ 61) (hr : Kd.C (Kd.int .i64) w A0 nx.length nx) (hr2 : Kd.C (Kd.int .i64) w A2 last.length last) (hw : w.cell? ⟨bw, 0, none⟩ = some (.slice A0 nx.length c0)) (hw2 : w.cell? ⟨bl, 0, none⟩ = some (.slice A2 last.length c2)) (hv : ∀ i : Nat, i < nx.length → 0 ≤ rd last i ∧ rd last i < nx.length) : KeyFn w 83 #[.pointer (some ⟨bl, 0, none⟩), .pointer (some ⟨bw, 0, none⟩)] nx.length (setKey nx last) := by
  intro W s hsn hb
  obtain ⟨b, off, rfl, hlt, hc⟩ := ints_at hr (by omega)
  obtain ⟨b2, off2, rfl, hlt2, hc2⟩ := ints_at hr2 (by omega)
  exact next_calls bw b off nx.length c0 s bl b2 off2 c2 nx last hl rfl W (pwc hb hw) (by rw [← hl]; exact pwc hb hw2) hsn h61 (pwc hb (hc s hsn)) (fun i hi => pwc hb (hc2 i (by omega))) hv
def levF (nx : List Int) : Nat → List (List Int) → Option (List (List Int))
  | 0, _ => none
  | k + 1, out => if out.length ≤ 1000 then (if (numTo (setKey nx (out.getLastD [])) nx.length).2 = out.getLastD [] then some out else levF nx k (out ++ [(numTo (setKey nx (out.getLastD [])) nx.length).2])) else none
def LvOk (n : Nat) (l : List Int) : Prop := l.length = n ∧ ∀ i : Nat, i < n → 0 ≤ rd l i ∧ rd l i < n
theorem lvOk_num (key : Nat → Int × Int) (n : Nat) : LvOk n (numTo key n).2 := ⟨numTo_len key n, fun i hi => by
  rw [rd_num key n i hi]
  have := cls_range key hi
  have := cnt_le key n
  omega⟩
theorem info22 : (Try.prog.info? 22).map (fun i => (i.zero, i.size, i.bytes)) = some (some (.slice none 0 0), 1, 24) := by kernel_rfl
theorem rows_last {w : World} {base g m cp : Nat} {ok : Nat → Prop} {init : List (List Int)} {last : List Int} (h : Kd.R (Kd.slice 3 (Kd.int .i64)) 22 w base ok (.slice (some ⟨g, 0, none⟩) (m + 1) cp) (init ++ [last])) (hm : m = init.length) :
    ∃ A c, w.cell? ⟨g, m, none⟩ = some (.slice A last.length c) ∧ last.length ≤ c ∧ Kd.C (Kd.int .i64) w A last.length last := by
  obtain ⟨h1, h2, h3⟩ := Kd.R_reads' h
  obtain ⟨ad, c, e, _, hK, hc⟩ := Kd.C_get h3 [] (m : Int) (by omega) (by rw [← h1]; omega)
  injection e with e
  subst e
  obtain ⟨A, c2, rfl, hl, hC⟩ := hK
  have hg : (init ++ [last]).getD (m : Int).toNat [] = last := by
    rw [Int.toNat_natCast, hm]
    simp
  rw [hg] at hl hC hc
  refine ⟨A, c2, ?_, hl, hC⟩
  have := hc 0 _ rfl
  rw [Int.toNat_natCast, show (Kd.slice 3 (Kd.int .i64)).sz = 1 from rfl, Nat.mul_one, Nat.add_zero] at this
  have e2 : (⟨g, 0, none⟩ : Addr).add m = ⟨g, m, none⟩ := by
    unfold Addr.add
    split <;> simp_all
  rwa [e2] at this
theorem rows_form {w : World} {base : Nat} {ok : Nat → Prop} {v : Value} {xs : List (List Int)} (h : Kd.R (Kd.slice 3 (Kd.int .i64)) 22 w base ok v xs) (hx : 0 < xs.length) : ∃ g cp, v = .slice (some ⟨g, 0, none⟩) xs.length cp := by
  obtain ⟨inner, ho⟩ := Kd.R_own h
  obtain ⟨g, cap, e, _⟩ := ho.form hx
  exact ⟨g, cap, e⟩
theorem info22s : (Try.prog.info? 22).map (·.size) = some 1 := by kernel_rfl
structure LS (w : World) (gw c0 c1 : Nat) (A0 A1 : Option Addr) (nx mk : List Int) (r : List (List Int)) (g m cp kq : Nat) (init : List (List Int)) (last : List Int) (wr : World) : Prop where
 len : m = init.length
 fuel : levF nx kq (init ++ [last]) = some r
 ok : LvOk nx.length last
 own : Kd.R (Kd.slice 3 (Kd.int .i64)) 22 wr w.heap.size (fun _ => True) (.slice (some ⟨g, 0, none⟩) (m + 1) cp) (init ++ [last])
 below : Below w.heap.size w wr
 box : wr.heap[gw]? = some (.cells #[.slice A0 nx.length c0, .slice A1 mk.length c1] 28 (0, 0))
set_option maxRecDepth 100000 in
set_option maxHeartbeats 2000000 in
theorem levels_calls (k : Nat) (A0 : Option Addr) (c0 : Nat) (nx : List Int) (A1 : Option Addr) (c1 : Nat) (mk : List Int) (r : List (List Int)) (w : World) (hr0 : Kd.C (Kd.int .i64) w A0 nx.length nx) (hr1 : Kd.C (Kd.int .i64) w A1 mk.length mk) (h61 : nx.length ≤ 61) (hnm : nx.length ≤ mk.length) (h : levF nx k [(numTo (markKey mk) nx.length).2] = some r) :
    Calls Try.prog 66 #[.agg #[.slice A0 nx.length c0, .slice A1 mk.length c1]] w fun e w' => ∃ v, e = .returned v ∧ Kd.R (Kd.slice 3 (Kd.int .i64)) 22 w' w.heap.size (fun _ => True) v r ∧ Below w.heap.size w w' := by
  have hu := Try.underlying28
  have eg82 : ∀ args w, (callFunc 82 args).run Try.prog w = .ok (.enter 82 args) w := enters_of' Try.func82 (by kernel_rfl) rfl
  have eg83 : ∀ args w, (callFunc 83 args).run Try.prog w = .ok (.enter 83 args) w := enters_of' Try.func83 (by kernel_rfl) rfl
  have EG82 := Lib.hid eg82
  have EG83 := Lib.hid eg83
  have HR0 := Lib.hid hr0
  have HR1 := Lib.hid hr1
  have HF := Lib.hid h
  clear hr0 hr1 h eg82 eg83
  go_enter Try.func66, Try.ntmps66
  go_wp2_with (first | ((with_reducible refine gate_dst (N := 1) rfl ?_); refine box_event ?hg (N := 1) ?hd (cs := #[.slice A0 nx.length c0, .slice A1 mk.length c1]) (t := 28) ?hr ?_; (case hd => rfl); (case hg => rfl); (case hr => first | (go_simp; done) | (go_simp; rfl)); intro gw hgw wb hbw hbb; have HBX := Lib.hid hbw; have HGW := Lib.hid (Nat.le_of_eq hgw.symm); have HB0 := Lib.hid (bst (Below.refl w.heap.size w) hbb); have hw0 : wb.cell? ⟨gw, 0, none⟩ = some (.slice A0 nx.length c0) := (blk_cell hbw 0).trans rfl; have hw1 : wb.cell? ⟨gw, 1, none⟩ = some (.slice A1 mk.length c1) := (blk_cell hbw 1).trans rfl; clear hgw hbw hbb) | fail)
  refine (numbered_calls 82 _ EG82.out (markKey mk) A0 nx.length c0 A1 mk.length c1 wb (by omega) (keyfn_mark wb gw nx.length c1 A1 mk (Kd.C_below HR1.out HB0.out) hw1 hnm)).mono ?_
  rintro e w2 ⟨v0, rfl, hv0, hb2⟩
  obtain ⟨A5, c5, rfl⟩ := Kd.R_slice hv0
  have HV0 := Lib.hid (Kd.R_lower hv0 HB0.out.size)
  have HB2 := Lib.hid (bst HB0.out hb2)
  have HBX2 := Lib.hid (blk_below HBX.out hb2)
  clear hv0 hb2 HB0 HBX hw0 hw1
  go_wp2_with (first | ((with_reducible refine gate_dst (N := 9) rfl ?_); refine Kd.R_lit (Kd.slice 3 (Kd.int .i64)) (w0 := w) w.heap.size 22 ?hg (N := 9) ?hd (xs := [(numTo (markKey mk) nx.length).2]) (inner := [.slice A5 (numTo (markKey mk) nx.length).2.length c5]) (ok := fun _ => True) (okp := fun _ => True) ?hr ?hp (fun _ hk => hk) trivial HB2.out HB2.out.size (by simp) ?_; (case hd => rfl); (case hg => rfl); (case hr => first | (go_simp; done) | (go_simp; rfl)); (case hp => exact ⟨rfl, fun j p hj => by (cases j with | zero => (injection hj with hj; subst hj; exact ⟨_, rfl, HV0.out⟩) | succ j => simp at hj)⟩); intro v1 w3 hv1 hb3 hg3 hat3; have HV1 := Lib.hid hv1; have HB3 := Lib.hid hb3; have HBX3 := Lib.hid (blk_grown HBX2.out hg3 (by simp)); clear hv1 hb3 hg3 hat3) | fail)
  clear HV0 HB2 HBX2
  obtain ⟨g, cp, rfl⟩ := rows_form HV1.out (by simp)
  have HL := Lib.hid (show LS w gw c0 c1 A0 A1 nx mk r g 0 cp k [] (numTo (markKey mk) nx.length).2 w3 from ⟨rfl, HF.out, lvOk_num _ _, HV1.out, HB3.out, HBX3.out⟩)
  clear HV1 HB3 HBX3 HF
  go_wp2_with fail
  go_loopg [3] k (fun kq v3 wr => ∃ (g m cp : Nat) (init : List (List Int)) (last : List Int), v3 = .slice (some ⟨g, 0, none⟩) (m + 1) cp ∧ Hid (LS w gw c0 c1 A0 A1 nx mk r g m cp kq init last wr))
  case atStart => exact ⟨_, _, _, _, _, rfl, HL⟩
  case round =>
    clear HL
    obtain ⟨g, m, cp, init, last, rfl, HL⟩ := hrel
    cases gk with
    | zero => exact absurd HL.out.fuel (by simp [levF])
    | succ kq =>
      obtain ⟨A2, c2, hcl, hl2, hC2⟩ := rows_last HL.out.own HL.out.len
      have HC2 := Lib.hid hC2
      have HL2 := Lib.hid hl2
      clear hC2 hl2
      have hf := HL.out.fuel
      rw [levF] at hf
      have hlen : (init ++ [last]).length ≤ 1000 := by
        by_cases q : (init ++ [last]).length ≤ 1000
        · exact q
        · rw [if_neg q] at hf
          cases hf
      rw [if_pos hlen, show (init ++ [last]).getLastD [] = last by simp] at hf
      have hm1 : m + 1 ≤ 1000 := by rw [HL.out.len]; simpa using hlen
      have HF := Lib.hid hf
      clear hf hlen
      have h0 := HL.out.own
      clear h0
      go_wp2_with (first | ((with_reducible refine gate_dst (N := 4) rfl ?_); refine box_event ?hg (N := 4) ?hd (cs := #[.slice none 0 0]) (t := 22) ?hr ?_; (case hd => rfl); (case hg => rfl); (case hr => kernel_rfl); intro gl hgl wl hbl hbbl; have HGL := Lib.hid (Nat.le_of_eq hgl.symm); have HBBL := Lib.hid hbbl; have HBL := Lib.hid hbl; clear hgl hbl hbbl) | ((with_reducible refine gate_op (op := .store 22 (.tmp 4) (.tmp 15)) rfl ?_); refine whole_store_event rfl rfl 22 (.tmp 4) (.tmp 15) rfl (g := gl) (cur := #[.slice none 0 0]) (.slice A2 last.length c2) [.slice A2 last.length c2] rfl rfl rfl info22s rfl (by simp [Value.oneCell']) HBL.out ?_; intro w3 hw3 hk3 hb3; have HB3 := Lib.hid (hb3 _ _ HBBL.out HGL.out); have hwl : w3.cell? ⟨gl, 0, none⟩ = some (.slice A2 last.length c2) := (blk_cell hw3 0).trans rfl; have hw0 : w3.cell? ⟨gw, 0, none⟩ = some (.slice A0 nx.length c0) := (blk_cell (blk_below HL.out.box HB3.out) 0).trans rfl; have hw1 : w3.cell? ⟨gw, 1, none⟩ = some (.slice A1 mk.length c1) := (blk_cell (blk_below HL.out.box HB3.out) 1).trans rfl; clear hw3 hk3 hb3 hcl HBBL HBL HGL) | fail)
      refine (numbered_calls 83 _ EG83.out (setKey nx last) A0 nx.length c0 A1 mk.length c1 w3 (by omega) (keyfn_next w3 gw gl c0 c2 A0 A2 nx last HL.out.ok.1 h61 (Kd.C_below HR0.out (bst HL.out.below HB3.out)) (Kd.C_below HC2.out HB3.out) hw0 hwl HL.out.ok.2)).mono ?_
      rintro e w4 ⟨v4, rfl, hv4, hb4⟩
      obtain ⟨A4, c4, rfl⟩ := Kd.R_slice hv4
      obtain ⟨_, hc4, hr4⟩ := Kd.R_reads' hv4
      have HV4 := Lib.hid (Kd.R_lower hv4 (bst HL.out.below HB3.out).size)
      have HB4 := Lib.hid (bst HB3.out hb4)
      have HC4 := Lib.hid hc4
      have HR4 := Lib.hid hr4
      have k0 := pwc hb4 hwl
      clear hv4 hb4 hw0 hw1 hwl HB3 hc4 hr4
      have hwl := k0
      clear k0
      obtain ⟨ke, hke⟩ := equal_eq (numTo (setKey nx last) nx.length).2 last (by rw [numTo_len]; omega)
      have HKE := Lib.hid hke
      clear hke
      go_wp2_with fail
      refine (PE.slices_Equal_int_int.calls ke A4 c4 (numTo (setKey nx last) nx.length).2 A2 c2 last _ w4 HR4.out HC4.out (Kd.C_below HC2.out HB4.out) HL2.out HKE.out).mono ?_
      rintro e w5 ⟨rfl, hd⟩
      obtain ⟨q5, rfl⟩ := hd
      clear HKE HC4 HR4 hwl
      by_cases hdone : (numTo (setKey nx last) nx.length).2 = last
      · have hb : decide ((numTo (setKey nx last) nx.length).2 = last) = true := decide_eq_true hdone
        have hf := HF.out
        rw [if_pos hdone] at hf
        injection hf with hf
        have HE := Lib.hid hf
        clear hf hdone
        go_wp2
        go_ret
        refine ⟨_, rfl, ?_, ?_⟩
        · rw [← HE.out]
          exact Kd.R_below HL.out.own (pwd HB4.out q5)
        · exact bst HL.out.below (pwd HB4.out q5)
      · have hb : decide ((numTo (setKey nx last) nx.length).2 = last) = false := decide_eq_false hdone
        have hf := HF.out
        rw [if_neg hdone] at hf
        have HF2 := Lib.hid hf
        clear hf hdone HF
        have HO := Lib.hid (Kd.R_below HL.out.own (pwd HB4.out q5))
        have HBW := Lib.hid (bst HL.out.below (pwd HB4.out q5))
        have HV5 := Lib.hid (Kd.R_below HV4.out (pwd (Below.refl w4.heap.size w4) q5))
        have HBX := Lib.hid (blk_below HL.out.box (pwd HB4.out q5))
        have HP : Hid (Kd.R (Kd.int .i64) 3 (w4.drewN q5) w.heap.size (fun k => True ∧ k ≠ g) (.slice A4 (numTo (setKey nx last) nx.length).2.length c4) (numTo (setKey nx last) nx.length).2) := Lib.hid (by
          obtain ⟨_, inner, ho, _⟩ := HO.out
          obtain ⟨cells, hc⟩ := own_typed ho g rfl
          exact Kd.R_types HV5.out hc (by simp [Kd.int, Kd.scalar]))
        have HXS := Lib.hid (show ((init ++ [last]).length + 1) * 24 ≤ 140737488355328 by have := HL.out.len; simp; omega)
        go_wp2_with (first | (at_builtin; refine Kd.R_append (Kd.slice 3 (Kd.int .i64)) (w0 := w) w.heap.size rfl (.tmp 23) (.tmp 25) 86 22 (.slice none 0 0) 24 rfl Try.underlying86 info22 rfl (by decide) (by decide) (.slice (some ⟨g, 0, none⟩) (m + 1) cp) (init ++ [last]) (numTo (setKey nx last) nx.length).2 [.slice A4 (numTo (setKey nx last) nx.length).2.length c4] (fun _ => True) (fun k => True ∧ k ≠ g) rfl rfl ⟨_, rfl, HP.out⟩ (fun k hk => ⟨trivial, fun e => hk.2 (Option.some.inj e)⟩) (fun _ _ => trivial) HO.out HBW.out HBW.out.size HXS.out ?_; intro v1 w1 hv hb hg hat; have HV1 := Lib.hid hv; have HB1 := Lib.hid hb; have HX1 := Lib.hid (blk_grown HBX.out hg (Kd.R_ne HO.out HBX.out (by decide))); clear hv hb hg hat) | fail)
        obtain ⟨g', cp', rfl⟩ := rows_form HV1.out (by simp)
        go_roundg kq
        case measure => omega
        case rel => exact ⟨g', m + 1, cp', init ++ [last], _, by simp [HL.out.len], ⟨by simp [HL.out.len], HF2.out, lvOk_num _ _, by simpa [HL.out.len] using HV1.out, HB1.out, HX1.out⟩⟩
end Go.Proofs.Ytjffhhalmicodaa.X
end

section
set_option linter.unusedVariables false
set_option linter.unusedSimpArgs false
namespace Go.Proofs.Ytjffhhalmicodaa.X
open Go.RowKit Go.Proofs.G.PrintWords Go.Proofs.G.PrintLast Go.Proofs.G.PrintMore
def fixes_levels.f (k : Nat) (l0_0 l0_1 : List Int) : Option (List (List Int)) := if l0_0.length ≤ 61 ∧ l0_0.length ≤ l0_1.length then levF l0_0 k [(numTo (markKey l0_1) l0_0.length).2] else none
theorem fixes_levels.calls (k : Nat) (A0_0 : Option Addr) (c0_0 : Nat) (l0_0 : List Int) (A0_1 : Option Addr) (c0_1 : Nat) (l0_1 : List Int) (r : List (List Int)) (w : World) (hr0_0 : Kd.C (Kd.int .i64) w A0_0 l0_0.length l0_0) (hc0_0 : l0_0.length ≤ c0_0) (hr0_1 : Kd.C (Kd.int .i64) w A0_1 l0_1.length l0_1) (hc0_1 : l0_1.length ≤ c0_1) (h : fixes_levels.f k l0_0 l0_1 = some r) :
    Calls Try.prog 66 #[.agg #[.slice A0_0 l0_0.length c0_0, .slice A0_1 l0_1.length c0_1]] w fun e w' => ∃ v0_ : Value, e = .returned (v0_) ∧ Kd.R (Kd.slice 3 (Kd.int .i64)) 22 w' w.heap.size (fun _ => True) v0_ r ∧ Below w.heap.size w w' := by
  unfold fixes_levels.f at h
  split at h
  · rename_i hc
    exact levels_calls k A0_0 c0_0 l0_0 A0_1 c0_1 l0_1 r w hr0_0 hr0_1 hc.1 hc.2 h
  · cases h
def PredI (w : World) (g : Nat) (lb : Array Value) (l : List Int) (p : Int → Bool) : Prop :=
  ∀ (W : World) (s : Nat), s < l.length → Below w.heap.size w W → Calls Try.prog g (#[.int .i64 (rd l s)] ++ lb) W fun e w' => e = .returned (.bool (p (rd l s))) ∧ Below W.heap.size W w'
set_option maxRecDepth 100000 in
set_option maxHeartbeats 2000000 in
theorem index_calls (g : Nat) (lb : Array Value) (eg : ∀ args w, (callFunc g args).run Try.prog w = .ok (.enter g args) w) (p : Int → Bool) (A : Option Addr) (c : Nat) (l : List Int) (w : World) (hr : Kd.C (Kd.int .i64) w A l.length l) (hp : PredI w g lb l p) :
    Calls Try.prog 90 #[.slice A l.length c, .func (.func g) #[] lb] w fun e w' => (∃ i : Int, e = .returned (.int .i64 i) ∧ (decide (0 ≤ i) = l.any p)) ∧ Below w.heap.size w w' := by
  have HP := Lib.hid hp
  have HR := Lib.hid hr
  have hlen := hr.2.1
  clear hp hr
  go_enter Try.func90, Try.ntmps90
  go_wp2_with fail
  go_loopw [8] (fun i wr => ∃ k : Nat, k ≤ l.length ∧ i = .int .i64 k ∧ Hid (Below w.heap.size w wr) ∧ Hid (∀ j : Nat, j < k → p (rd l j) = false)) (fun i _ => l.length - (intOf i).toNat)
  case atStart => exact ⟨0, by omega, rfl, Lib.hid (Below.refl _ _), Lib.hid (fun j hj => by omega)⟩
  case round =>
    obtain ⟨k, hk, rfl, HB, HK⟩ := hrel
    by_cases hlt : k < l.length
    · obtain ⟨b, off, rfl, hbl, hc⟩ := ints_at HR.out (by omega)
      have hcell := pwc HB.out (hc k hlt)
      have HC := Lib.hid (HP.out wr k hlt HB.out)
      clear hc hbl
      go_wp2_with fail
      refine HC.out.mono ?_
      rintro e w2 ⟨rfl, hb⟩
      have HB2 := Lib.hid (bst HB.out hb)
      clear hb HB HC hcell
      cases hpk : p (rd l (k : Int)) with
      | true =>
        have HPK := Lib.hid hpk
        clear hpk
        go_wp2
        go_ret
        refine ⟨⟨_, rfl, ?_⟩, HB2.out⟩
        have : l.any p = true := by
          rw [List.any_eq_true]
          refine ⟨rd l (k : Int), ?_, HPK.out⟩
          simp [rd, List.getD_eq_getElem?_getD, hlt]
        rw [this]
        simp
      | false =>
        have HPK := Lib.hid hpk
        clear hpk
        go_wp2
        go_roundw
        case rel => exact ⟨k + 1, by omega, by go_num, HB2, Lib.hid (fun j hj => by
          by_cases e : j = k
          · rw [e]; exact HPK.out
          · exact HK.out j (by omega))⟩
        case measure => simp [intOf]; omega
    · obtain rfl : k = l.length := by omega
      go_wp2
      go_ret
      refine ⟨⟨_, rfl, ?_⟩, HB.out⟩
      have : l.any p = false := by
        rw [List.any_eq_false]
        intro x hx
        obtain ⟨j, hj, rfl⟩ := List.getElem_of_mem hx
        have := HK.out j hj
        simpa [rd, List.getD_eq_getElem?_getD, hj] using this
      rw [this]
      rfl
end Go.Proofs.Ytjffhhalmicodaa.X
end

section
set_option linter.unusedVariables false
set_option linter.unusedSimpArgs false
namespace Go.Proofs.Ytjffhhalmicodaa.X
open Go.RowKit Go.Proofs.G.PrintWords Go.Proofs.G.PrintLast Go.Proofs.G.PrintMore
set_option maxRecDepth 100000 in
set_option maxHeartbeats 2000000 in
theorem contains_calls (g : Nat) (lb : Array Value) (eg : ∀ args w, (callFunc g args).run Try.prog w = .ok (.enter g args) w) (p : Int → Bool) (A : Option Addr) (c : Nat) (l : List Int) (w : World) (hr : Kd.C (Kd.int .i64) w A l.length l) (hp : PredI w g lb l p) :
    Calls Try.prog 78 #[.slice A l.length c, .func (.func g) #[] lb] w fun e w' => e = .returned (.bool (l.any p)) ∧ Below w.heap.size w w' := by
  have HC := Lib.hid (index_calls g lb eg p A c l w hr hp)
  clear hp hr
  go_enter Try.func78, Try.ntmps78
  go_wp2_with fail
  refine HC.out.mono ?_
  rintro e w2 ⟨⟨i, rfl, hi⟩, hb⟩
  have HB := Lib.hid hb
  have HI := Lib.hid hi
  clear hb hi HC
  go_wp2
  go_ret
  exact ⟨ret_bool HI.out, HB.out⟩
def offS (n : Nat) (x : Int) : Bool := decide (x < 0) || decide ((n : Int) ≤ x)
set_option maxRecDepth 100000 in
set_option maxHeartbeats 2000000 in
theorem off_calls (bw n c0 : Nat) (A0 : Option Addr) (x : Int) (W : World) (hw : W.cell? ⟨bw, 0, none⟩ = some (.slice A0 n c0)) (_hn : n ≤ 9223372036854775807) :
    Calls Try.prog 79 #[.int .i64 x, .pointer (some ⟨bw, 0, none⟩)] W fun e w' => e = .returned (.bool (offS n x)) ∧ Below W.heap.size W w' := by
  have hu := Try.underlying28
  by_cases h : x < 0
  · have hd : decide (x < 0) = true := decide_eq_true h
    have HD := Lib.hid hd
    go_enter Try.func79, Try.ntmps79
    go_wp2
    go_ret
    exact ⟨by unfold offS; rw [HD.out]; rfl, Below.refl _ _⟩
  · have hd : decide (x < 0) = false := decide_eq_false h
    have HD := Lib.hid hd
    go_enter Try.func79, Try.ntmps79
    go_wp2
    go_ret
    exact ⟨ret_bool (by unfold offS; rw [HD.out]; rfl), Below.refl _ _⟩
set_option maxRecDepth 100000 in
set_option maxHeartbeats 2000000 in
theorem isState_no (A0 : Option Addr) (c0 : Nat) (nx : List Int) (A1 : Option Addr) (c1 : Nat) (mk : List Int) (A : Option Addr) (c : Nat) (l : List Int) (w : World) (hr0 : Kd.C (Kd.int .i64) w A0 nx.length nx) (hc0 : nx.length ≤ c0) (hr1 : Kd.C (Kd.int .i64) w A1 mk.length mk) (hc1 : mk.length ≤ c1) (h : PA.fixes_Works_valid.f nx mk = some false) :
    Calls Try.prog 64 #[.agg #[.slice A0 nx.length c0, .slice A1 mk.length c1], .slice A l.length c] w fun e w' => e = .returned (.bool false) ∧ Below w.heap.size w w' := by
  have hu := Try.underlying28
  have HR0 := Lib.hid hr0
  have HR1 := Lib.hid hr1
  have H := Lib.hid h
  clear hr0 hr1 h
  go_enter Try.func64, Try.ntmps64
  go_wp2_with (first | ((with_reducible refine gate_dst (N := 2) rfl ?_); refine box_event ?hg (N := 2) ?hd (cs := #[.slice A0 nx.length c0, .slice A1 mk.length c1]) (t := 28) ?hr ?_; (case hd => rfl); (case hg => rfl); (case hr => first | (go_simp; done) | (go_simp; rfl)); intro gw hgw wb hbw hbb; have HB0 := Lib.hid (bst (Below.refl w.heap.size w) hbb); have hw0 : wb.cell? ⟨gw, 0, none⟩ = some (.slice A0 nx.length c0) := (blk_cell hbw 0).trans rfl; have hw1 : wb.cell? ⟨gw, 1, none⟩ = some (.slice A1 mk.length c1) := (blk_cell hbw 1).trans rfl; clear hgw hbw hbb) | fail)
  refine (PA.fixes_Works_valid.calls A0 c0 nx A1 c1 mk false wb (Kd.C_below HR0.out HB0.out) hc0 (Kd.C_below HR1.out HB0.out) hc1 H.out).mono ?_
  rintro e w1 ⟨rfl, hb⟩
  have HB := Lib.hid (bst HB0.out hb)
  clear hb HB0 hw0 hw1
  go_wp2
  go_ret
  exact ⟨rfl, HB.out⟩
theorem predI_off (w : World) (gw n c0 : Nat) (A0 : Option Addr) (l : List Int) (hn : n ≤ 9223372036854775807) (hw : w.cell? ⟨gw, 0, none⟩ = some (.slice A0 n c0)) : PredI w 79 #[.pointer (some ⟨gw, 0, none⟩)] l (offS n) := by
  intro W s hs hb
  exact off_calls gw n c0 A0 (rd l s) W (pwc hb hw) hn
set_option maxRecDepth 100000 in
set_option maxHeartbeats 2000000 in
theorem isState_yes (A0 : Option Addr) (c0 : Nat) (nx : List Int) (A1 : Option Addr) (c1 : Nat) (mk : List Int) (A : Option Addr) (c : Nat) (l : List Int) (w : World) (hr0 : Kd.C (Kd.int .i64) w A0 nx.length nx) (hc0 : nx.length ≤ c0) (hr1 : Kd.C (Kd.int .i64) w A1 mk.length mk) (hc1 : mk.length ≤ c1) (hr : Kd.C (Kd.int .i64) w A l.length l) (h : PA.fixes_Works_valid.f nx mk = some true) :
    Calls Try.prog 64 #[.agg #[.slice A0 nx.length c0, .slice A1 mk.length c1], .slice A l.length c] w fun e w' => e = .returned (.bool (!l.any (offS nx.length))) ∧ Below w.heap.size w w' := by
  have hu := Try.underlying28
  have eg : ∀ args w, (callFunc 79 args).run Try.prog w = .ok (.enter 79 args) w := enters_of' Try.func79 (by kernel_rfl) rfl
  have EG := Lib.hid eg
  have HR0 := Lib.hid hr0
  have HR1 := Lib.hid hr1
  have HR := Lib.hid hr
  have H := Lib.hid h
  clear hr0 hr1 h eg hr
  go_enter Try.func64, Try.ntmps64
  go_wp2_with (first | ((with_reducible refine gate_dst (N := 2) rfl ?_); refine box_event ?hg (N := 2) ?hd (cs := #[.slice A0 nx.length c0, .slice A1 mk.length c1]) (t := 28) ?hr ?_; (case hd => rfl); (case hg => rfl); (case hr => first | (go_simp; done) | (go_simp; rfl)); intro gw hgw wb hbw hbb; have HB0 := Lib.hid (bst (Below.refl w.heap.size w) hbb); have hw0 : wb.cell? ⟨gw, 0, none⟩ = some (.slice A0 nx.length c0) := (blk_cell hbw 0).trans rfl; have hw1 : wb.cell? ⟨gw, 1, none⟩ = some (.slice A1 mk.length c1) := (blk_cell hbw 1).trans rfl; clear hgw hbw hbb) | fail)
  refine (PA.fixes_Works_valid.calls A0 c0 nx A1 c1 mk true wb (Kd.C_below HR0.out HB0.out) hc0 (Kd.C_below HR1.out HB0.out) hc1 H.out).mono ?_
  rintro e w1 ⟨rfl, hb⟩
  have HB := Lib.hid (bst HB0.out hb)
  have k0 := pwc hb hw0
  clear hb HB0 hw0 hw1
  have hw0 := k0
  clear k0
  go_wp2_with fail
  refine (contains_calls 79 _ EG.out (offS nx.length) A c l w1 (Kd.C_below HR.out HB.out) (predI_off w1 gw nx.length c0 A0 l HR0.out.2.1 hw0)).mono ?_
  rintro e w2 ⟨rfl, hb⟩
  have HB2 := Lib.hid (bst HB.out hb)
  clear hb HB hw0
  go_wp2
  go_ret
  exact ⟨rfl, HB2.out⟩
def fixes_isState.f (l0_0 l0_1 : List Int) (l1 : List Int) : Option Bool := (PA.fixes_Works_valid.f l0_0 l0_1).bind fun b => if b = true then some (!l1.any (offS l0_0.length)) else some false
theorem fixes_isState.calls (A0_0 : Option Addr) (c0_0 : Nat) (l0_0 : List Int) (A0_1 : Option Addr) (c0_1 : Nat) (l0_1 : List Int) (A1 : Option Addr) (c1 : Nat) (l1 : List Int) (r : Bool) (w : World) (hr0_0 : Kd.C (Kd.int .i64) w A0_0 l0_0.length l0_0) (hc0_0 : l0_0.length ≤ c0_0) (hr0_1 : Kd.C (Kd.int .i64) w A0_1 l0_1.length l0_1) (hc0_1 : l0_1.length ≤ c0_1) (hr1 : Kd.C (Kd.int .i64) w A1 l1.length l1) (hc1 : l1.length ≤ c1) (h : fixes_isState.f l0_0 l0_1 l1 = some r) :
    Calls Try.prog 64 #[.agg #[.slice A0_0 l0_0.length c0_0, .slice A0_1 l0_1.length c0_1], .slice A1 l1.length c1] w fun e w' => e = .returned (.bool r) ∧ Below w.heap.size w w' := by
  unfold fixes_isState.f at h
  obtain ⟨b, hb, h⟩ := Option.bind_eq_some_iff.mp h
  cases b
  · simp only [Bool.false_eq_true, if_false, Option.some.injEq] at h
    subst h
    exact isState_no A0_0 c0_0 l0_0 A0_1 c0_1 l0_1 A1 c1 l1 w hr0_0 hc0_0 hr0_1 hc0_1 hb
  · simp only [if_true, Option.some.injEq] at h
    subst h
    exact isState_yes A0_0 c0_0 l0_0 A0_1 c0_1 l0_1 A1 c1 l1 w hr0_0 hc0_0 hr0_1 hc0_1 hr1 hb
end Go.Proofs.Ytjffhhalmicodaa.X
end

section
set_option linter.unusedVariables false
namespace Go.Proofs.Ytjffhhalmicodaa.X
open Go.RowKit Go.Proofs.G.PrintWords Go.Proofs.G.PrintLast Go.Proofs.G.PrintMore
end Go.Proofs.Ytjffhhalmicodaa.X
namespace Go.Proofs.Ytjffhhalmicodaa.L
open Go.RowKit Go.Proofs.G.PrintWords Go.Proofs.G.PrintLast Go.Proofs.G.PrintMore Go.Proofs.Ytjffhhalmicodaa.X
theorem bit_of {x : Int} {n : Nat} (hn : n ≤ 61) (h : InS n x) {t : Nat} (ht : t ≤ 64) : bits .and .i64 (shr .i64 x (t : Int)) 1 = if tb x t = true then 1 else 0 := by
 obtain ⟨y, rfl, hy⟩ := inS_nat h
 have e : shr .i64 (y : Int) (t : Int) = ((y / 2 ^ t : Nat) : Int) := by
  unfold shr
  rw [Int.toNat_natCast, show min t IntKind.i64.bits = t from Nat.min_eq_left ht, Int.natCast_ediv]
  simp
 have hb : y / 2 ^ t < 2 ^ 62 := Nat.lt_of_le_of_lt (Nat.div_le_self _ _) (Nat.lt_of_lt_of_le hy (pow_le62 (by omega)))
 rw [e, show (1 : Int) = ((1 : Nat) : Int) from rfl, and_nat hb (by decide), tb_nat, Nat.testBit, Nat.shiftRight_eq_div_pow, Nat.and_comm]
 have : 1 &&& y / 2 ^ t = 0 ∨ 1 &&& y / 2 ^ t = 1 := by
  rw [Nat.and_comm, Nat.and_one_is_mod]
  omega
 rcases this with h | h <;> rw [h] <;> rfl
theorem set_spec {nx last : List Int} {s : Nat} (hx : InS 6 (rd nx s)) : ∀ m, m ≤ 6 → (∀ t : Nat, t < m → 0 ≤ rd last t ∧ rd last t < 6) → InS 6 (setTo nx last s m) ∧ ∀ c : Nat, tb (setTo nx last s m) c = true ↔ ∃ u, u < m ∧ tb (rd nx s) u = true ∧ rd last u = c := by
 intro m
 induction m with
 | zero =>
  intro _ _
  refine ⟨inS_zero _, fun c => ?_⟩
  show tb 0 c = true ↔ _
  rw [tb_zero]
  exact ⟨fun h => (by cases h), fun ⟨u, h, _⟩ => (by omega)⟩
 | succ m ih =>
  intro hm hr
  obtain ⟨i1, i2⟩ := ih (by omega) (fun t ht => hr t (by omega))
  have hb := bit_of (by decide) hx (t := m) (by omega)
  unfold setTo
  by_cases h : tb (rd nx s) m = true
  ·rw [if_pos h] at hb
   rw [if_pos hb]
   have hq := hr m (by omega)
   obtain ⟨q, hq1⟩ := Int.eq_ofNat_of_zero_le hq.1
   have hq6 : q < 6 := by omega
   have hp : InS 6 (((2 ^ q : Nat) : Int)) := inS_of (Nat.pow_lt_pow_right (by decide) hq6)
   rw [hq1, shl1 (by omega)]
   refine ⟨or_in (by decide) i1 hp, fun c => ?_⟩
   rw [tb_or (by decide) (by decide) i1 hp, Bool.or_eq_true, i2, tb_nat, Nat.testBit_two_pow, decide_eq_true_eq]
   constructor
   ·rintro (⟨u, a, b, d⟩ | rfl)
    ·exact ⟨u, by omega, b, d⟩
    ·exact ⟨m, by omega, h, hq1⟩
   ·rintro ⟨u, a, b, d⟩
    by_cases e : u = m
    ·subst e
     right
     omega
    ·exact .inl ⟨u, by omega, b, d⟩
  ·rw [if_neg h] at hb
   rw [hb, if_neg (by decide)]
   refine ⟨i1, fun c => ?_⟩
   rw [i2]
   constructor
   ·rintro ⟨u, a, b⟩
    exact ⟨u, by omega, b⟩
   ·rintro ⟨u, a, b, d⟩
    by_cases e : u = m
    ·subst e
     exact absurd b h
    ·exact ⟨u, by omega, b, d⟩
def lv (nx mk : List Int) : Nat → List Int
  | 0 => (numTo (markKey mk) nx.length).2
  | k + 1 => (numTo (setKey nx (lv nx mk k)) nx.length).2
def lkey (nx mk : List Int) : Nat → Nat → Int × Int
  | 0 => markKey mk
  | k + 1 => setKey nx (lv nx mk k)
theorem lv_eq (nx mk : List Int) (k : Nat) : lv nx mk k = (numTo (lkey nx mk k) nx.length).2 := by cases k <;> rfl
theorem lv_len (nx mk : List Int) (k : Nat) : (lv nx mk k).length = nx.length := by rw [lv_eq]; exact numTo_len _ _
theorem lv_rd (nx mk : List Int) (k i : Nat) (h : i < nx.length) : rd (lv nx mk k) i = cls (lkey nx mk k) i := by rw [lv_eq]; exact rd_num _ _ _ h
theorem lv_range {nx mk : List Int} (k i : Nat) (h : i < nx.length) : 0 ≤ rd (lv nx mk k) i ∧ rd (lv nx mk k) i < nx.length := by
  rw [lv_rd _ _ _ _ h]
  have := cls_range (lkey nx mk k) h
  have := cnt_le (lkey nx mk k) nx.length
  omega
def E (nx mk : List Int) (k s t : Nat) : Prop := rd (lv nx mk k) s = rd (lv nx mk k) t
theorem E_refl (nx mk : List Int) (k s : Nat) : E nx mk k s s := rfl
theorem E.symm {nx mk : List Int} {k s t : Nat} (h : E nx mk k s t) : E nx mk k t s := Eq.symm h
theorem E.trans {nx mk : List Int} {k s t u : Nat} (h : E nx mk k s t) (g : E nx mk k t u) : E nx mk k s u := Eq.trans h g
theorem E_key {nx mk : List Int} {k s t : Nat} (hs : s < nx.length) (ht : t < nx.length) : E nx mk k s t ↔ lkey nx mk k s = lkey nx mk k t := by
  unfold E
  rw [lv_rd _ _ _ _ hs, lv_rd _ _ _ _ ht, cls_eq]
theorem E_zero {nx mk : List Int} {s t : Nat} (hs : s < nx.length) (ht : t < nx.length) : E nx mk 0 s t ↔ rd mk s = rd mk t := by
  rw [E_key hs ht]
  unfold lkey markKey
  simp
theorem set_at {nx mk : List Int} (hv : VW nx mk) (k : Nat) {s : Nat} (hs : s < nx.length) : InS 6 (setTo nx (lv nx mk k) s nx.length) ∧ ∀ c : Nat, tb (setTo nx (lv nx mk k) s nx.length) c = true ↔ ∃ u, u < nx.length ∧ tb (rd nx s) u = true ∧ rd (lv nx mk k) u = c :=
  set_spec (inS_mono (hv.next s hs) hv.le) nx.length hv.le fun t ht => by
    have h1 := lv_range (mk := mk) k t ht
    have h2 := hv.le
    omega
theorem E_succ {nx mk : List Int} (hv : VW nx mk) {k s t : Nat} (hs : s < nx.length) (ht : t < nx.length) :
    E nx mk (k + 1) s t ↔ E nx mk k s t ∧ (∀ u, u < nx.length → tb (rd nx s) u = true → ∃ v, v < nx.length ∧ tb (rd nx t) v = true ∧ E nx mk k u v) ∧ (∀ v, v < nx.length → tb (rd nx t) v = true → ∃ u, u < nx.length ∧ tb (rd nx s) u = true ∧ E nx mk k u v) := by
  rw [E_key hs ht]
  have e1 : lkey nx mk (k + 1) s = lkey nx mk (k + 1) t ↔ E nx mk k s t ∧ setTo nx (lv nx mk k) s nx.length = setTo nx (lv nx mk k) t nx.length := by
    show setKey nx (lv nx mk k) s = setKey nx (lv nx mk k) t ↔ _
    unfold setKey E
    rw [lv_len]
    simp
  rw [e1]
  obtain ⟨s1, s2⟩ := set_at hv k hs
  obtain ⟨t1, t2⟩ := set_at hv k ht
  constructor
  · rintro ⟨h0, h⟩
    refine ⟨h0, fun u hu hb => ?_, fun v hw hb => ?_⟩
    · obtain ⟨c, hc⟩ := Int.eq_ofNat_of_zero_le (lv_range (mk := mk) k u hu).1
      have := (s2 c).2 ⟨u, hu, hb, hc⟩
      rw [h, t2] at this
      obtain ⟨v, a, b, d⟩ := this
      exact ⟨v, a, b, hc.trans d.symm⟩
    · obtain ⟨c, hc⟩ := Int.eq_ofNat_of_zero_le (lv_range (mk := mk) k v hw).1
      have := (t2 c).2 ⟨v, hw, hb, hc⟩
      rw [← h, s2] at this
      obtain ⟨u, a, b, d⟩ := this
      exact ⟨u, a, b, d.trans hc.symm⟩
  · rintro ⟨h0, h1, h2⟩
    refine ⟨h0, inS_ext s1 t1 fun c _ => ?_⟩
    rw [Bool.eq_iff_iff, s2, t2]
    constructor
    · rintro ⟨u, a, b, d⟩
      obtain ⟨v, a', b', d'⟩ := h1 u a b
      exact ⟨v, a', b', (show rd (lv nx mk k) u = rd (lv nx mk k) v from d') ▸ d⟩
    · rintro ⟨v, a, b, d⟩
      obtain ⟨u, a', b', d'⟩ := h2 v a b
      exact ⟨u, a', b', (show rd (lv nx mk k) u = rd (lv nx mk k) v from d').trans d⟩
theorem E_le {nx mk : List Int} (hv : VW nx mk) {s t : Nat} (hs : s < nx.length) (ht : t < nx.length) {k m : Nat} (h : k ≤ m) (he : E nx mk m s t) : E nx mk k s t := by
  induction m with
  | zero => obtain rfl : k = 0 := by omega
            exact he
  | succ m ih =>
    by_cases e : k = m + 1
    · exact e ▸ he
    · exact ih (by omega) ((E_succ hv hs ht).1 he).1
def nc (nx mk : List Int) (k : Nat) : Nat := cnt (lkey nx mk k) nx.length
theorem cnt_fine {key key' : Nat → Int × Int} : ∀ n, (∀ i j, i < n → j < n → key' i = key' j → key i = key j) → cnt key n ≤ cnt key' n ∧ (cnt key n = cnt key' n → ∀ i j, i < n → j < n → key i = key j → key' i = key' j) := by
 intro n
 induction n with
 | zero => intro _; exact ⟨by simp [cnt, numTo], fun _ i j h => by omega⟩
 | succ n ih =>
  intro h
  obtain ⟨i1, i2⟩ := ih (fun i j hi hj => h i j (by omega) (by omega))
  rcases cnt_step key n with ⟨e, j, hj, hk⟩ | ⟨e, e2, e3⟩ <;> rcases cnt_step key' n with ⟨f, j', hj', hk'⟩ | ⟨f, f2, f3⟩
  ·refine ⟨by omega, fun he => ?_⟩
   have i3 := i2 (by omega)
   have h0 := h j' n (by omega) (by omega) hk'
   intro a b ha hb hab
   by_cases ea : a = n <;> by_cases eb : b = n
   ·rw [ea, eb]
   ·subst ea
    rw [← hk']
    exact i3 j' b hj' (by omega) (h0.trans hab)
   ·subst eb
    rw [← hk']
    exact i3 a j' (by omega) hj' (hab.trans h0.symm)
   ·exact i3 a b (by omega) (by omega) hab
  ·exact ⟨by omega, fun he => by omega⟩
  ·exact absurd (h j' n (by omega) (by omega) hk') (e3 j' hj')
  ·refine ⟨by omega, fun he => ?_⟩
   have i3 := i2 (by omega)
   intro a b ha hb hab
   by_cases ea : a = n <;> by_cases eb : b = n
   ·rw [ea, eb]
   ·subst ea; exact absurd hab.symm (e3 b (by omega))
   ·subst eb; exact absurd hab (e3 a (by omega))
   ·exact i3 a b (by omega) (by omega) hab
theorem nc_step {nx mk : List Int} (hv : VW nx mk) (k : Nat) : nc nx mk k ≤ nc nx mk (k + 1) ∧ (nc nx mk k = nc nx mk (k + 1) → lv nx mk (k + 1) = lv nx mk k) := by
 have hf : ∀ i j, i < nx.length → j < nx.length → lkey nx mk (k + 1) i = lkey nx mk (k + 1) j → lkey nx mk k i = lkey nx mk k j := fun i j hi hj h =>
  (E_key hi hj).1 ((E_succ hv hi hj).1 ((E_key hi hj).2 h)).1
 obtain ⟨h1, h2⟩ := cnt_fine nx.length hf
 refine ⟨h1, fun he => ?_⟩
 rw [lv_eq, lv_eq nx mk k]
 exact (num_congr fun i j hi hj => ⟨hf i j hi hj, h2 he i j hi hj⟩).1
theorem nc_pos {nx mk : List Int} (hv : VW nx mk) (k : Nat) : 1 ≤ nc nx mk k := by
  have := cls_range (lkey nx mk k) (i := 0) (n := nx.length) (by have := hv.pos; omega)
  unfold nc
  omega
theorem nc_le (nx mk : List Int) (k : Nat) : nc nx mk k ≤ nx.length := cnt_le _ _
structure Last (nx mk : List Int) (K : Nat) : Prop where
  same : lv nx mk (K + 1) = lv nx mk K
  first : ∀ j, j < K → lv nx mk (j + 1) ≠ lv nx mk j
theorem lv_stay {nx mk : List Int} {K : Nat} (h : lv nx mk (K + 1) = lv nx mk K) : ∀ d, lv nx mk (K + d) = lv nx mk K := by
 intro d
 induction d with
 | zero => rfl
 | succ d ih =>
  show (numTo (setKey nx (lv nx mk (K + d))) nx.length).2 = _
  rw [ih]
  exact h
theorem lv_last {nx mk : List Int} (hv : VW nx mk) : ∃ K, Last nx mk K ∧ K + 1 ≤ nc nx mk K ∧ ∀ j, j ≤ K → j + 1 ≤ nc nx mk j := by
 have key : ∀ m, (∃ j, j < m ∧ lv nx mk (j + 1) = lv nx mk j) ∨ ∀ j, j ≤ m → j + 1 ≤ nc nx mk j := by
  intro m
  induction m with
  | zero =>
   right
   intro j hj
   obtain rfl : j = 0 := by omega
   exact nc_pos hv 0
  | succ m ih =>
   rcases ih with ⟨j, a, b⟩ | h
   ·exact .inl ⟨j, by omega, b⟩
   ·by_cases e : lv nx mk (m + 1) = lv nx mk m
    ·exact .inl ⟨m, by omega, e⟩
    ·right
     intro j hj
     by_cases hjm : j ≤ m
     ·exact h j hjm
     ·obtain rfl : j = m + 1 := by omega
      have h1 := nc_step hv m
      have h2 := h m (Nat.le_refl _)
      have : nc nx mk m ≠ nc nx mk (m + 1) := fun q => e (h1.2 q)
      omega
 have hex : ∃ j, lv nx mk (j + 1) = lv nx mk j := by
  rcases key nx.length with ⟨j, _, h⟩ | h
  ·exact ⟨j, h⟩
  ·have h1 := h nx.length (Nat.le_refl _)
   have h2 := nc_le nx mk nx.length
   omega
 obtain ⟨j, hj⟩ := hex
 obtain ⟨K, h1, h2, h3⟩ := first_of (P := fun j => lv nx mk (j + 1) = lv nx mk j) j hj
 have hk : ∀ j, j ≤ K → j + 1 ≤ nc nx mk j := by
  rcases key K with ⟨i, a, b⟩ | h
  ·exact absurd b (h3 i a)
  ·exact h
 exact ⟨K, ⟨h2, h3⟩, hk K (Nat.le_refl _), hk⟩
theorem Last.le {nx mk : List Int} (hv : VW nx mk) {K : Nat} (h : Last nx mk K) : K + 1 ≤ nx.length := by
 obtain ⟨K', h', h2, _⟩ := lv_last hv
 have h3 := nc_le nx mk K'
 have : K = K' := by
  rcases Nat.lt_trichotomy K K' with q | q | q
  ·exact absurd h.same (h'.first K q)
  ·exact q
  ·exact absurd h'.same (h.first K' q)
 omega
end Go.Proofs.Ytjffhhalmicodaa.L
end

section
set_option linter.unusedVariables false
namespace Go.Proofs.Ytjffhhalmicodaa.L
open Go.RowKit Go.Proofs.G.PrintWords Go.Proofs.G.PrintLast Go.Proofs.G.PrintMore Go.Proofs.Ytjffhhalmicodaa.X
def Evr {α : Type} (g : Nat → Option α) (r : α) : Prop := ∃ k0, ∀ k, k0 ≤ k → g k = some r
theorem Evr.const {α : Type} (r : α) : Evr (fun _ => some r) r := ⟨0, fun _ _ => rfl⟩
theorem Evr.congr {α : Type} {g h : Nat → Option α} {r : α} (e : ∀ k, g k = h k) (hh : Evr h r) : Evr g r := by
  obtain ⟨k0, h0⟩ := hh
  exact ⟨k0, fun k hk => (e k).trans (h0 k hk)⟩
theorem Evr.step {α : Type} {g h : Nat → Option α} {r : α} (e : ∀ k, g (k + 1) = h k) (hh : Evr h r) : Evr g r := by
  obtain ⟨k0, h0⟩ := hh
  refine ⟨k0 + 1, fun k hk => ?_⟩
  obtain ⟨m, rfl⟩ : ∃ m, k = m + 1 := ⟨k - 1, by omega⟩
  exact (e m).trans (h0 m (by omega))
theorem Evr.bind {α β : Type} {g : Nat → Option α} {f : α → Nat → Option β} {a : α} {r : β} (hg : Evr g a) (hf : Evr (f a) r) : Evr (fun k => (g k).bind fun x => f x k) r := by
 obtain ⟨k0, h0⟩ := hg
 obtain ⟨k1, h1⟩ := hf
 refine ⟨max k0 k1, fun k hk => ?_⟩
 show (g k).bind _ = _
 rw [h0 k (by omega)]
 exact h1 k (by omega)
theorem Evr.ex {α : Type} {g : Nat → Option α} {r : α} (h : Evr g r) : ∃ k, g k = some r := by
  obtain ⟨k0, h0⟩ := h
  exact ⟨k0, h0 k0 (Nat.le_refl _)⟩
theorem Evr.of_mono {α : Type} {g : Nat → Option α} {r : α} (hm : ∀ k, LeO (g k) (g (k + 1))) (h : ∃ k, g k = some r) : Evr g r := by
  obtain ⟨k, h⟩ := h
  exact ⟨k, fun m hm' => lift hm h hm'⟩
theorem Evr.of_all {α : Type} {g : Nat → Option α} {r : α} (h : ∀ k, g k = some r) : Evr g r := ⟨0, fun k _ => h k⟩
theorem wsucc {i : Nat} (h : i ≤ 1000000) : wrap64 ((i : Int) + 1) = ((i + 1 : Nat) : Int) := by unfold wrap64; omega
theorem set_eq {nx last : List Int} (hv : ∀ s, s < nx.length → InS 6 (rd nx s)) (h6 : nx.length ≤ 6) (hl : ∀ t : Nat, t < nx.length → 0 ≤ rd last t ∧ rd last t < 6) {s t : Nat} (hs : s < nx.length) (ht : t < nx.length) :
    setTo nx last s nx.length = setTo nx last t nx.length ↔ (∀ u, u < nx.length → tb (rd nx s) u = true → ∃ v, v < nx.length ∧ tb (rd nx t) v = true ∧ rd last u = rd last v) ∧ (∀ v, v < nx.length → tb (rd nx t) v = true → ∃ u, u < nx.length ∧ tb (rd nx s) u = true ∧ rd last u = rd last v) := by
  obtain ⟨s1, s2⟩ := set_spec (last := last) (hv s hs) nx.length h6 hl
  obtain ⟨t1, t2⟩ := set_spec (last := last) (hv t ht) nx.length h6 hl
  constructor
  · intro h
    refine ⟨fun u hu hb => ?_, fun v hw hb => ?_⟩
    · obtain ⟨c, hc⟩ := Int.eq_ofNat_of_zero_le (hl u hu).1
      have := (s2 c).2 ⟨u, hu, hb, hc⟩
      rw [h, t2] at this
      obtain ⟨v, a, b, d⟩ := this
      exact ⟨v, a, b, hc.trans d.symm⟩
    · obtain ⟨c, hc⟩ := Int.eq_ofNat_of_zero_le (hl v hw).1
      have := (t2 c).2 ⟨v, hw, hb, hc⟩
      rw [← h, s2] at this
      obtain ⟨u, a, b, d⟩ := this
      exact ⟨u, a, b, d.trans hc.symm⟩
  · rintro ⟨h1, h2⟩
    refine inS_ext s1 t1 fun c _ => ?_
    rw [Bool.eq_iff_iff, s2, t2]
    constructor
    · rintro ⟨u, a, b, d⟩
      obtain ⟨v, a', b', d'⟩ := h1 u a b
      exact ⟨v, a', b', d' ▸ d⟩
    · rintro ⟨v, a, b, d⟩
      obtain ⟨u, a', b', d'⟩ := h2 v a b
      exact ⟨u, a', b', d'.trans d⟩
def lower (p : Nat → Bool) : Nat → Nat → Nat
  | 0, v => v
  | m + 1, v => lower p m (if p m = true then m else v)
theorem lower_spec (p : Nat → Bool) : ∀ m v, (∀ t, t < m → p t = false) ∧ lower p m v = v ∨ ∃ t, t < m ∧ lower p m v = t ∧ p t = true ∧ ∀ u, u < t → p u = false
 | 0, v => .inl ⟨fun t h => by omega, rfl⟩
 | m + 1, v => by
  rw [lower]
  rcases lower_spec p m (if p m = true then m else v) with ⟨h1, h2⟩ | ⟨t, h1, h2⟩
  ·by_cases hp : p m = true
   ·rw [if_pos hp] at h2 ⊢
    exact .inr ⟨m, by omega, h2, hp, h1⟩
   ·rw [if_neg hp] at h2 ⊢
    refine .inl ⟨fun t ht => ?_, h2⟩
    by_cases e : t = m
    ·rw [e]; simpa using hp
    ·exact h1 t (by omega)
  ·exact .inr ⟨t, by omega, h2⟩
noncomputable def rep (R : Nat → Nat → Prop) (s : Nat) : Nat := by classical exact lower (fun t => decide (R s t)) s s
structure Equi (n : Nat) (R : Nat → Nat → Prop) : Prop where
  refl : ∀ s, s < n → R s s
  symm : ∀ s t, s < n → t < n → R s t → R t s
  trans : ∀ s t u, s < n → t < n → u < n → R s t → R t u → R s u
theorem rep_spec {n : Nat} {R : Nat → Nat → Prop} (h : Equi n R) {s : Nat} (hs : s < n) : rep R s ≤ s ∧ R s (rep R s) ∧ ∀ t, t < rep R s → ¬ R s t := by
 classical
 unfold rep
 rcases lower_spec (fun t => decide (R s t)) s s with ⟨h1, h2⟩ | ⟨t, h1, h2, h3, h4⟩
 ·have e : lower (fun t => decide (R s t)) s s = s := h2
  rw [e]
  exact ⟨Nat.le_refl _, h.refl s hs, fun t ht hr => by have := h1 t ht; simp [hr] at this⟩
 ·have e : lower (fun t => decide (R s t)) s s = t := h2
  rw [e]
  exact ⟨by omega, by simpa using h3, fun u hu hr => by have := h4 u hu; simp [hr] at this⟩
theorem rep_eq {n : Nat} {R : Nat → Nat → Prop} (h : Equi n R) {s t : Nat} (hs : s < n) (ht : t < n) : rep R s = rep R t ↔ R s t := by
 obtain ⟨s1, s2, s3⟩ := rep_spec h hs
 obtain ⟨t1, t2, t3⟩ := rep_spec h ht
 constructor
 ·intro e
  rw [← e] at t2
  exact h.trans _ _ _ hs (by omega) ht s2 (h.symm _ _ ht (by omega) t2)
 ·intro e
  rcases Nat.lt_trichotomy (rep R s) (rep R t) with q | q | q
  ·exact absurd (h.trans _ _ _ ht hs (by omega) (h.symm _ _ hs ht e) s2) (t3 _ q)
  ·exact q
  ·exact absurd (h.trans _ _ _ hs ht (by omega) e t2) (s3 _ q)
theorem E_equi (nx mk : List Int) (k : Nat) : Equi nx.length (E nx mk k) := ⟨fun _ _ => rfl, fun _ _ _ _ h => Eq.symm h, fun _ _ _ _ _ _ h g => Eq.trans h g⟩
def RepOk (nx mk : List Int) (k : Nat) (l : List Int) : Prop := l.length = nx.length ∧ ∀ s : Nat, s < nx.length → rd l s = (rep (E nx mk k) s : Int)
theorem RepOk.eq_iff {nx mk : List Int} {k : Nat} {l : List Int} (h : RepOk nx mk k l) {s t : Nat} (hs : s < nx.length) (ht : t < nx.length) : rd l s = rd l t ↔ E nx mk k s t := by
  rw [h.2 s hs, h.2 t ht, ← rep_eq (E_equi nx mk k) hs ht]
  omega
theorem RepOk.range {nx mk : List Int} {k : Nat} {l : List Int} (h : RepOk nx mk k l) {s : Nat} (hs : s < nx.length) : 0 ≤ rd l s ∧ rd l s < nx.length := by
  rw [h.2 s hs]
  have := (rep_spec (E_equi nx mk k) hs).1
  omega
theorem RepOk.succ {nx mk : List Int} (hv : VW nx mk) {k : Nat} {l : List Int} (h : RepOk nx mk k l) {s t : Nat} (hs : s < nx.length) (ht : t < nx.length) : E nx mk (k + 1) s t ↔ rd mk s = rd mk t ∧ rd l s = rd l t ∧ setTo nx l s nx.length = setTo nx l t nx.length := by
 have h6 := hv.le
 rw [E_succ hv hs ht, h.eq_iff hs ht, set_eq (fun s hs => inS_mono (hv.next s hs) h6) h6 (fun t ht => by have := h.range ht; omega) hs ht]
 have c : ∀ u v, u < nx.length → v < nx.length → (rd l u = rd l v ↔ E nx mk k u v) := fun u v hu hv' => h.eq_iff hu hv'
 constructor
 ·rintro ⟨h0, h1, h2⟩
  refine ⟨(E_zero hs ht).1 (E_le hv hs ht (Nat.zero_le _) h0), h0, fun u hu hb => ?_, fun v hw hb => ?_⟩
  ·obtain ⟨v, a, b, d⟩ := h1 u hu hb
   exact ⟨v, a, b, (c u v hu a).2 d⟩
  ·obtain ⟨u, a, b, d⟩ := h2 v hw hb
   exact ⟨u, a, b, (c u v a hw).2 d⟩
 ·rintro ⟨_, h0, h1, h2⟩
  refine ⟨h0, fun u hu hb => ?_, fun v hw hb => ?_⟩
  ·obtain ⟨v, a, b, d⟩ := h1 u hu hb
   exact ⟨v, a, b, (c u v hu a).1 d⟩
  ·obtain ⟨u, a, b, d⟩ := h2 v hw hb
   exact ⟨u, a, b, (c u v a hw).1 d⟩
theorem list_ext_rd {a b : List Int} (hl : a.length = b.length) (h : ∀ i : Nat, i < a.length → rd a i = rd b i) : a = b := by
  apply List.ext_getElem hl
  intro i h1 h2
  have := h i h1
  simpa [rd, List.getD_eq_getElem?_getD, h1, h2] using this
end Go.Proofs.Ytjffhhalmicodaa.L
end

section
section
set_option linter.unusedVariables false
set_option linter.unusedSimpArgs false
namespace Go.Proofs.G.PrintWords
open Go.RowKit
theorem add_plain (g j : Nat) : (⟨g, 0, none⟩ : Addr).add j = ⟨g, j, none⟩ := by unfold Addr.add; split <;> simp_all
section
variable {P : Program} {ops : Array Oper} {rest : List Oper} {o : Oper} {a : Act} {Q : Exit → Act → World → Prop}
end
section
variable {P : Program}
end
section
variable {P : Program} {ops : Array Oper} {rest : List Oper} {o : Oper} {a : Act} {Q : Exit → Act → World → Prop}
end
section
variable {P : Program} {ops : Array Oper} {rest : List Oper} {o : Oper} {a : Act} {Q : Exit → Act → World → Prop}
end
section
variable {P : Program} {ops : Array Oper} {o : Oper} {a : Act} {Q : Exit → Act → World → Prop} {K : Act → World → Prop}
end
section
variable {α : Type} {enc : α → Value} {d : α}
theorem own_at_of {W : World} {base g n cap : Nat} {e : TypeId} {xs : List α} (h : W.ownsRow base e 1 (.slice (some ⟨g, 0, none⟩) n cap) n (encs enc xs)) (i : Int) (h0 : 0 ≤ i) (h1 : i < n) :
    W.cell? ⟨g, i.toNat, none⟩ = some (enc (rdOf d xs i)) ∧ W.frozen? ⟨g, i.toNat, none⟩ = false := by
  have hl : xs.length = n := by have := h.1; simp [encs] at this; exact this
  constructor
  · have hc := h.cells (g := g) rfl i.toNat _ (encs_get (d := d) xs i.toNat (by omega))
    rwa [add_plain] at hc
  · rcases h.2 with ⟨h', _⟩ | ⟨g', cap', cur, h', _, hh, _⟩
    · cases h'
    · have : g = g' := by injection h' with h'; injection h' with h'; injection h' with h'
      subst this
      simp [World.frozen?, hh]
theorem own_store_of {W : World} {base g n cap : Nat} {e : TypeId} {xs : List α} (h : W.ownsRow base e 1 (.slice (some ⟨g, 0, none⟩) n cap) n (encs enc xs)) (i : Int) (x : α) :
    (W.setCell ⟨g, i.toNat, none⟩ (enc x)).ownsRow base e 1 (.slice (some ⟨g, 0, none⟩) n cap) n (encs enc (xs.set i.toNat x)) ∧ W.grownBy (W.setCell ⟨g, i.toNat, none⟩ (enc x)) (some g) := by
  have hs := h.stored i.toNat (enc x)
  have he : (encs enc xs).set i.toNat (enc x) = encs enc (xs.set i.toNat x) := by simp [encs, List.map_set]
  rwa [he] at hs
end
section
variable {α : Type} {P : Program} {ops : Array Oper} {rest : List Oper} {o : Oper} {a : Act} {Q : Exit → Act → World → Prop}
end
section
variable {P : Program}
end
section
variable {α : Type} {R R' : α → List Value → Prop} {e : TypeId} {size : Nat} {w w1 : World} {base : Nat} {v : Value} {ps : List α}
end
section
variable {P : Program} {ops : Array Oper} {rest : List Oper} {o : Oper} {a : Act} {Q : Exit → Act → World → Prop} {α : Type} {R : α → List Value → Prop}
end
section
variable {P : Program} {ops : Array Oper} {o : Oper} {a : Act} {Q : Exit → Act → World → Prop} {K : Act → World → Prop} {α : Type} {R : α → List Value → Prop}
end
section
variable {α : Type} {P : Program}
end
section
variable {P : Program} {ops : Array Oper} {rest : List Oper} {o : Oper} {a : Act} {Q : Exit → Act → World → Prop}
end
namespace Kd
section
variable {α : Type} {d : Kd α} {e : Nat} {w w1 : World} {base : Nat} {ok ok' : Nat → Prop} {v : Value} {xs : List α}
end
section
variable {P : Program} {ops : Array Oper} {rest : List Oper} {o : Oper} {a : Act} {Q : Exit → Act → World → Prop} {α : Type}
end
section
variable {P : Program} {ops : Array Oper} {o : Oper} {a : Act} {Q : Exit → Act → World → Prop} {Kc : Act → World → Prop} {α : Type}
end
end Kd
namespace Kd
section
variable {α : Type} {F : Kd α → Kd α} {sz : Nat} {E : List Nat} {hs : ∀ n, (upto F sz E n).sz = sz} {hE : ∀ n q, q ∈ (upto F sz E n).E → q ∈ E}
end
end Kd
namespace Kd
theorem R_after {α : Type} {d : Kd α} {e base : Nat} {ok : Nat → Prop} {W w1 : World} {u v v1 : Value} {xs : List α} (h : d.R e W base (fun k => ok k ∧ some k ≠ v.ownBlock) u xs) (hg : W.grownBy w1 v.ownBlock) (hat : v1.ownBlock = v.ownBlock ∨ ∃ b, v1.ownBlock = some b ∧ W.heap.size ≤ b) : d.R e w1 base (fun k => ok k ∧ some k ≠ v1.ownBlock) u xs := by
 refine R_mono (R_move (R_bound h) (fun k hk => hg.block k hk.2.2.1 hk.1.2)) (fun k hk => ⟨hk.1.1, ?_⟩)
 rcases hat with hat | ⟨b, hb, hle⟩
 ·rw [hat]; exact hk.1.2
 ·rw [hb]
  intro he
  injection he with he
  have := hk.2.2.1
  omega
end Kd
namespace Kd
section
variable {α β : Type} {d : Kd α} {d' : Kd β} {e e' : Nat} {w w1 W : World} {base b b' : Nat} {ok ok' okv oku : Nat → Prop} {v u : Value} {xs : List α} {ys : List β}
theorem R_form (h : d.R e w base ok v xs) (hp : 0 < xs.length) : ∃ g cap, v = .slice (some ⟨g, 0, none⟩) xs.length cap ∧ base ≤ g ∧ g < w.heap.size ∧ ∃ cells, w.heap[g]? = some (.cells cells e (0, 0)) := by
  obtain ⟨inner, ho⟩ := R_own h
  obtain ⟨g, cap, he, hb, hl⟩ := ho.form hp
  obtain ⟨cells, hc⟩ := own_typed ho g (by rw [he]; simp [Value.ownBlock])
  exact ⟨g, cap, he, hb, hl, cells, hc⟩
end
section
variable {w W : World} {A : Option Addr} {n : Nat}
variable {α : Type} {enc : α → Value} {h1 : ∀ x, (enc x).oneCell' = true} {e base g cap : Nat} {ok : Nat → Prop} {xs : List α}
theorem R_cell (d : α) (h : (scalar enc h1).R e W base ok (.slice (some ⟨g, 0, none⟩) xs.length cap) xs) (i : Int) (h0 : 0 ≤ i) (hi : i < xs.length) : W.cell? ⟨g, i.toNat, none⟩ = some (enc (rdOf d xs i)) ∧ W.frozen? ⟨g, i.toNat, none⟩ = false := own_at_of (own_of_R h) i h0 hi
theorem R_put (h : (scalar enc h1).R e W base ok (.slice (some ⟨g, 0, none⟩) xs.length cap) xs) (i : Int) (x : α) : (scalar enc h1).R e (W.setCell ⟨g, i.toNat, none⟩ (enc x)) base ok (.slice (some ⟨g, 0, none⟩) xs.length cap) (xs.set i.toNat x) ∧ W.grownBy (W.setCell ⟨g, i.toNat, none⟩ (enc x)) (some g) := by
  obtain ⟨ho, hg⟩ := own_store_of (own_of_R h) i x
  exact ⟨R_of_own (by rw [List.length_set]; exact ho) h.1, hg⟩
end
section
variable {P : Program} {ops : Array Oper} {rest : List Oper} {o : Oper} {a : Act} {Q : Exit → Act → World → Prop}
variable {α : Type}
theorem reps_made {α : Type} {R : α → List Value → Prop} {z : Value} {size : Nat} {z0 : α} (hz : z.cells.size = size) (hs : 0 < size) (h0 : R z0 z.cells.toList) (m : Nat) : Reps R size (List.replicate m z0) (madeCells z.cells (m * size)).toList := by
 refine ⟨by simp [size_madeCells], fun j p hj => ?_⟩
 obtain ⟨hjl, hp⟩ := List.getElem?_eq_some_iff.1 hj
 have hjm : j < m := by simpa using hjl
 have hp' : z0 = p := by simpa using hp
 subst hp'
 have hle : j * size + size ≤ m * size := by rw [← Nat.succ_mul]; exact Nat.mul_le_mul_right _ hjm
 have : ((madeCells z.cells (m * size)).toList.drop (j * size)).take size = z.cells.toList := by
  apply List.ext_getElem
  ·simp [size_madeCells, hz]
   omega
  ·intro i h1 h2
   have hi : i < size := by rw [Array.length_toList, hz] at h2; exact h2
   have hmod : (j * size + i) % size = i := by
    rw [Nat.mul_comm, Nat.mul_add_mod]
    exact Nat.mod_eq_of_lt hi
   simp [madeCells, hz, hmod]
   rw [getElem!_pos z.cells i (by omega)]
 rw [this]
 exact h0
theorem R_make (d : Kd α) {w0 W : World} (base e : Nat) (hgd : o.guard = none) {N : Tmp} (hd : o.dst = some N) (t : TypeId) (x y : Operand) (ho : o.op = .makeSlice t x y) (n : Int) (hx : a.eval x = .int .i64 n) (hy : a.eval y = .int .i64 n)
    (ht : P.underlying t = some (.slice e)) (z : Value) (bytes : Nat) (hinfo : (P.info? e).map (fun i => (i.zero, i.size, i.bytes)) = some (some z, d.sz, bytes)) (hz : z.cells.size = d.sz) (hs0 : 0 < d.sz) (hb0 : 0 < bytes)
    (z0 : α) {ok okp : Nat → Prop} (hzero : d.M W base okp z0 z.cells.toList) (hok : ∀ k, okp k → ok k) (hfresh : ok W.heap.size) (h0 : 0 ≤ n) (hl : n.toNat * bytes ≤ 281474976710656) (HB : Below base w0 W) (hbase : base ≤ W.heap.size)
    (h : ∀ v1 w1, d.R e w1 base ok v1 (List.replicate n.toNat z0) → Below base w0 w1 → W.grownBy w1 none → (∃ b, v1.ownBlock = some b ∧ W.heap.size ≤ b) → wpList P ops Q rest (a.put o.dst v1) w1) : wpList P ops Q (o :: rest) a W := by
  obtain ⟨m, rfl⟩ := Int.eq_ofNat_of_zero_le h0
  simp only [Int.toNat_natCast] at hl h
  obtain ⟨i0, hi, hzz⟩ := Option.map_eq_some_iff.1 hinfo
  simp only [Prod.mk.injEq] at hzz
  obtain ⟨hz0, hz1, hz2⟩ := hzz
  have hm : m ≤ 281474976710656 := Nat.le_trans (Nat.le_mul_of_pos_right _ hb0) hl
  have hr := run_make (P := P) W t e i0 z ht hi hz0 .i64 .i64 (m : Int) (m : Int) (by omega) (by omega)
    (by
      have h3 : ((i0.bytes * m : Nat) : Int) ≤ 281474976710656 := by rw [hz2, Nat.mul_comm]; omega
      rwa [Int.natCast_mul] at h3) (by omega)
  simp only [Int.toNat_natCast] at hr
  rw [hz1] at hr
  refine R_lit d base e hgd hd (xs := List.replicate m z0) (inner := (madeCells z.cells (m * d.sz)).toList) (okp := okp) (ok := ok) ?_ (reps_made hz hs0 hzero m) hok hfresh HB hbase (by simp; omega) h
  simp [execOp, ho, hx, hy, hr]
end
end Kd
section
variable {P : Program}
end
section
variable {w w1 : World} {base n size : Nat} {e : TypeId} {v : Value} {xs : List Value}
end
section
variable {P : Program}
end
namespace Kd
section
variable {α : Type} {d : Kd α} {e : Nat} {w w1 W : World} {base : Nat} {ok ok' : Nat → Prop} {v : Value} {xs : List α}
end
section
variable {P : Program} {ops : Array Oper} {rest : List Oper} {o : Oper} {a : Act} {Q' : Exit → Act → World → Prop} {Kc : Act → World → Prop} {α : Type}
end
end Kd
namespace Kd
section
variable {α : Type} {d : Kd α} {e e' : Nat} {w w1 W : World} {base : Nat} {ok : Nat → Prop} {u v : Value} {xs : List α}
end
end Kd
namespace Kd
section
variable {α : Type} {d : Kd α} {e base g n cap : Nat} {ok okp : Nat → Prop} {W : World} {xs : List α}
end
end Kd
namespace Kd
section
variable {α : Type} {F : Kd α → Kd α} {sz : Nat} {E : List Nat} {hs : ∀ n, (upto F sz E n).sz = sz} {hE : ∀ n q, q ∈ (upto F sz E n).E → q ∈ E}
end
end Kd
namespace Kd
section
variable {P : Program} {ops : Array Oper} {rest : List Oper} {o : Oper} {a : Act} {Q : Exit → Act → World → Prop} {α : Type}
end
end Kd
namespace Kd
section
variable {P : Program} {ops : Array Oper} {rest : List Oper} {o : Oper} {a : Act} {Q : Exit → Act → World → Prop} {α : Type}
end
end Kd
namespace Kd
section
variable {α : Type} {k : Kd α} {w : World} {A : Option Addr} {xs : List α} {m c : Nat}
end
end Kd
section
variable {P : Program}
end
namespace Kd
section
variable {α β : Type} {d : Kd α} {d' : Kd β} {e e' base base' n : Nat} {ok ok' : Nat → Prop} {w W w1 W1 : World} {v u : Value} {xs : List α} {ys : List β} {A : Option Addr} {c : Nat}
end
section
variable {α : Type} {enc : α → Value} {h1 : ∀ x, (enc x).oneCell' = true} {w W : World} {A : Option Addr} {n g : Nat} {xs : List α}
end
end Kd
namespace Kd
section
variable {α : Type} {d : Kd α} {e base g : Nat} {ok : Nat → Prop} {w w1 : World} {v : Value} {xs : List α} {o : Obj}
end
end Kd
section
variable {P : Program} {ops : Array Oper} {rest : List Oper} {o : Oper} {a : Act} {Q : Exit → Act → World → Prop}
end
namespace Kd
section
variable {α : Type} {enc : α → Value} {h1 : ∀ x, (enc x).oneCell' = true} {e base g n cap : Nat} {ok : Nat → Prop} {W : World} {xs : List α}
theorem R_celln (d : α) (h : (scalar enc h1).R e W base ok (.slice (some ⟨g, 0, none⟩) n cap) xs) (i : Int) (h0 : 0 ≤ i) (hi : i < n) : W.cell? ⟨g, i.toNat, none⟩ = some (enc (rdOf d xs i)) ∧ W.frozen? ⟨g, i.toNat, none⟩ = false := by
  obtain ⟨rfl, _⟩ := R_reads' h
  exact R_cell d h i h0 hi
end
end Kd
section
variable {P : Program} {ops : Array Oper} {rest : List Oper} {o : Oper} {a : Act} {Q : Exit → Act → World → Prop}
theorem store_event {W w1 : World} (hgd : o.guard = none) {t : TypeId} {p : Tmp} {v : Operand} (_ho : o.op = .store t (.tmp p) v) (hN : o.dst = none)
    (hrun : (execOp a.eval o).run P W = .ok .skip w1) (h : ∀ w', w' = w1 → wpList P ops Q rest a w') : wpList P ops Q (o :: rest) a W := by
  refine wpList_plain hgd fun K hK => ?_
  unfold Oper.wp
  rw [hrun]
  show K (a.put o.dst undef) w1
  rw [hN]
  exact hK _ _ (h _ rfl)
end
namespace Kd
section
variable {α : Type} {enc : α → Value} {h1 : ∀ x, (enc x).oneCell' = true} {e base g n cap : Nat} {ok : Nat → Prop} {W : World} {xs : List α}
theorem R_putg (h : (scalar enc h1).R e W base ok (.slice (some ⟨g, 0, none⟩) n cap) xs) (i : Int) (x : α) : (scalar enc h1).R e (W.setCell ⟨g, i.toNat, none⟩ (enc x)) base ok (.slice (some ⟨g, 0, none⟩) n cap) (xs.set i.toNat x) ∧ W.grownBy (W.setCell ⟨g, i.toNat, none⟩ (enc x)) (some g) := by
  obtain ⟨rfl, _⟩ := R_reads' h
  exact R_put h i x
end
end Kd
section
variable {P : Program} {ops : Array Oper} {rest : List Oper} {o : Oper} {a : Act} {Q : Exit → Act → World → Prop} {W : World}
theorem gate_store {t : TypeId} {p : Tmp} {v : Operand} (_ho : o.op = .store t (.tmp p) v) (h : wpList P ops Q (o :: rest) a W) : wpList P ops Q (o :: rest) a W := h
end
section
variable {P : Program} {ops : Array Oper} {o : Oper} {a : Act} {Q : Exit → Act → World → Prop} {Kc : Act → World → Prop}
namespace Kd
variable {α : Type}
end Kd
end
section
variable {P : Program} {tmps : Array Value} {w : World}
end
namespace Kd
section
variable {P : Program} {α : Type}
end
section
variable {P : Program} {ops : Array Oper} {rest : List Oper} {o : Oper} {a : Act} {Q : Exit → Act → World → Prop} {Kc : Act → World → Prop} {α : Type}
end
end Kd
end Go.Proofs.G.PrintWords
end
section
namespace Go.Proofs.G.PrintLast
section
variable {P : Program} {ops : Array Oper} {Q : Exit → Act → World → Prop} {md : Region.Mode} {S : World → Prop} {ds : List Nat}
end
section
variable {P : Program} {ops : Array Oper} {Q : Exit → Act → World → Prop} {md : Region.Mode} {S : World → Prop} {ds : List Nat}
end
end Go.Proofs.G.PrintLast
end
section
namespace Go.Proofs.G.PrintWords
open Go.RowKit
namespace Kd
section
variable {α β : Type} {d : Kd α} {d' : Kd β} {e e' : Nat} {w w1 W : World} {base b : Nat} {ok ok' okv oku : Nat → Prop} {u v : Value} {xs : List α} {ys : List β}
end
section
variable {α β : Type} {d : Kd α} {d' : Kd β} {e e' g : Nat} {w w1 W : World} {base b : Nat} {ok ok' okv oku : Nat → Prop} {u v : Value} {xs : List α} {ys : List β}
end
section
open Classical in
variable {P : Program} {ops : Array Oper} {rest : List Oper} {o : Oper} {a : Act} {Q : Exit → Act → World → Prop} {Kc : Act → World → Prop} {α : Type}
end
section
variable {α β : Type} {d : Kd α} {e e' g n cap : Nat} {w w1 W : World} {base : Nat} {ok ok' oki okp : Nat → Prop} {u v : Value} {xs : List α} {i : Int} {c : List Value}
open Classical in
end
section
variable {P : Program} {ops : Array Oper} {rest : List Oper} {o : Oper} {a : Act} {Q : Exit → Act → World → Prop} {α : Type}
end
end Kd
end Go.Proofs.G.PrintWords
end
section
namespace Go.Proofs.G.PrintWords
open Go.RowKit
namespace Foot
variable {P Q : World → Prop} {W W1 : World} {ok ok' : Nat → Prop}
end Foot
namespace Kd
section
variable {α β : Type} {d : Kd α} {e base n n' cc g N : Nat} {ok ok' okp S : Nat → Prop} {w w0 w1 W W1 : World} {A A' : Option Addr} {u v v1 : Value} {xs : List α} {xs' : List β} {d' : Kd β} {x : α} {c : List Value}
end
end Kd
end Go.Proofs.G.PrintWords
end
section
namespace Go.Proofs.G.PrintWords
open Go.RowKit
namespace Kd
section
variable {α : Type} {d : Kd α} {e base n cc g : Nat} {ok ok' okp S : Nat → Prop} {w w1 W W1 : World} {A : Option Addr} {u v v1 : Value} {xs : List α} {x : α} {c : List Value}
end
end Kd
end Go.Proofs.G.PrintWords
end
section
namespace Go.Proofs.G.PrintMore
open Go.RowKit Go.Proofs.G.PrintWords
namespace Kd
open Go.Proofs.G.PrintWords.Kd
end Kd
namespace Kd
open Go.Proofs.G.PrintWords.Kd
section
variable {α : Type} {d : Kd α} {e base g N : Nat} {ok : Nat → Prop} {W w1 : World} {u v : Value} {xs : List α}
end
end Kd
end Go.Proofs.G.PrintMore
namespace Go.Proofs.G.PrintWords
open Go.RowKit
section
variable {P : Program} {ops : Array Oper} {rest : List Oper} {o : Oper} {a : Act} {Q : Exit → Act → World → Prop} {W : World}
end
namespace Kd
section
variable {α : Type} {d : Kd α} {e base : Nat} {ok : Nat → Prop} {W w1 : World} {v : Value} {xs : List α}
end
section
variable {α : Type} {d : Kd α} {e base g n cap : Nat} {ok oki okp : Nat → Prop} {W : World} {xs : List α} {i : Int} {c : List Value}
end
section
variable {α : Type} {d : Kd α} {e base b b' g N : Nat} {ok ok1 : Nat → Prop} {W W2 w1 : World} {u v : Value} {xs ys : List α} {S : Nat → Prop}
end
end Kd
end Go.Proofs.G.PrintWords
namespace Go.Proofs.G.PrintWords
open Go.RowKit
namespace Kd
section
variable {α β : Type} {d : Kd α} {e base base' n m c g N' lo hi : Nat} {ok ok' S : Nat → Prop} {w W w1 : World} {A : Option Addr} {ad : Addr} {u v v1 : Value} {xs : List α}
end
end Kd
end Go.Proofs.G.PrintWords
end
end

section
namespace Go.Proofs.Ytjffhhalmicodaa.PF
open Go.RowKit Go.Proofs.G.PrintWords Go.Proofs.G.PrintLast Go.Proofs.G.PrintMore
attribute [local go_sem] max2_int min2_int max_two min_two max_three min_three max_four min_four
set_option linter.unusedVariables false
set_option linter.unusedSimpArgs false
def errW : Option Int → Value
  | none => .nilIface
  | some c => .iface 0 (.int .i64 c)
theorem errW_none : errW none = .nilIface := rfl
theorem errW_some (c : Int) : errW (some c) = .iface 0 (.int .i64 c) := rfl
theorem info3 : (Try.prog.info? 3).map (fun i => (i.zero, i.size, i.bytes)) = some (some (.int .i64 0), 1, 8) := by kernel_rfl
end Go.Proofs.Ytjffhhalmicodaa.PF
end

section
namespace Go.Proofs.Ytjffhhalmicodaa.PF
open Go.RowKit Go.Proofs.G.PrintWords Go.Proofs.G.PrintLast Go.Proofs.G.PrintMore
attribute [local go_sem] max2_int min2_int max_two min_two max_three min_three max_four min_four
set_option linter.unusedVariables false
set_option linter.unusedSimpArgs false
def r8led.l0 : Nat → Int → Int → List Int → Int → Int → List Int → List Int → Option (Int)
  | 0, _, _, _, _, _, _, _ => none
  | k + 1, x2, x7, x10, x11, x12, x124000, x124001 => if x12 < x11 then (if 0 ≤ x12 then (if x12 < (x10.length : Int) then (if 0 ≤ x2 then (if x2 < (x124000.length : Int) then (if (Go.bits .and .i64 (shr .i64 (rd x124000 x2) x12) 1) = 1 then (if 0 ≤ (rd x10 x12) then (r8led.l0 k x2 (Go.bits .or .i64 x7 (shl .i64 1 (rd x10 x12))) x10 x11 (wrap64 (x12 + 1)) x124000 x124001) else (none)) else (r8led.l0 k x2 x7 x10 x11 (wrap64 (x12 + 1)) x124000 x124001)) else (none)) else (none)) else (none)) else (none)) else (some x7)
def r8led.f (k : Nat) (l0_0 : List Int) (l0_1 : List Int) (l1 : List Int) (a2 : Int) : Option (Int) := r8led.l0 k a2 0 l1 (l1.length : Int) 0 l0_0 l0_1
set_option maxHeartbeats 8000000 in
set_option maxRecDepth 100000 in
theorem r8led.calls (k : Nat) (A0_0 : Option Addr) (c0_0 : Nat) (l0_0 : List Int) (A0_1 : Option Addr) (c0_1 : Nat) (l0_1 : List Int) (A1 : Option Addr) (c1 : Nat) (l1 : List Int) (a2 : Int) (r : Int) (w : World) (hr0_0 : Kd.C (Kd.int .i64) w A0_0 l0_0.length l0_0) (hc0_0 : l0_0.length ≤ c0_0) (hr0_1 : Kd.C (Kd.int .i64) w A0_1 l0_1.length l0_1) (hc0_1 : l0_1.length ≤ c0_1) (hr1 : Kd.C (Kd.int .i64) w A1 l1.length l1) (hc1 : l1.length ≤ c1) (h : r8led.f k l0_0 l0_1 l1 a2 = some r) :
  Calls Try.prog 80 #[.agg #[.slice A0_0 l0_0.length c0_0, .slice A0_1 l0_1.length c0_1], .slice A1 l1.length c1, .int .i64 a2] w fun e w' => e = .returned (.int .i64 r) ∧ Below w.heap.size w w' := by
 have hu24 := Try.underlying24
 have HR0_0 := As0.mk hr0_0
 have HC0_0 := As0.mk hc0_0
 clear hr0_0 hc0_0
 have HR0_1 := As0.mk hr0_1
 have HC0_1 := As0.mk hc0_1
 clear hr0_1 hc0_1
 have HR1 := As0.mk hr1
 have HC1 := As0.mk hc1
 clear hr1 hc1
 have HB := As0.mk (Below.refl w.heap.size w)
 have H : (r8led.l0 k a2 0 l1 (l1.length : Int) 0 l0_0 l0_1) = some r := h
 clear h
 have H' := As0.mk H
 clear H
 go_enter Try.func80, Try.ntmps80
 go_wp2_with (first | ((with_reducible refine gate_dst (N := 3) rfl ?_); refine box_event ?hg (N := 3) ?hd (cs := #[.slice A0_0 l0_0.length c0_0, .slice A0_1 l0_1.length c0_1]) (t := 24) ?hr ?_; (case hd => rfl); (case hg => rfl); (case hr => first | (go_simp; done) | (go_simp; rfl)); intro gb123 hg w4 hbox hb; have n0_ := As0.mk (bst (by repeat (first | (with_reducible first | exact HB.out | apply below_alloc | apply pwd | apply bd1) | exact HB.out)) hb); have n1_ := As0.mk (hbox); have n2_ := As0.mk ((by rw [hg]; exact (below_size (by repeat (first | (with_reducible first | exact HB.out | apply below_alloc | apply pwd | apply bd1) | exact HB.out))) : w.heap.size ≤ gb123)); have n3_ := As0.mk ((by rw [hg]; exact (below_size (by repeat (first | (with_reducible first | exact HB.out | apply below_alloc | apply pwd | apply bd1) | exact HB.out))) : w.heap.size ≤ gb123)); clear HB; have HB := n0_; have BK123 := n1_; have GW123 := n2_; have GE123 := n3_; clear n0_ n1_ n2_ n3_; clear hb hbox hg))
 go_loopg [7, 12] k (fun kq v7 v12 w' => ∃ (x7_1 : Int) (x12_1 : Int), v7 = .int .i64 x7_1 ∧ v12 = .int .i64 x12_1 ∧ As0 (r8led.l0 kq a2 x7_1 l1 (l1.length : Int) x12_1 l0_0 l0_1 = some r) ∧ As0 (kq ≤ k) ∧ As0 (w'.heap[gb123]? = some (.cells #[(.slice A0_0 l0_0.length c0_0), (.slice A0_1 l0_1.length c0_1)] 24 (0, 0))) ∧ As0 (Below w.heap.size w w'))
 case atStart => exact ⟨(0), (0), (by first | rfl | (simp; done) | (simp [*]; done)), (by first | rfl | (simp; done) | (simp [*]; done)), H', ⟨Nat.le_refl _⟩, ⟨by (with_reducible repeat (first | refine blk_drewN ?_ _ | refine blk_drew ?_ | refine blk_alloc ?_ _)); exact BK123.out⟩, ⟨by repeat (first | (with_reducible first | exact HB.out | apply below_alloc | apply pwd | apply bd1 | refine below_set ?_ GE123.out) | exact HB.out)⟩⟩
 case round =>
  clear H'
  try clear c1
  try clear p2
  obtain ⟨x7_1, x12_1, rfl, rfl, HA, HK1, BK123, HB⟩ := hrel
  cases gk with
  | zero => exact absurd HA.out (by simp [r8led.l0])
  | succ k1 =>
   have H := HA.out
   clear HA
   simp only [r8led.l0] at H
   by_cases c5 : x12_1 < (l1.length : Int)
   ·rw [if_pos c5] at H
    have c5b0 : decide (x12_1 < (l1.length : Int)) = true := decide_eq_true c5
    clear c5
    by_cases c6 : 0 ≤ x12_1
    ·rw [if_pos c6] at H
     have c6b0 : decide (0 ≤ x12_1) = true := decide_eq_true c6
     clear c6
     by_cases c7 : x12_1 < (l1.length : Int)
     ·rw [if_pos c7] at H
      have c7b0 : decide (x12_1 < (l1.length : Int)) = true := decide_eq_true c7
      clear c7
      by_cases c8 : 0 ≤ a2
      ·rw [if_pos c8] at H
       have c8b0 : decide (0 ≤ a2) = true := decide_eq_true c8
       clear c8
       by_cases c9 : a2 < (l0_0.length : Int)
       ·rw [if_pos c9] at H
        have c9b0 : decide (a2 < (l0_0.length : Int)) = true := decide_eq_true c9
        clear c9
        have c10b0 := eq_true (of_decide_eq_true (by first | (with_reducible assumption) | assumption) : 0 ≤ x12_1)
        obtain ⟨ji11, hji11⟩ : ∃ j_ : Int, (shr .i64 (rd l0_0 a2) x12_1) = j_ := ⟨_, rfl⟩
        replace H : (if (Go.bits .and .i64 (ji11) 1) = 1 then (if 0 ≤ (rd l1 x12_1) then (r8led.l0 k1 a2 (Go.bits .or .i64 x7_1 (shl .i64 1 (rd l1 x12_1))) l1 (l1.length : Int) (wrap64 (x12_1 + 1)) l0_0 l0_1) else (none)) else (r8led.l0 k1 a2 x7_1 l1 (l1.length : Int) (wrap64 (x12_1 + 1)) l0_0 l0_1)) = some r := by first | (rw [hji11] at H; exact H) | (simp only [hji11] at H ⊢; exact H)
        have hji11_ : ((rd l0_0 a2) / 2 ^ min x12_1.toNat 64) = ji11 := hji11
        have hji11z : x12_1 ≤ 64 → ((rd l0_0 a2) / 2 ^ x12_1.toNat) = ji11 := shr_small hji11
        by_cases c12 : (Go.bits .and .i64 (ji11) 1) = 1
        ·rw [if_pos c12] at H
         have c12b0 : ((Go.bits .and .i64 (ji11) 1) == 1) = true := beq_iff_eq.mpr c12
         have c12b1 : ((Go.bits .and .i64 (ji11) 1) != 1) = false := bne_eq_false_iff_eq.mpr c12
         clear c12
         by_cases c13 : 0 ≤ (rd l1 x12_1)
         ·rw [if_pos c13] at H
          have c13b0 := eq_true c13
          have c13b1 : decide (0 ≤ (rd l1 x12_1)) = true := decide_eq_true c13
          clear c13
          obtain ⟨ji14, hji14⟩ : ∃ j_ : Int, (shl .i64 1 (rd l1 x12_1)) = j_ := ⟨_, rfl⟩
          replace H : (r8led.l0 k1 a2 (Go.bits .or .i64 x7_1 (ji14)) l1 (l1.length : Int) (wrap64 (x12_1 + 1)) l0_0 l0_1) = some r := by first | (rw [hji14] at H; exact H) | (simp only [hji14] at H ⊢; exact H)
          have hji14_ : (IntKind.i64.wrap (1 * 2 ^ min (rd l1 x12_1).toNat 64)) = ji14 := hji14
          have hji14z : (rd l1 x12_1) ≤ 64 → (IntKind.i64.wrap (1 * 2 ^ (rd l1 x12_1).toNat)) = ji14 := shl_small hji14
          have hji14u : (IntKind.i64.wrap (2 ^ min (rd l1 x12_1).toNat 64)) = ji14 := by have h_ := hji14_; rw [Int.one_mul] at h_; exact h_
          have hji14v : (rd l1 x12_1) ≤ 64 → (IntKind.i64.wrap (2 ^ (rd l1 x12_1).toNat)) = ji14 := fun hle_ => by have h_ := hji14z hle_; rw [Int.one_mul] at h_; exact h_
          have hji14y : (wrap64 (1 * 2 ^ min (rd l1 x12_1).toNat 64)) = ji14 := (i64_w _).symm.trans hji14_
          have hji14x : (rd l1 x12_1) ≤ 64 → (wrap64 (1 * 2 ^ (rd l1 x12_1).toNat)) = ji14 := fun h_ => (i64_w _).symm.trans (hji14z h_)
          have H' := As0.mk H
          clear H
          have p124 : 0 ≤ (x12_1 : Int) := of_decide_eq_true (by first | (with_reducible assumption) | assumption)
          have q124 : x12_1 < (l1.length : Int) := of_decide_eq_true (by first | (with_reducible assumption) | assumption)
          obtain ⟨ad124, e124, hx124_0⟩ := Kd.at_int HR1.out x12_1 p124 q124
          cases e124
          replace hx124_0 := (HB.out.cell (World.block_lt_of_cell? w _ hx124_0)).trans hx124_0
          replace p124 := eq_true p124
          replace q124 := eq_true q124
          have hcz15_0 : wr.cell? ⟨gb123, 0, none⟩ = some (.slice A0_0 l0_0.length c0_0) := (blk_cell BK123.out 0).trans rfl
          have hcz15_1 : wr.cell? ⟨gb123, 1, none⟩ = some (.slice A0_1 l0_1.length c0_1) := (blk_cell BK123.out 1).trans rfl
          have hfz15_0 := blk_frozen BK123.out 0
          have hfz15_1 := blk_frozen BK123.out 1
          have p125 : 0 ≤ (a2 : Int) := of_decide_eq_true (by first | (with_reducible assumption) | assumption)
          have q125 : a2 < (l0_0.length : Int) := of_decide_eq_true (by first | (with_reducible assumption) | assumption)
          obtain ⟨ad125, e125, hx125_0⟩ := Kd.at_int HR0_0.out a2 p125 q125
          cases e125
          replace hx125_0 := (HB.out.cell (World.block_lt_of_cell? w _ hx125_0)).trans hx125_0
          replace p125 := eq_true p125
          replace q125 := eq_true q125
          go_wp2
          go_roundg k1
          case measure => have := HK1.out; omega
          case rel => exact ⟨(Go.bits .or .i64 x7_1 (ji14)), (wrap64 (x12_1 + 1)), (by first | rfl | (simp; done) | (simp only [← hji14] <;> (first | rfl | simp)) | (simp [*]; done)), (by first | rfl | (simp; done) | (simp [*]; done)), H', ⟨by have := HK1.out; omega⟩, ⟨by (with_reducible repeat (first | refine blk_drewN ?_ _ | refine blk_drew ?_ | refine blk_alloc ?_ _)); exact BK123.out⟩, ⟨by repeat (first | (with_reducible first | exact HB.out | apply below_alloc | apply pwd | apply bd1 | refine below_set ?_ GE123.out) | exact HB.out)⟩⟩
         ·rw [if_neg c13] at H
          exact absurd H (by simp)
        ·rw [if_neg c12] at H
         have c12b0 : ((Go.bits .and .i64 (ji11) 1) == 1) = false := beq_eq_false_iff_ne.mpr c12
         have c12b1 : ((Go.bits .and .i64 (ji11) 1) != 1) = true := bne_iff_ne.mpr c12
         have H' := As0.mk H
         clear H
         have p124 : 0 ≤ (x12_1 : Int) := of_decide_eq_true (by first | (with_reducible assumption) | assumption)
         have q124 : x12_1 < (l1.length : Int) := of_decide_eq_true (by first | (with_reducible assumption) | assumption)
         obtain ⟨ad124, e124, hx124_0⟩ := Kd.at_int HR1.out x12_1 p124 q124
         cases e124
         replace hx124_0 := (HB.out.cell (World.block_lt_of_cell? w _ hx124_0)).trans hx124_0
         replace p124 := eq_true p124
         replace q124 := eq_true q124
         have hcz16_0 : wr.cell? ⟨gb123, 0, none⟩ = some (.slice A0_0 l0_0.length c0_0) := (blk_cell BK123.out 0).trans rfl
         have hcz16_1 : wr.cell? ⟨gb123, 1, none⟩ = some (.slice A0_1 l0_1.length c0_1) := (blk_cell BK123.out 1).trans rfl
         have hfz16_0 := blk_frozen BK123.out 0
         have hfz16_1 := blk_frozen BK123.out 1
         have p125 : 0 ≤ (a2 : Int) := of_decide_eq_true (by first | (with_reducible assumption) | assumption)
         have q125 : a2 < (l0_0.length : Int) := of_decide_eq_true (by first | (with_reducible assumption) | assumption)
         obtain ⟨ad125, e125, hx125_0⟩ := Kd.at_int HR0_0.out a2 p125 q125
         cases e125
         replace hx125_0 := (HB.out.cell (World.block_lt_of_cell? w _ hx125_0)).trans hx125_0
         replace p125 := eq_true p125
         replace q125 := eq_true q125
         go_wp2
         go_roundg k1
         case measure => have := HK1.out; omega
         case rel => exact ⟨(x7_1), (wrap64 (x12_1 + 1)), (by first | rfl | (simp; done) | (simp [*]; done)), (by first | rfl | (simp; done) | (simp [*]; done)), H', ⟨by have := HK1.out; omega⟩, ⟨by (with_reducible repeat (first | refine blk_drewN ?_ _ | refine blk_drew ?_ | refine blk_alloc ?_ _)); exact BK123.out⟩, ⟨by repeat (first | (with_reducible first | exact HB.out | apply below_alloc | apply pwd | apply bd1 | refine below_set ?_ GE123.out) | exact HB.out)⟩⟩
       ·rw [if_neg c9] at H
        exact absurd H (by simp)
      ·rw [if_neg c8] at H
       exact absurd H (by simp)
     ·rw [if_neg c7] at H
      exact absurd H (by simp)
    ·rw [if_neg c6] at H
     exact absurd H (by simp)
   ·rw [if_neg c5] at H
    have c5b0 : decide (x12_1 < (l1.length : Int)) = false := decide_eq_false c5
    clear c5
    obtain rfl := Option.some.inj H
    go_wp2
    go_ret
    exact ⟨by first | rfl | (simp [errW_none, errW_some] <;> rfl) | (simp [*, errW_none, errW_some] <;> rfl), by repeat (first | (with_reducible first | exact HB.out | apply below_alloc | apply pwd | apply bd1 | refine below_set ?_ GE123.out) | exact HB.out)⟩
end Go.Proofs.Ytjffhhalmicodaa.PF
end
