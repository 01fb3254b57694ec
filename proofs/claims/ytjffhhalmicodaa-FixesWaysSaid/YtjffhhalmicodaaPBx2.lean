-- Printed by wip/tools/xprint.py, a program of this repo, which runs the kit's printer over hand-written contracts.
import Derived.Test.YtjffhhalmicodaaPBx0
namespace Go.Proofs.Ytjffhhalmicodaa.PB
open Go.RowKit Go.Proofs.YtjffhhalmicodaaW.PrintWords Go.Proofs.YtjffhhalmicodaaW.PrintLast Go.Proofs.YtjffhhalmicodaaW.PrintMore
attribute [local go_sem] max2_int min2_int max_two min_two max_three min_three max_four min_four   -- for this text's walks alone
set_option linter.unusedVariables false
set_option linter.unusedSimpArgs false

/-! ### comfitref08_read: function 50 -/
mutual
def comfitref08_read.j0 : Nat → ByteArray → Int → Int → Int → Bool → Option (Int × Int)
  | 0, _, _, _, _, _ => none
  | k + 1, x0, x1, x2, x8, x22 => if x22 = true then (some (wrap64 (x1 + 1), 0)) else (if x8 = 45 then (if (wrap64 (x1 + 1)) < (x0.size : Int) then (if 0 ≤ (wrap64 (x1 + 1)) then ((Go.Proofs.Ytjffhhalmicodaa.PA.comfitref08_digit.f (bt x0 (wrap64 (x1 + 1)))).bind fun t104 => (comfitref08_read.j1 k x0 x1 x2 x8 (decide (t104 ≥ 0)))) else (none)) else (comfitref08_read.j1 k x0 x1 x2 x8 false)) else (comfitref08_read.j1 k x0 x1 x2 x8 false))
def comfitref08_read.j1 : Nat → ByteArray → Int → Int → Int → Bool → Option (Int × Int)
  | 0, _, _, _, _, _ => none
  | k + 1, x0, x1, x2, x8, x49 => if x49 = true then (some (wrap64 (x1 + 2), 0)) else (if x8 = 38 then (comfitref08_read.j2 k x0 x1 x2 x8 true) else (comfitref08_read.j2 k x0 x1 x2 x8 (x8 == 124)))
def comfitref08_read.j2 : Nat → ByteArray → Int → Int → Int → Bool → Option (Int × Int)
  | 0, _, _, _, _, _ => none
  | k + 1, x0, x1, x2, x8, x69 => if x69 = true then ((comfitref08_read.f k x0 (wrap64 (x1 + 1)) x2).bind fun bt105 => (if bt105.1 < 0 then (some ((-1), 0)) else ((comfitref08_read.f k x0 bt105.1 x2).bind fun bt107 => (some (bt107.1, mx bt105.2 bt107.2))))) else (if x8 = 60 then (comfitref08_read.j3 k x0 x1 x2 x8 true) else (comfitref08_read.j3 k x0 x1 x2 x8 (x8 == 91)))
def comfitref08_read.j3 : Nat → ByteArray → Int → Int → Int → Bool → Option (Int × Int)
  | 0, _, _, _, _, _ => none
  | k + 1, x0, x1, x2, x8, x97 => if x97 = true then ((comfitref08_read.f k x0 (wrap64 (x1 + 1)) x2).bind fun bt109 => (some (bt109.1, wrap64 (bt109.2 + 1)))) else (if x8 = 109 then (if (wrap64 (x1 + 1)) < (x0.size : Int) then (if 0 ≤ (wrap64 (x1 + 1)) then ((Go.Proofs.Ytjffhhalmicodaa.PA.comfitref08_letter.f (bt x0 (wrap64 (x1 + 1)))).bind fun t111 => (if t111 ≥ 0 then ((Go.Proofs.Ytjffhhalmicodaa.PA.comfitref08_letter.f (bt x0 (wrap64 (x1 + 1)))).bind fun t112 => (if 0 ≤ t112 then (comfitref08_read.j4 k x0 x1 x2 ((Go.bits .and .i64 (shr .i64 x2 t112) 1) == 0)) else (none))) else (comfitref08_read.j4 k x0 x1 x2 false))) else (none)) else (comfitref08_read.j4 k x0 x1 x2 false)) else (if x8 = 103 then (if (wrap64 (x1 + 1)) < (x0.size : Int) then (if 0 ≤ (wrap64 (x1 + 1)) then ((Go.Proofs.Ytjffhhalmicodaa.PA.comfitref08_letter.f (bt x0 (wrap64 (x1 + 1)))).bind fun t113 => (if t113 ≥ 0 then ((Go.Proofs.Ytjffhhalmicodaa.PA.comfitref08_letter.f (bt x0 (wrap64 (x1 + 1)))).bind fun t114 => (if 0 ≤ t114 then (comfitref08_read.j4 k x0 x1 x2 ((Go.bits .and .i64 (shr .i64 x2 t114) 1) == 0)) else (none))) else (comfitref08_read.j4 k x0 x1 x2 false))) else (none)) else (comfitref08_read.j4 k x0 x1 x2 false)) else (comfitref08_read.j4 k x0 x1 x2 false)))
def comfitref08_read.j4 : Nat → ByteArray → Int → Int → Bool → Option (Int × Int)
  | 0, _, _, _, _ => none
  | k + 1, x0, x1, x2, x115 => if x115 = true then (if 0 ≤ (wrap64 (x1 + 1)) then (if (wrap64 (x1 + 1)) < (x0.size : Int) then ((Go.Proofs.Ytjffhhalmicodaa.PA.comfitref08_letter.f (bt x0 (wrap64 (x1 + 1)))).bind fun t115 => (if 0 ≤ t115 then ((comfitref08_read.f k x0 (wrap64 (x1 + 2)) (Go.bits .or .i64 x2 (shl .i64 1 t115))).bind fun bt116 => (some (bt116.1, bt116.2))) else (none))) else (none)) else (none)) else (some ((-1), 0))
def comfitref08_read.f : Nat → ByteArray → Int → Int → Option (Int × Int)
  | 0, _, _, _ => none
  | k + 1, a0, a1, a2 => if a1 ≥ (a0.size : Int) then (some ((-1), 0)) else (if 0 ≤ a1 then (if a1 < (a0.size : Int) then ((Go.Proofs.Ytjffhhalmicodaa.PA.comfitref08_digit.f (bt a0 a1)).bind fun t101 => (if t101 ≥ 0 then (comfitref08_read.j0 k a0 a1 a2 (bt a0 a1) true) else (if (bt a0 a1) = 116 then (comfitref08_read.j0 k a0 a1 a2 (bt a0 a1) true) else (if (bt a0 a1) = 102 then (comfitref08_read.j0 k a0 a1 a2 (bt a0 a1) true) else ((Go.Proofs.Ytjffhhalmicodaa.PA.comfitref08_letter.f (bt a0 a1)).bind fun t102 => (if t102 ≥ 0 then ((Go.Proofs.Ytjffhhalmicodaa.PA.comfitref08_letter.f (bt a0 a1)).bind fun t103 => (if 0 ≤ t103 then (comfitref08_read.j0 k a0 a1 a2 (bt a0 a1) ((Go.bits .and .i64 (shr .i64 a2 t103) 1) == 1)) else (none))) else (comfitref08_read.j0 k a0 a1 a2 (bt a0 a1) false))))))) else (none)) else (none))
end
theorem comfitref08_read.mono_l : ∀ k, (∀ y0 y1 y2, LeO (comfitref08_read.f k y0 y1 y2) (comfitref08_read.f (k + 1) y0 y1 y2)) ∧ (∀ y0 y1 y2 y3 y4, LeO (comfitref08_read.j0 k y0 y1 y2 y3 y4) (comfitref08_read.j0 (k + 1) y0 y1 y2 y3 y4)) ∧ (∀ y0 y1 y2 y3 y4, LeO (comfitref08_read.j1 k y0 y1 y2 y3 y4) (comfitref08_read.j1 (k + 1) y0 y1 y2 y3 y4)) ∧ (∀ y0 y1 y2 y3 y4, LeO (comfitref08_read.j2 k y0 y1 y2 y3 y4) (comfitref08_read.j2 (k + 1) y0 y1 y2 y3 y4)) ∧ (∀ y0 y1 y2 y3 y4, LeO (comfitref08_read.j3 k y0 y1 y2 y3 y4) (comfitref08_read.j3 (k + 1) y0 y1 y2 y3 y4)) ∧ (∀ y0 y1 y2 y3, LeO (comfitref08_read.j4 k y0 y1 y2 y3) (comfitref08_read.j4 (k + 1) y0 y1 y2 y3))
  | 0 => ⟨fun _ _ _ r h => by simp [comfitref08_read.f] at h, fun _ _ _ _ _ r h => by simp [comfitref08_read.j0] at h, fun _ _ _ _ _ r h => by simp [comfitref08_read.j1] at h, fun _ _ _ _ _ r h => by simp [comfitref08_read.j2] at h, fun _ _ _ _ _ r h => by simp [comfitref08_read.j3] at h, fun _ _ _ _ r h => by simp [comfitref08_read.j4] at h⟩
  | k + 1 => by
    obtain ⟨ih0, ih1, ih2, ih3, ih4, ih5⟩ := comfitref08_read.mono_l k
    refine ⟨?_, ?_, ?_, ?_, ?_, ?_⟩
    · intro y0 y1 y2
      unfold comfitref08_read.f
      repeat' first
      | (with_reducible exact ih0 _ _ _)
      | (with_reducible exact ih1 _ _ _ _ _)
      | (with_reducible exact ih2 _ _ _ _ _)
      | (with_reducible exact ih3 _ _ _ _ _)
      | (with_reducible exact ih4 _ _ _ _ _)
      | (with_reducible exact ih5 _ _ _ _)
      | (with_reducible exact LeO.refl _)
      | (with_reducible exact LeO.none _)
      | (with_reducible refine LeO.ite ?_ ?_)
      | (with_reducible refine LeO.bind ?_ (fun _ => ?_))
      | exact ih0 _ _ _
      | exact ih1 _ _ _ _ _
      | exact ih2 _ _ _ _ _
      | exact ih3 _ _ _ _ _
      | exact ih4 _ _ _ _ _
      | exact ih5 _ _ _ _
      | exact LeO.none _
      | refine LeO.ite ?_ ?_
      | refine LeO.bind ?_ (fun _ => ?_)
    · intro y0 y1 y2 y3 y4
      unfold comfitref08_read.j0
      repeat' first
      | (with_reducible exact ih0 _ _ _)
      | (with_reducible exact ih1 _ _ _ _ _)
      | (with_reducible exact ih2 _ _ _ _ _)
      | (with_reducible exact ih3 _ _ _ _ _)
      | (with_reducible exact ih4 _ _ _ _ _)
      | (with_reducible exact ih5 _ _ _ _)
      | (with_reducible exact LeO.refl _)
      | (with_reducible exact LeO.none _)
      | (with_reducible refine LeO.ite ?_ ?_)
      | (with_reducible refine LeO.bind ?_ (fun _ => ?_))
      | exact ih0 _ _ _
      | exact ih1 _ _ _ _ _
      | exact ih2 _ _ _ _ _
      | exact ih3 _ _ _ _ _
      | exact ih4 _ _ _ _ _
      | exact ih5 _ _ _ _
      | exact LeO.none _
      | refine LeO.ite ?_ ?_
      | refine LeO.bind ?_ (fun _ => ?_)
    · intro y0 y1 y2 y3 y4
      unfold comfitref08_read.j1
      repeat' first
      | (with_reducible exact ih0 _ _ _)
      | (with_reducible exact ih1 _ _ _ _ _)
      | (with_reducible exact ih2 _ _ _ _ _)
      | (with_reducible exact ih3 _ _ _ _ _)
      | (with_reducible exact ih4 _ _ _ _ _)
      | (with_reducible exact ih5 _ _ _ _)
      | (with_reducible exact LeO.refl _)
      | (with_reducible exact LeO.none _)
      | (with_reducible refine LeO.ite ?_ ?_)
      | (with_reducible refine LeO.bind ?_ (fun _ => ?_))
      | exact ih0 _ _ _
      | exact ih1 _ _ _ _ _
      | exact ih2 _ _ _ _ _
      | exact ih3 _ _ _ _ _
      | exact ih4 _ _ _ _ _
      | exact ih5 _ _ _ _
      | exact LeO.none _
      | refine LeO.ite ?_ ?_
      | refine LeO.bind ?_ (fun _ => ?_)
    · intro y0 y1 y2 y3 y4
      unfold comfitref08_read.j2
      repeat' first
      | (with_reducible exact ih0 _ _ _)
      | (with_reducible exact ih1 _ _ _ _ _)
      | (with_reducible exact ih2 _ _ _ _ _)
      | (with_reducible exact ih3 _ _ _ _ _)
      | (with_reducible exact ih4 _ _ _ _ _)
      | (with_reducible exact ih5 _ _ _ _)
      | (with_reducible exact LeO.refl _)
      | (with_reducible exact LeO.none _)
      | (with_reducible refine LeO.ite ?_ ?_)
      | (with_reducible refine LeO.bind ?_ (fun _ => ?_))
      | exact ih0 _ _ _
      | exact ih1 _ _ _ _ _
      | exact ih2 _ _ _ _ _
      | exact ih3 _ _ _ _ _
      | exact ih4 _ _ _ _ _
      | exact ih5 _ _ _ _
      | exact LeO.none _
      | refine LeO.ite ?_ ?_
      | refine LeO.bind ?_ (fun _ => ?_)
    · intro y0 y1 y2 y3 y4
      unfold comfitref08_read.j3
      repeat' first
      | (with_reducible exact ih0 _ _ _)
      | (with_reducible exact ih1 _ _ _ _ _)
      | (with_reducible exact ih2 _ _ _ _ _)
      | (with_reducible exact ih3 _ _ _ _ _)
      | (with_reducible exact ih4 _ _ _ _ _)
      | (with_reducible exact ih5 _ _ _ _)
      | (with_reducible exact LeO.refl _)
      | (with_reducible exact LeO.none _)
      | (with_reducible refine LeO.ite ?_ ?_)
      | (with_reducible refine LeO.bind ?_ (fun _ => ?_))
      | exact ih0 _ _ _
      | exact ih1 _ _ _ _ _
      | exact ih2 _ _ _ _ _
      | exact ih3 _ _ _ _ _
      | exact ih4 _ _ _ _ _
      | exact ih5 _ _ _ _
      | exact LeO.none _
      | refine LeO.ite ?_ ?_
      | refine LeO.bind ?_ (fun _ => ?_)
    · intro y0 y1 y2 y3
      unfold comfitref08_read.j4
      repeat' first
      | (with_reducible exact ih0 _ _ _)
      | (with_reducible exact ih1 _ _ _ _ _)
      | (with_reducible exact ih2 _ _ _ _ _)
      | (with_reducible exact ih3 _ _ _ _ _)
      | (with_reducible exact ih4 _ _ _ _ _)
      | (with_reducible exact ih5 _ _ _ _)
      | (with_reducible exact LeO.refl _)
      | (with_reducible exact LeO.none _)
      | (with_reducible refine LeO.ite ?_ ?_)
      | (with_reducible refine LeO.bind ?_ (fun _ => ?_))
      | exact ih0 _ _ _
      | exact ih1 _ _ _ _ _
      | exact ih2 _ _ _ _ _
      | exact ih3 _ _ _ _ _
      | exact ih4 _ _ _ _ _
      | exact ih5 _ _ _ _
      | exact LeO.none _
      | refine LeO.ite ?_ ?_
      | refine LeO.bind ?_ (fun _ => ?_)
theorem comfitref08_read.mono : ∀ a0 a1 a2 k, LeO (comfitref08_read.f k a0 a1 a2) (comfitref08_read.f (k + 1) a0 a1 a2) := by
  intro a0 a1 a2 k
  obtain ⟨ih0, ih1, ih2, ih3, ih4, ih5⟩ := comfitref08_read.mono_l k
  exact ih0 a0 a1 a2
set_option maxHeartbeats 8000000 in
set_option maxRecDepth 100000 in
theorem comfitref08_read.calls (k : Nat) : ∀ (a0 : ByteArray) (a1 : Int) (a2 : Int) (r1 : Int) (r2 : Int) (w : World) (h : comfitref08_read.f k a0 a1 a2 = some (r1, r2)),
    Calls Try.prog 50 #[.string a0, .int .i64 a1, .int .i64 a2] w fun e w' => e = .returned (.tuple #[.int .i64 r1, .int .i64 r2]) ∧ Below w.heap.size w w' := by
  induction k using Nat.strongRecOn with
  | _ k ih =>
  intro a0 a1 a2 r1 r2 w h
  cases k with
  | zero => exact absurd h (by simp [comfitref08_read.f])
  | succ k =>
  simp only [comfitref08_read.f] at h
  have HB := Aside0.mk (Below.refl w.heap.size w)
  have H : (if a1 ≥ (a0.size : Int) then (some ((-1), 0)) else (if 0 ≤ a1 then (if a1 < (a0.size : Int) then ((Go.Proofs.Ytjffhhalmicodaa.PA.comfitref08_digit.f (bt a0 a1)).bind fun t101 => (if t101 ≥ 0 then (comfitref08_read.j0 k a0 a1 a2 (bt a0 a1) true) else (if (bt a0 a1) = 116 then (comfitref08_read.j0 k a0 a1 a2 (bt a0 a1) true) else (if (bt a0 a1) = 102 then (comfitref08_read.j0 k a0 a1 a2 (bt a0 a1) true) else ((Go.Proofs.Ytjffhhalmicodaa.PA.comfitref08_letter.f (bt a0 a1)).bind fun t102 => (if t102 ≥ 0 then ((Go.Proofs.Ytjffhhalmicodaa.PA.comfitref08_letter.f (bt a0 a1)).bind fun t103 => (if 0 ≤ t103 then (comfitref08_read.j0 k a0 a1 a2 (bt a0 a1) ((Go.bits .and .i64 (shr .i64 a2 t103) 1) == 1)) else (none))) else (comfitref08_read.j0 k a0 a1 a2 (bt a0 a1) false))))))) else (none)) else (none))) = some (r1, r2) := h
  clear h
  by_cases c4 : a1 ≥ (a0.size : Int)
  · rw [if_pos c4] at H
    have c4b0 : decide ((a0.size : Int) ≤ a1) = true := decide_eq_true c4
    clear c4
    simp only [Option.some.injEq, Prod.mk.injEq] at H
    obtain ⟨rfl, rfl⟩ := H
    go_enter Try.func50, Try.ntmps50
    go_wp2
    go_ret2
    exact ⟨by first | rfl | (simp [errW_none, errW_some] <;> rfl) | (simp [*, errW_none, errW_some] <;> rfl), by repeat (first | (with_reducible first | exact HB.out | apply below_alloc | apply pw_below_drewN | apply below_drew1) | exact HB.out)⟩
  · rw [if_neg c4] at H
    have c4b0 : decide ((a0.size : Int) ≤ a1) = false := decide_eq_false c4
    clear c4
    by_cases c5 : 0 ≤ a1
    · rw [if_pos c5] at H
      have c5b0 : decide (0 ≤ a1) = true := decide_eq_true c5
      clear c5
      by_cases c6 : a1 < (a0.size : Int)
      · rw [if_pos c6] at H
        have c6b0 : decide (a1 < (a0.size : Int)) = true := decide_eq_true c6
        clear c6
        have HC8 := Aside0.mk H
        clear H
        have p7 : 0 ≤ (a1 : Int) := of_decide_eq_true (by first | (with_reducible assumption) | assumption)
        have q7 : a1 < (a0.size : Int) := of_decide_eq_true (by first | (with_reducible assumption) | assumption)
        have hx7 := bt_at a0 a1
        replace p7 := eq_true p7
        replace q7 := eq_true q7
        go_enter Try.func50, Try.ntmps50
        go_upto_region 4 with (fail)
        go_cut [22] (fun v22 wc => ∃ (kq : Nat) (x22_7 : Bool), v22 = .bool x22_7 ∧ Aside0 (comfitref08_read.j0 kq a0 a1 a2 (bt a0 a1) x22_7 = some (r1, r2)) ∧ Aside0 (kq ≤ k) ∧ Aside0 (Below w.heap.size w wc))
        case first =>
          have H := HC8.out
          clear HC8
          replace H := Option.bind_eq_some_iff.mp H
          obtain ⟨t101, A90, H⟩ := H
          replace H : (if t101 ≥ 0 then (comfitref08_read.j0 k a0 a1 a2 (bt a0 a1) true) else (if (bt a0 a1) = 116 then (comfitref08_read.j0 k a0 a1 a2 (bt a0 a1) true) else (if (bt a0 a1) = 102 then (comfitref08_read.j0 k a0 a1 a2 (bt a0 a1) true) else ((Go.Proofs.Ytjffhhalmicodaa.PA.comfitref08_letter.f (bt a0 a1)).bind fun t102 => (if t102 ≥ 0 then ((Go.Proofs.Ytjffhhalmicodaa.PA.comfitref08_letter.f (bt a0 a1)).bind fun t103 => (if 0 ≤ t103 then (comfitref08_read.j0 k a0 a1 a2 (bt a0 a1) ((Go.bits .and .i64 (shr .i64 a2 t103) 1) == 1)) else (none))) else (comfitref08_read.j0 k a0 a1 a2 (bt a0 a1) false)))))) = some (r1, r2) := H
          have A9 := Aside0.mk A90
          clear A90
          by_cases c10 : t101 ≥ 0
          · rw [if_pos c10] at H
            have c10b0 : decide (0 ≤ t101) = true := decide_eq_true c10
            clear c10
            (first | rw [c10b0] | (simp only [i64_w, i32_w]; rw [c10b0]) | skip)
            have H' := Aside0.mk H
            clear H
            go_wp2_with (first | ((with_reducible refine gate_callee (f := 59) rfl ?_); refine goesL_ (some 24) rfl rfl Try.func59 (by kernel_rfl) rfl #[.int .u8 (bt a0 a1)] rfl (by (try simp only [List.map_toArray, List.map_cons, List.map_nil]); first | done | rfl | (simp only [List.length_drop, List.length_take]; rfl)) ?_; (with_reducible refine (Go.Proofs.Ytjffhhalmicodaa.PA.comfitref08_digit.calls (bt a0 a1) t101 _ A9.out).mono ?_); rintro e w' ⟨rfl, ⟨nd, rfl⟩⟩; refine ⟨_, rfl, ?_⟩))
            go_meet
            case rel => exact ⟨_, (true), (by first | rfl | (simp; done) | (simp [*]; done)), H', ⟨by first | omega | exact Nat.le_refl _⟩, ⟨by repeat (first | (with_reducible first | exact HB.out | apply below_alloc | apply pw_below_drewN | apply below_drew1) | exact HB.out)⟩⟩
          · rw [if_neg c10] at H
            have c10b0 : decide (0 ≤ t101) = false := decide_eq_false c10
            clear c10
            (first | rw [c10b0] | (simp only [i64_w, i32_w]; rw [c10b0]) | skip)
            by_cases c11 : (bt a0 a1) = 116
            · rw [if_pos c11] at H
              have c11b0 : ((bt a0 a1) == 116) = true := beq_iff_eq.mpr c11
              have c11b1 : ((bt a0 a1) != 116) = false := bne_eq_false_iff_eq.mpr c11
              clear c11
              have H' := Aside0.mk H
              clear H
              go_wp2_with (first | ((with_reducible refine gate_callee (f := 59) rfl ?_); refine goesL_ (some 24) rfl rfl Try.func59 (by kernel_rfl) rfl #[.int .u8 (bt a0 a1)] rfl (by (try simp only [List.map_toArray, List.map_cons, List.map_nil]); first | done | rfl | (simp only [List.length_drop, List.length_take]; rfl)) ?_; (with_reducible refine (Go.Proofs.Ytjffhhalmicodaa.PA.comfitref08_digit.calls (bt a0 a1) t101 _ A9.out).mono ?_); rintro e w' ⟨rfl, ⟨nd, rfl⟩⟩; refine ⟨_, rfl, ?_⟩))
              go_meet
              case rel => exact ⟨_, (true), (by first | rfl | (simp; done) | (simp [*]; done)), H', ⟨by first | omega | exact Nat.le_refl _⟩, ⟨by repeat (first | (with_reducible first | exact HB.out | apply below_alloc | apply pw_below_drewN | apply below_drew1) | exact HB.out)⟩⟩
            · rw [if_neg c11] at H
              have c11b0 : ((bt a0 a1) == 116) = false := beq_eq_false_iff_ne.mpr c11
              have c11b1 : ((bt a0 a1) != 116) = true := bne_iff_ne.mpr c11
              by_cases c12 : (bt a0 a1) = 102
              · rw [if_pos c12] at H
                have c12b0 : ((bt a0 a1) == 102) = true := beq_iff_eq.mpr c12
                have c12b1 : ((bt a0 a1) != 102) = false := bne_eq_false_iff_eq.mpr c12
                clear c12
                have H' := Aside0.mk H
                clear H
                go_wp2_with (first | ((with_reducible refine gate_callee (f := 59) rfl ?_); refine goesL_ (some 24) rfl rfl Try.func59 (by kernel_rfl) rfl #[.int .u8 (bt a0 a1)] rfl (by (try simp only [List.map_toArray, List.map_cons, List.map_nil]); first | done | rfl | (simp only [List.length_drop, List.length_take]; rfl)) ?_; (with_reducible refine (Go.Proofs.Ytjffhhalmicodaa.PA.comfitref08_digit.calls (bt a0 a1) t101 _ A9.out).mono ?_); rintro e w' ⟨rfl, ⟨nd, rfl⟩⟩; refine ⟨_, rfl, ?_⟩))
                go_meet
                case rel => exact ⟨_, (true), (by first | rfl | (simp; done) | (simp [*]; done)), H', ⟨by first | omega | exact Nat.le_refl _⟩, ⟨by repeat (first | (with_reducible first | exact HB.out | apply below_alloc | apply pw_below_drewN | apply below_drew1) | exact HB.out)⟩⟩
              · rw [if_neg c12] at H
                have c12b0 : ((bt a0 a1) == 102) = false := beq_eq_false_iff_ne.mpr c12
                have c12b1 : ((bt a0 a1) != 102) = true := bne_iff_ne.mpr c12
                replace H := Option.bind_eq_some_iff.mp H
                obtain ⟨t102, A130, H⟩ := H
                replace H : (if t102 ≥ 0 then ((Go.Proofs.Ytjffhhalmicodaa.PA.comfitref08_letter.f (bt a0 a1)).bind fun t103 => (if 0 ≤ t103 then (comfitref08_read.j0 k a0 a1 a2 (bt a0 a1) ((Go.bits .and .i64 (shr .i64 a2 t103) 1) == 1)) else (none))) else (comfitref08_read.j0 k a0 a1 a2 (bt a0 a1) false)) = some (r1, r2) := H
                have A13 := Aside0.mk A130
                clear A130
                by_cases c14 : t102 ≥ 0
                · rw [if_pos c14] at H
                  have c14b0 : decide (0 ≤ t102) = true := decide_eq_true c14
                  clear c14
                  replace H := Option.bind_eq_some_iff.mp H
                  obtain ⟨t103, A150, H⟩ := H
                  replace H : (if 0 ≤ t103 then (comfitref08_read.j0 k a0 a1 a2 (bt a0 a1) ((Go.bits .and .i64 (shr .i64 a2 t103) 1) == 1)) else (none)) = some (r1, r2) := H
                  have A15 := Aside0.mk A150
                  clear A150
                  by_cases c16 : 0 ≤ t103
                  · rw [if_pos c16] at H
                    have c16b0 := eq_true c16
                    have c16b1 : decide (0 ≤ t103) = true := decide_eq_true c16
                    clear c16
                    obtain ⟨ji17, hji17⟩ : ∃ j_ : Int, (shr .i64 a2 t103) = j_ := ⟨_, rfl⟩
                    replace H : (comfitref08_read.j0 k a0 a1 a2 (bt a0 a1) ((Go.bits .and .i64 (ji17) 1) == 1)) = some (r1, r2) := by first | (rw [hji17] at H; exact H) | (simp only [hji17] at H ⊢; exact H)
                    (try rw [hji17] at A9)
                    (try rw [hji17] at A13)
                    (try rw [hji17] at A15)
                    have hji17_ : (a2 / 2 ^ min t103.toNat 64) = ji17 := hji17
                    have hji17z : t103 ≤ 64 → (a2 / 2 ^ t103.toNat) = ji17 := shr_small hji17
                    have H' := Aside0.mk H
                    clear H
                    have e_t103 : t103 = t102 := Option.some.inj (A15.out.symm.trans A13.out)   -- dupfix
                    (try rw [e_t103] at c10b0)
                    (try rw [e_t103] at c11b0)
                    (try rw [e_t103] at c11b1)
                    (try rw [e_t103] at c12b0)
                    (try rw [e_t103] at c12b1)
                    (try rw [e_t103] at c14b0)
                    (try rw [e_t103] at c16b0)
                    (try rw [e_t103] at c16b1)
                    (try rw [e_t103] at hji17)
                    (try rw [e_t103] at hji17_)
                    (try rw [e_t103] at hji17z)
                    go_wp2_with (first | ((with_reducible refine gate_callee (f := 59) rfl ?_); refine goesL_ (some 24) rfl rfl Try.func59 (by kernel_rfl) rfl #[.int .u8 (bt a0 a1)] rfl (by (try simp only [List.map_toArray, List.map_cons, List.map_nil]); first | done | rfl | (simp only [List.length_drop, List.length_take]; rfl)) ?_; (with_reducible refine (Go.Proofs.Ytjffhhalmicodaa.PA.comfitref08_digit.calls (bt a0 a1) t101 _ A9.out).mono ?_); rintro e w' ⟨rfl, ⟨nd, rfl⟩⟩; refine ⟨_, rfl, ?_⟩) | (go_at_call 60; (with_reducible refine (Go.Proofs.Ytjffhhalmicodaa.PA.comfitref08_letter.calls (bt a0 a1) t102 _ A13.out).mono ?_); rintro e w' ⟨rfl, ⟨nd, rfl⟩⟩) | (go_at_call 60; (with_reducible refine (Go.Proofs.Ytjffhhalmicodaa.PA.comfitref08_letter.calls (bt a0 a1) t103 _ A15.out).mono ?_); rintro e w' ⟨rfl, ⟨nd, rfl⟩⟩))
                    go_meet
                    case rel => exact ⟨_, (((Go.bits .and .i64 (ji17) 1) == 1)), (by first | rfl | (simp; done) | (simp only [← hji17] <;> (first | rfl | simp)) | (simp [*]; done)), H', ⟨by first | omega | exact Nat.le_refl _⟩, ⟨by repeat (first | (with_reducible first | exact HB.out | apply below_alloc | apply pw_below_drewN | apply below_drew1) | exact HB.out)⟩⟩
                  · rw [if_neg c16] at H
                    exact absurd H (by simp)
                · rw [if_neg c14] at H
                  have c14b0 : decide (0 ≤ t102) = false := decide_eq_false c14
                  clear c14
                  have H' := Aside0.mk H
                  clear H
                  go_wp2_with (first | ((with_reducible refine gate_callee (f := 59) rfl ?_); refine goesL_ (some 24) rfl rfl Try.func59 (by kernel_rfl) rfl #[.int .u8 (bt a0 a1)] rfl (by (try simp only [List.map_toArray, List.map_cons, List.map_nil]); first | done | rfl | (simp only [List.length_drop, List.length_take]; rfl)) ?_; (with_reducible refine (Go.Proofs.Ytjffhhalmicodaa.PA.comfitref08_digit.calls (bt a0 a1) t101 _ A9.out).mono ?_); rintro e w' ⟨rfl, ⟨nd, rfl⟩⟩; refine ⟨_, rfl, ?_⟩) | (go_at_call 60; (with_reducible refine (Go.Proofs.Ytjffhhalmicodaa.PA.comfitref08_letter.calls (bt a0 a1) t102 _ A13.out).mono ?_); rintro e w' ⟨rfl, ⟨nd, rfl⟩⟩))
                  go_meet
                  case rel => exact ⟨_, (false), (by first | rfl | (simp; done) | (simp [*]; done)), H', ⟨by first | omega | exact Nat.le_refl _⟩, ⟨by repeat (first | (with_reducible first | exact HB.out | apply below_alloc | apply pw_below_drewN | apply below_drew1) | exact HB.out)⟩⟩
        case rest =>
          clear HC8
          try clear c1
          try clear p2
          try clear c4
          try clear c4b0
          try clear c5
          try clear c5b0
          try clear c6
          try clear c6b0
          try clear p7
          try clear q7
          try clear hx7
          try clear c10
          try clear c10b0
          try clear c11
          try clear c11b0
          try clear c11b1
          try clear c12
          try clear c12b0
          try clear c12b1
          try clear c14
          try clear c14b0
          try clear c16
          try clear c16b0
          try clear c16b1
          try clear p7
          try clear q7
          obtain ⟨kq, x22_7, rfl, HA, HJ7, HB⟩ := hcut
          cases kq with
          | zero => exact absurd HA.out (by simp [comfitref08_read.j0])
          | succ kj7 =>
            have H := HA.out
            clear HA
            simp only [comfitref08_read.j0] at H
            by_cases c18 : x22_7 = true
            · subst c18
              have H1 : (some (wrap64 (a1 + 1), 0)) = some (r1, r2) := by rw [if_pos rfl] at H; exact H
              clear H
              have H := H1
              clear H1
              simp only [Option.some.injEq, Prod.mk.injEq] at H
              obtain ⟨rfl, rfl⟩ := H
              go_wp2
              go_ret2
              exact ⟨by first | rfl | (simp [errW_none, errW_some] <;> rfl) | (simp [*, errW_none, errW_some] <;> rfl), by repeat (first | (with_reducible first | exact HB.out | apply below_alloc | apply pw_below_drewN | apply below_drew1) | exact HB.out)⟩
            · replace c18 := Bool.eq_false_iff.mpr c18
              subst c18
              have H1 : (if (bt a0 a1) = 45 then (if (wrap64 (a1 + 1)) < (a0.size : Int) then (if 0 ≤ (wrap64 (a1 + 1)) then ((Go.Proofs.Ytjffhhalmicodaa.PA.comfitref08_digit.f (bt a0 (wrap64 (a1 + 1)))).bind fun t104 => (comfitref08_read.j1 kj7 a0 a1 a2 (bt a0 a1) (decide (t104 ≥ 0)))) else (none)) else (comfitref08_read.j1 kj7 a0 a1 a2 (bt a0 a1) false)) else (comfitref08_read.j1 kj7 a0 a1 a2 (bt a0 a1) false)) = some (r1, r2) := by rw [if_neg (show ¬ (false = true) by decide)] at H; exact H
              clear H
              have H := H1
              clear H1
              have HC19 := Aside0.mk H
              clear H
              go_upto_region 6 with (fail)
              go_cut [49] (fun v49 wc => ∃ (kq : Nat) (x49_18 : Bool), v49 = .bool x49_18 ∧ Aside0 (comfitref08_read.j1 kq a0 a1 a2 (bt a0 a1) x49_18 = some (r1, r2)) ∧ Aside0 (kq ≤ kj7) ∧ Aside0 (Below w.heap.size w wc))
              case first =>
                have H := HC19.out
                clear HC19
                by_cases c20 : (bt a0 a1) = 45
                · rw [if_pos c20] at H
                  have c20b0 : ((bt a0 a1) == 45) = true := beq_iff_eq.mpr c20
                  have c20b1 : ((bt a0 a1) != 45) = false := bne_eq_false_iff_eq.mpr c20
                  clear c20
                  (first | rw [c20b0] | (simp only [i64_w, i32_w]; rw [c20b0]) | skip)
                  by_cases c21 : (wrap64 (a1 + 1)) < (a0.size : Int)
                  · rw [if_pos c21] at H
                    have c21b0 : decide ((wrap64 (a1 + 1)) < (a0.size : Int)) = true := decide_eq_true c21
                    clear c21
                    obtain ⟨ji22, hji22⟩ : ∃ j_ : Int, (wrap64 (a1 + 1)) = j_ := ⟨_, rfl⟩
                    replace H : (if 0 ≤ (ji22) then ((Go.Proofs.Ytjffhhalmicodaa.PA.comfitref08_digit.f (bt a0 (ji22))).bind fun t104 => (comfitref08_read.j1 kj7 a0 a1 a2 (bt a0 a1) (decide (t104 ≥ 0)))) else (none)) = some (r1, r2) := by first | (rw [hji22] at H; exact H) | (simp only [hji22] at H ⊢; exact H)
                    (try rw [hji22] at c21b0)
                    have hji22w : (IntKind.i64.wrap (a1 + 1)) = ji22 := (i64_w _).trans hji22
                    by_cases c23 : 0 ≤ (ji22)
                    · rw [if_pos c23] at H
                      have c23b0 : decide (0 ≤ (ji22)) = true := decide_eq_true c23
                      clear c23
                      replace H := Option.bind_eq_some_iff.mp H
                      obtain ⟨t104, A250, H⟩ := H
                      replace H : (comfitref08_read.j1 kj7 a0 a1 a2 (bt a0 a1) (decide (t104 ≥ 0))) = some (r1, r2) := H
                      have A25 := Aside0.mk A250
                      clear A250
                      have H' := Aside0.mk H
                      clear H
                      have p24 : 0 ≤ ((ji22) : Int) := of_decide_eq_true (by first | (with_reducible assumption) | assumption)
                      have q24 : (ji22) < (a0.size : Int) := of_decide_eq_true (by first | (with_reducible assumption) | assumption)
                      have hx24 := bt_at a0 (ji22)
                      replace p24 := eq_true p24
                      replace q24 := eq_true q24
                      go_wp2_with (first | (go_at_call 59; (with_reducible refine (Go.Proofs.Ytjffhhalmicodaa.PA.comfitref08_digit.calls (bt a0 (ji22)) t104 _ A25.out).mono ?_); rintro e w' ⟨rfl, ⟨nd, rfl⟩⟩))
                      go_meet
                      case rel => exact ⟨_, (decide (t104 ≥ 0)), (by first | rfl | (simp; done) | (simp [*]; done)), H', ⟨by have := HJ7.out; first | omega | exact Nat.le_refl _⟩, ⟨by repeat (first | (with_reducible first | exact HB.out | apply below_alloc | apply pw_below_drewN | apply below_drew1) | exact HB.out)⟩⟩
                    · rw [if_neg c23] at H
                      exact absurd H (by simp)
                  · rw [if_neg c21] at H
                    have c21b0 : decide ((wrap64 (a1 + 1)) < (a0.size : Int)) = false := decide_eq_false c21
                    clear c21
                    have H' := Aside0.mk H
                    clear H
                    go_wp2
                    go_meet
                    case rel => exact ⟨_, (false), (by first | rfl | (simp; done) | (simp [*]; done)), H', ⟨by have := HJ7.out; first | omega | exact Nat.le_refl _⟩, ⟨by repeat (first | (with_reducible first | exact HB.out | apply below_alloc | apply pw_below_drewN | apply below_drew1) | exact HB.out)⟩⟩
                · rw [if_neg c20] at H
                  have c20b0 : ((bt a0 a1) == 45) = false := beq_eq_false_iff_ne.mpr c20
                  have c20b1 : ((bt a0 a1) != 45) = true := bne_iff_ne.mpr c20
                  (first | rw [c20b0] | (simp only [i64_w, i32_w]; rw [c20b0]) | skip)
                  have H' := Aside0.mk H
                  clear H
                  go_wp2
                  go_meet
                  case rel => exact ⟨_, (false), (by first | rfl | (simp; done) | (simp [*]; done)), H', ⟨by have := HJ7.out; first | omega | exact Nat.le_refl _⟩, ⟨by repeat (first | (with_reducible first | exact HB.out | apply below_alloc | apply pw_below_drewN | apply below_drew1) | exact HB.out)⟩⟩
              case rest =>
                clear HC19
                try clear c1
                try clear c2
                try clear p2
                try clear q2
                try clear hx2
                try clear c4
                try clear c4b0
                try clear c5
                try clear c5b0
                try clear c6
                try clear c6b0
                try clear p6
                try clear p7
                try clear q7
                try clear hx7
                try clear c10
                try clear c10b0
                try clear c11
                try clear c11b0
                try clear c11b1
                try clear c12
                try clear c12b0
                try clear c12b1
                try clear c14
                try clear c14b0
                try clear c16
                try clear c16b0
                try clear c16b1
                try clear c18
                try clear c20
                try clear c20b0
                try clear c20b1
                try clear c21
                try clear c21b0
                try clear c23
                try clear c23b0
                try clear p24
                try clear q24
                try clear hx24
                try clear p2
                try clear p24
                try clear p7
                try clear q24
                try clear q7
                obtain ⟨kq, x49_18, rfl, HA, HJ18, HB⟩ := hcut
                cases kq with
                | zero => exact absurd HA.out (by simp [comfitref08_read.j1])
                | succ kj18 =>
                  have H := HA.out
                  clear HA
                  simp only [comfitref08_read.j1] at H
                  by_cases c26 : x49_18 = true
                  · subst c26
                    have H1 : (some (wrap64 (a1 + 2), 0)) = some (r1, r2) := by rw [if_pos rfl] at H; exact H
                    clear H
                    have H := H1
                    clear H1
                    simp only [Option.some.injEq, Prod.mk.injEq] at H
                    obtain ⟨rfl, rfl⟩ := H
                    go_wp2
                    go_ret2
                    exact ⟨by first | rfl | (simp [errW_none, errW_some] <;> rfl) | (simp [*, errW_none, errW_some] <;> rfl), by repeat (first | (with_reducible first | exact HB.out | apply below_alloc | apply pw_below_drewN | apply below_drew1) | exact HB.out)⟩
                  · replace c26 := Bool.eq_false_iff.mpr c26
                    subst c26
                    have H1 : (if (bt a0 a1) = 38 then (comfitref08_read.j2 kj18 a0 a1 a2 (bt a0 a1) true) else (comfitref08_read.j2 kj18 a0 a1 a2 (bt a0 a1) ((bt a0 a1) == 124))) = some (r1, r2) := by rw [if_neg (show ¬ (false = true) by decide)] at H; exact H
                    clear H
                    have H := H1
                    clear H1
                    have HC27 := Aside0.mk H
                    clear H
                    go_upto_region 8 with (fail)
                    go_cut [69] (fun v69 wc => ∃ (kq : Nat) (x69_26 : Bool), v69 = .bool x69_26 ∧ Aside0 (comfitref08_read.j2 kq a0 a1 a2 (bt a0 a1) x69_26 = some (r1, r2)) ∧ Aside0 (kq ≤ kj18) ∧ Aside0 (Below w.heap.size w wc))
                    case first =>
                      have H := HC27.out
                      clear HC27
                      by_cases c28 : (bt a0 a1) = 38
                      · rw [if_pos c28] at H
                        have c28b0 : ((bt a0 a1) == 38) = true := beq_iff_eq.mpr c28
                        have c28b1 : ((bt a0 a1) != 38) = false := bne_eq_false_iff_eq.mpr c28
                        clear c28
                        (first | rw [c28b0] | (simp only [i64_w, i32_w]; rw [c28b0]) | skip)
                        have H' := Aside0.mk H
                        clear H
                        go_wp2
                        go_meet
                        case rel => exact ⟨_, (true), (by first | rfl | (simp; done) | (simp [*]; done)), H', ⟨by have := HJ7.out; have := HJ18.out; first | omega | exact Nat.le_refl _⟩, ⟨by repeat (first | (with_reducible first | exact HB.out | apply below_alloc | apply pw_below_drewN | apply below_drew1) | exact HB.out)⟩⟩
                      · rw [if_neg c28] at H
                        have c28b0 : ((bt a0 a1) == 38) = false := beq_eq_false_iff_ne.mpr c28
                        have c28b1 : ((bt a0 a1) != 38) = true := bne_iff_ne.mpr c28
                        (first | rw [c28b0] | (simp only [i64_w, i32_w]; rw [c28b0]) | skip)
                        have H' := Aside0.mk H
                        clear H
                        go_wp2
                        go_meet
                        case rel => exact ⟨_, (((bt a0 a1) == 124)), (by first | rfl | (simp; done) | (simp [*]; done)), H', ⟨by have := HJ7.out; have := HJ18.out; first | omega | exact Nat.le_refl _⟩, ⟨by repeat (first | (with_reducible first | exact HB.out | apply below_alloc | apply pw_below_drewN | apply below_drew1) | exact HB.out)⟩⟩
                    case rest =>
                      clear HC27
                      try clear c1
                      try clear c2
                      try clear p2
                      try clear q2
                      try clear hx2
                      try clear c4
                      try clear c4b0
                      try clear c5
                      try clear c5b0
                      try clear c6
                      try clear c6b0
                      try clear p6
                      try clear p7
                      try clear q7
                      try clear hx7
                      try clear c10
                      try clear c10b0
                      try clear c11
                      try clear c11b0
                      try clear c11b1
                      try clear c12
                      try clear c12b0
                      try clear c12b1
                      try clear c14
                      try clear c14b0
                      try clear c16
                      try clear c16b0
                      try clear c16b1
                      try clear c18
                      try clear c20
                      try clear c20b0
                      try clear c20b1
                      try clear c21
                      try clear c21b0
                      try clear c23
                      try clear c23b0
                      try clear p24
                      try clear q24
                      try clear hx24
                      try clear c26
                      try clear c28
                      try clear c28b0
                      try clear c28b1
                      try clear p2
                      try clear p24
                      try clear p6
                      try clear p7
                      try clear q2
                      try clear q24
                      try clear q7
                      obtain ⟨kq, x69_26, rfl, HA, HJ26, HB⟩ := hcut
                      cases kq with
                      | zero => exact absurd HA.out (by simp [comfitref08_read.j2])
                      | succ kj26 =>
                        have H := HA.out
                        clear HA
                        simp only [comfitref08_read.j2] at H
                        by_cases c29 : x69_26 = true
                        · subst c29
                          have H1 : ((comfitref08_read.f kj26 a0 (wrap64 (a1 + 1)) a2).bind fun bt105 => (if bt105.1 < 0 then (some ((-1), 0)) else ((comfitref08_read.f kj26 a0 bt105.1 a2).bind fun bt107 => (some (bt107.1, mx bt105.2 bt107.2))))) = some (r1, r2) := by rw [if_pos rfl] at H; exact H
                          clear H
                          have H := H1
                          clear H1
                          replace H := Option.bind_eq_some_iff.mp H
                          obtain ⟨⟨t105, t106⟩, A300, H⟩ := H
                          replace H : (if t105 < 0 then (some ((-1), 0)) else ((comfitref08_read.f kj26 a0 t105 a2).bind fun bt107 => (some (bt107.1, mx t106 bt107.2)))) = some (r1, r2) := H
                          have A30 := Aside0.mk A300
                          clear A300
                          by_cases c31 : t105 < 0
                          · rw [if_pos c31] at H
                            have c31b0 : decide (t105 < 0) = true := decide_eq_true c31
                            clear c31
                            simp only [Option.some.injEq, Prod.mk.injEq] at H
                            obtain ⟨rfl, rfl⟩ := H
                            go_wp2_with (first | ((with_reducible refine gate_callee (f := 50) rfl ?_); refine goesL_ (some 81) rfl rfl Try.func50 (by kernel_rfl) rfl #[.string a0, .int .i64 (wrap64 (a1 + 1)), .int .i64 a2] rfl (by (try simp only [List.map_toArray, List.map_cons, List.map_nil]); first | done | rfl | (simp only [List.length_drop, List.length_take]; rfl)) ?_; (with_reducible refine (ih kj26 (by have := HJ7.out; have := HJ18.out; have := HJ26.out; omega) a0 (wrap64 (a1 + 1)) a2 t105 t106 _ A30.out).mono ?_); rintro e w32 ⟨rfl, hb⟩; refine ⟨_, rfl, ?_⟩; have n0_ := Aside0.mk (below_step (by repeat (first | (with_reducible first | exact HB.out | apply below_alloc | apply pw_below_drewN | apply below_drew1) | exact HB.out)) hb); clear HB; have HB := n0_; clear n0_; (try clear hb); (try clear hb2); (try clear hk); (try clear hi)))
                            go_ret2
                            exact ⟨by first | rfl | (simp [errW_none, errW_some] <;> rfl) | (simp [*, errW_none, errW_some] <;> rfl), by repeat (first | (with_reducible first | exact HB.out | apply below_alloc | apply pw_below_drewN | apply below_drew1) | exact HB.out)⟩
                          · rw [if_neg c31] at H
                            have c31b0 : decide (t105 < 0) = false := decide_eq_false c31
                            clear c31
                            replace H := Option.bind_eq_some_iff.mp H
                            obtain ⟨⟨t107, t108⟩, A330, H⟩ := H
                            replace H : (some (t107, mx t106 t108)) = some (r1, r2) := H
                            have A33 := Aside0.mk A330
                            clear A330
                            obtain ⟨ji34, hji34⟩ : ∃ j_ : Int, (mx t106 t108) = j_ := ⟨_, rfl⟩
                            replace H : (some (t107, ji34)) = some (r1, r2) := by first | (rw [hji34] at H; exact H) | (simp only [hji34] at H ⊢; exact H)
                            (try rw [hji34] at A30)
                            (try rw [hji34] at A33)
                            have hji34_ : (if t106 < t108 then t108 else t106) = ji34 := hji34
                            simp only [Option.some.injEq, Prod.mk.injEq] at H
                            obtain ⟨rfl, rfl⟩ := H
                            go_wp2_with (first | ((with_reducible refine gate_callee (f := 50) rfl ?_); refine goesL_ (some 81) rfl rfl Try.func50 (by kernel_rfl) rfl #[.string a0, .int .i64 (wrap64 (a1 + 1)), .int .i64 a2] rfl (by (try simp only [List.map_toArray, List.map_cons, List.map_nil]); first | done | rfl | (simp only [List.length_drop, List.length_take]; rfl)) ?_; (with_reducible refine (ih kj26 (by have := HJ7.out; have := HJ18.out; have := HJ26.out; omega) a0 (wrap64 (a1 + 1)) a2 t105 t106 _ A30.out).mono ?_); rintro e w35 ⟨rfl, hb⟩; refine ⟨_, rfl, ?_⟩; have n0_ := Aside0.mk (below_step (by repeat (first | (with_reducible first | exact HB.out | apply below_alloc | apply pw_below_drewN | apply below_drew1) | exact HB.out)) hb); clear HB; have HB := n0_; clear n0_; (try clear hb); (try clear hb2); (try clear hk); (try clear hi)) | ((with_reducible refine gate_callee (f := 50) rfl ?_); refine goesL_ (some 90) rfl rfl Try.func50 (by kernel_rfl) rfl #[.string a0, .int .i64 t105, .int .i64 a2] rfl (by (try simp only [List.map_toArray, List.map_cons, List.map_nil]); first | done | rfl | (simp only [List.length_drop, List.length_take]; rfl)) ?_; (with_reducible refine (ih kj26 (by have := HJ7.out; have := HJ18.out; have := HJ26.out; omega) a0 t105 a2 t107 t108 _ A33.out).mono ?_); rintro e w36 ⟨rfl, hb⟩; refine ⟨_, rfl, ?_⟩; have n0_ := Aside0.mk (below_step (by repeat (first | (with_reducible first | exact HB.out | apply below_alloc | apply pw_below_drewN | apply below_drew1) | exact HB.out)) hb); clear HB; have HB := n0_; clear n0_; (try clear hb); (try clear hb2); (try clear hk); (try clear hi)))
                            go_ret2
                            exact ⟨by first | rfl | (simp [errW_none, errW_some] <;> rfl) | (simp only [← hji34]; first | rfl | (simp [errW_none, errW_some] <;> rfl)) | (simp [*, errW_none, errW_some] <;> rfl), by repeat (first | (with_reducible first | exact HB.out | apply below_alloc | apply pw_below_drewN | apply below_drew1) | exact HB.out)⟩
                        · replace c29 := Bool.eq_false_iff.mpr c29
                          subst c29
                          have H1 : (if (bt a0 a1) = 60 then (comfitref08_read.j3 kj26 a0 a1 a2 (bt a0 a1) true) else (comfitref08_read.j3 kj26 a0 a1 a2 (bt a0 a1) ((bt a0 a1) == 91))) = some (r1, r2) := by rw [if_neg (show ¬ (false = true) by decide)] at H; exact H
                          clear H
                          have H := H1
                          clear H1
                          have HC37 := Aside0.mk H
                          clear H
                          go_upto_region 14 with (fail)
                          go_cut [97] (fun v97 wc => ∃ (kq : Nat) (x97_36 : Bool), v97 = .bool x97_36 ∧ Aside0 (comfitref08_read.j3 kq a0 a1 a2 (bt a0 a1) x97_36 = some (r1, r2)) ∧ Aside0 (kq ≤ kj26) ∧ Aside0 (Below w.heap.size w wc))
                          case first =>
                            have H := HC37.out
                            clear HC37
                            by_cases c38 : (bt a0 a1) = 60
                            · rw [if_pos c38] at H
                              have c38b0 : ((bt a0 a1) == 60) = true := beq_iff_eq.mpr c38
                              have c38b1 : ((bt a0 a1) != 60) = false := bne_eq_false_iff_eq.mpr c38
                              clear c38
                              (first | rw [c38b0] | (simp only [i64_w, i32_w]; rw [c38b0]) | skip)
                              have H' := Aside0.mk H
                              clear H
                              go_wp2
                              go_meet
                              case rel => exact ⟨_, (true), (by first | rfl | (simp; done) | (simp [*]; done)), H', ⟨by have := HJ7.out; have := HJ18.out; have := HJ26.out; first | omega | exact Nat.le_refl _⟩, ⟨by repeat (first | (with_reducible first | exact HB.out | apply below_alloc | apply pw_below_drewN | apply below_drew1) | exact HB.out)⟩⟩
                            · rw [if_neg c38] at H
                              have c38b0 : ((bt a0 a1) == 60) = false := beq_eq_false_iff_ne.mpr c38
                              have c38b1 : ((bt a0 a1) != 60) = true := bne_iff_ne.mpr c38
                              (first | rw [c38b0] | (simp only [i64_w, i32_w]; rw [c38b0]) | skip)
                              have H' := Aside0.mk H
                              clear H
                              go_wp2
                              go_meet
                              case rel => exact ⟨_, (((bt a0 a1) == 91)), (by first | rfl | (simp; done) | (simp [*]; done)), H', ⟨by have := HJ7.out; have := HJ18.out; have := HJ26.out; first | omega | exact Nat.le_refl _⟩, ⟨by repeat (first | (with_reducible first | exact HB.out | apply below_alloc | apply pw_below_drewN | apply below_drew1) | exact HB.out)⟩⟩
                          case rest =>
                            clear HC37
                            try clear c1
                            try clear c2
                            try clear p2
                            try clear q2
                            try clear hx2
                            try clear c3
                            try clear c4
                            try clear c4b0
                            try clear c5
                            try clear c5b0
                            try clear c6
                            try clear c6b0
                            try clear p6
                            try clear p7
                            try clear q7
                            try clear hx7
                            try clear c10
                            try clear c10b0
                            try clear c11
                            try clear c11b0
                            try clear c11b1
                            try clear c12
                            try clear c12b0
                            try clear c12b1
                            try clear c14
                            try clear c14b0
                            try clear c16
                            try clear c16b0
                            try clear c16b1
                            try clear c18
                            try clear c20
                            try clear c20b0
                            try clear c20b1
                            try clear c21
                            try clear c21b0
                            try clear c23
                            try clear c23b0
                            try clear p24
                            try clear q24
                            try clear hx24
                            try clear c26
                            try clear c28
                            try clear c28b0
                            try clear c28b1
                            try clear c29
                            try clear c31
                            try clear c31b0
                            try clear c38
                            try clear c38b0
                            try clear c38b1
                            try clear p2
                            try clear p24
                            try clear p6
                            try clear p7
                            try clear q2
                            try clear q24
                            try clear q7
                            obtain ⟨kq, x97_36, rfl, HA, HJ36, HB⟩ := hcut
                            cases kq with
                            | zero => exact absurd HA.out (by simp [comfitref08_read.j3])
                            | succ kj36 =>
                              have H := HA.out
                              clear HA
                              simp only [comfitref08_read.j3] at H
                              by_cases c39 : x97_36 = true
                              · subst c39
                                have H1 : ((comfitref08_read.f kj36 a0 (wrap64 (a1 + 1)) a2).bind fun bt109 => (some (bt109.1, wrap64 (bt109.2 + 1)))) = some (r1, r2) := by rw [if_pos rfl] at H; exact H
                                clear H
                                have H := H1
                                clear H1
                                replace H := Option.bind_eq_some_iff.mp H
                                obtain ⟨⟨t109, t110⟩, A400, H⟩ := H
                                replace H : (some (t109, wrap64 (t110 + 1))) = some (r1, r2) := H
                                have A40 := Aside0.mk A400
                                clear A400
                                simp only [Option.some.injEq, Prod.mk.injEq] at H
                                obtain ⟨rfl, rfl⟩ := H
                                go_wp2_with (first | ((with_reducible refine gate_callee (f := 50) rfl ?_); refine goesL_ (some 109) rfl rfl Try.func50 (by kernel_rfl) rfl #[.string a0, .int .i64 (wrap64 (a1 + 1)), .int .i64 a2] rfl (by (try simp only [List.map_toArray, List.map_cons, List.map_nil]); first | done | rfl | (simp only [List.length_drop, List.length_take]; rfl)) ?_; (with_reducible refine (ih kj36 (by have := HJ7.out; have := HJ18.out; have := HJ26.out; have := HJ36.out; omega) a0 (wrap64 (a1 + 1)) a2 t109 t110 _ A40.out).mono ?_); rintro e w41 ⟨rfl, hb⟩; refine ⟨_, rfl, ?_⟩; have n0_ := Aside0.mk (below_step (by repeat (first | (with_reducible first | exact HB.out | apply below_alloc | apply pw_below_drewN | apply below_drew1) | exact HB.out)) hb); clear HB; have HB := n0_; clear n0_; (try clear hb); (try clear hb2); (try clear hk); (try clear hi)))
                                go_ret2
                                exact ⟨by first | rfl | (simp [errW_none, errW_some] <;> rfl) | (simp [*, errW_none, errW_some] <;> rfl), by repeat (first | (with_reducible first | exact HB.out | apply below_alloc | apply pw_below_drewN | apply below_drew1) | exact HB.out)⟩
                              · replace c39 := Bool.eq_false_iff.mpr c39
                                subst c39
                                have H1 : (if (bt a0 a1) = 109 then (if (wrap64 (a1 + 1)) < (a0.size : Int) then (if 0 ≤ (wrap64 (a1 + 1)) then ((Go.Proofs.Ytjffhhalmicodaa.PA.comfitref08_letter.f (bt a0 (wrap64 (a1 + 1)))).bind fun t111 => (if t111 ≥ 0 then ((Go.Proofs.Ytjffhhalmicodaa.PA.comfitref08_letter.f (bt a0 (wrap64 (a1 + 1)))).bind fun t112 => (if 0 ≤ t112 then (comfitref08_read.j4 kj36 a0 a1 a2 ((Go.bits .and .i64 (shr .i64 a2 t112) 1) == 0)) else (none))) else (comfitref08_read.j4 kj36 a0 a1 a2 false))) else (none)) else (comfitref08_read.j4 kj36 a0 a1 a2 false)) else (if (bt a0 a1) = 103 then (if (wrap64 (a1 + 1)) < (a0.size : Int) then (if 0 ≤ (wrap64 (a1 + 1)) then ((Go.Proofs.Ytjffhhalmicodaa.PA.comfitref08_letter.f (bt a0 (wrap64 (a1 + 1)))).bind fun t113 => (if t113 ≥ 0 then ((Go.Proofs.Ytjffhhalmicodaa.PA.comfitref08_letter.f (bt a0 (wrap64 (a1 + 1)))).bind fun t114 => (if 0 ≤ t114 then (comfitref08_read.j4 kj36 a0 a1 a2 ((Go.bits .and .i64 (shr .i64 a2 t114) 1) == 0)) else (none))) else (comfitref08_read.j4 kj36 a0 a1 a2 false))) else (none)) else (comfitref08_read.j4 kj36 a0 a1 a2 false)) else (comfitref08_read.j4 kj36 a0 a1 a2 false))) = some (r1, r2) := by rw [if_neg (show ¬ (false = true) by decide)] at H; exact H
                                clear H
                                have H := H1
                                clear H1
                                have HC42 := Aside0.mk H
                                clear H
                                go_upto_region 17 with (fail)
                                go_cut [115] (fun v115 wc => ∃ (kq : Nat) (x115_41 : Bool), v115 = .bool x115_41 ∧ Aside0 (comfitref08_read.j4 kq a0 a1 a2 x115_41 = some (r1, r2)) ∧ Aside0 (kq ≤ kj36) ∧ Aside0 (Below w.heap.size w wc))
                                case first =>
                                  have H := HC42.out
                                  clear HC42
                                  by_cases c43 : (bt a0 a1) = 109
                                  · rw [if_pos c43] at H
                                    have c43b0 : ((bt a0 a1) == 109) = true := beq_iff_eq.mpr c43
                                    have c43b1 : ((bt a0 a1) != 109) = false := bne_eq_false_iff_eq.mpr c43
                                    clear c43
                                    (first | rw [c43b0] | (simp only [i64_w, i32_w]; rw [c43b0]) | skip)
                                    by_cases c44 : (wrap64 (a1 + 1)) < (a0.size : Int)
                                    · rw [if_pos c44] at H
                                      have c44b0 : decide ((wrap64 (a1 + 1)) < (a0.size : Int)) = true := decide_eq_true c44
                                      clear c44
                                      obtain ⟨ji45, hji45⟩ : ∃ j_ : Int, (wrap64 (a1 + 1)) = j_ := ⟨_, rfl⟩
                                      replace H : (if 0 ≤ (ji45) then ((Go.Proofs.Ytjffhhalmicodaa.PA.comfitref08_letter.f (bt a0 (ji45))).bind fun t111 => (if t111 ≥ 0 then ((Go.Proofs.Ytjffhhalmicodaa.PA.comfitref08_letter.f (bt a0 (ji45))).bind fun t112 => (if 0 ≤ t112 then (comfitref08_read.j4 kj36 a0 a1 a2 ((Go.bits .and .i64 (shr .i64 a2 t112) 1) == 0)) else (none))) else (comfitref08_read.j4 kj36 a0 a1 a2 false))) else (none)) = some (r1, r2) := by first | (rw [hji45] at H; exact H) | (simp only [hji45] at H ⊢; exact H)
                                      (try rw [hji45] at c44b0)
                                      have hji45w : (IntKind.i64.wrap (a1 + 1)) = ji45 := (i64_w _).trans hji45
                                      by_cases c46 : 0 ≤ (ji45)
                                      · rw [if_pos c46] at H
                                        have c46b0 : decide (0 ≤ (ji45)) = true := decide_eq_true c46
                                        clear c46
                                        replace H := Option.bind_eq_some_iff.mp H
                                        obtain ⟨t111, A480, H⟩ := H
                                        replace H : (if t111 ≥ 0 then ((Go.Proofs.Ytjffhhalmicodaa.PA.comfitref08_letter.f (bt a0 (ji45))).bind fun t112 => (if 0 ≤ t112 then (comfitref08_read.j4 kj36 a0 a1 a2 ((Go.bits .and .i64 (shr .i64 a2 t112) 1) == 0)) else (none))) else (comfitref08_read.j4 kj36 a0 a1 a2 false)) = some (r1, r2) := H
                                        have A48 := Aside0.mk A480
                                        clear A480
                                        by_cases c49 : t111 ≥ 0
                                        · rw [if_pos c49] at H
                                          have c49b0 : decide (0 ≤ t111) = true := decide_eq_true c49
                                          clear c49
                                          replace H := Option.bind_eq_some_iff.mp H
                                          obtain ⟨t112, A510, H⟩ := H
                                          replace H : (if 0 ≤ t112 then (comfitref08_read.j4 kj36 a0 a1 a2 ((Go.bits .and .i64 (shr .i64 a2 t112) 1) == 0)) else (none)) = some (r1, r2) := H
                                          have A51 := Aside0.mk A510
                                          clear A510
                                          by_cases c52 : 0 ≤ t112
                                          · rw [if_pos c52] at H
                                            have c52b0 := eq_true c52
                                            have c52b1 : decide (0 ≤ t112) = true := decide_eq_true c52
                                            clear c52
                                            obtain ⟨ji53, hji53⟩ : ∃ j_ : Int, (shr .i64 a2 t112) = j_ := ⟨_, rfl⟩
                                            replace H : (comfitref08_read.j4 kj36 a0 a1 a2 ((Go.bits .and .i64 (ji53) 1) == 0)) = some (r1, r2) := by first | (rw [hji53] at H; exact H) | (simp only [hji53] at H ⊢; exact H)
                                            (try rw [hji53] at A48)
                                            (try rw [hji53] at A51)
                                            have hji53_ : (a2 / 2 ^ min t112.toNat 64) = ji53 := hji53
                                            have hji53z : t112 ≤ 64 → (a2 / 2 ^ t112.toNat) = ji53 := shr_small hji53
                                            have H' := Aside0.mk H
                                            clear H
                                            have p47 : 0 ≤ ((ji45) : Int) := of_decide_eq_true (by first | (with_reducible assumption) | assumption)
                                            have q47 : (ji45) < (a0.size : Int) := of_decide_eq_true (by first | (with_reducible assumption) | assumption)
                                            have hx47 := bt_at a0 (ji45)
                                            replace p47 := eq_true p47
                                            replace q47 := eq_true q47
                                            have e_t112 : t112 = t111 := Option.some.inj (A51.out.symm.trans A48.out)   -- dupfix
                                            (try rw [e_t112] at c43b0)
                                            (try rw [e_t112] at c43b1)
                                            (try rw [e_t112] at c44b0)
                                            (try rw [e_t112] at hji45)
                                            (try rw [e_t112] at hji45w)
                                            (try rw [e_t112] at c46b0)
                                            (try rw [e_t112] at c49b0)
                                            (try rw [e_t112] at c52b0)
                                            (try rw [e_t112] at c52b1)
                                            (try rw [e_t112] at hji53)
                                            (try rw [e_t112] at hji53_)
                                            (try rw [e_t112] at hji53z)
                                            go_wp2_with (first | (go_at_call 60; (with_reducible refine (Go.Proofs.Ytjffhhalmicodaa.PA.comfitref08_letter.calls (bt a0 (ji45)) t111 _ A48.out).mono ?_); rintro e w' ⟨rfl, ⟨nd, rfl⟩⟩; have p50 : 0 ≤ ((ji45) : Int) := of_decide_eq_true (by first | (with_reducible assumption) | assumption); have q50 : (ji45) < (a0.size : Int) := of_decide_eq_true (by first | (with_reducible assumption) | assumption); have hx50 := bt_at a0 (ji45); replace p50 := eq_true p50; replace q50 := eq_true q50) | (go_at_call 60; (with_reducible refine (Go.Proofs.Ytjffhhalmicodaa.PA.comfitref08_letter.calls (bt a0 (ji45)) t112 _ A51.out).mono ?_); rintro e w' ⟨rfl, ⟨nd, rfl⟩⟩))
                                            go_meet
                                            case rel => exact ⟨_, (((Go.bits .and .i64 (ji53) 1) == 0)), (by first | rfl | (simp; done) | (simp only [← hji53] <;> (first | rfl | simp)) | (simp [*]; done)), H', ⟨by have := HJ7.out; have := HJ18.out; have := HJ26.out; have := HJ36.out; first | omega | exact Nat.le_refl _⟩, ⟨by repeat (first | (with_reducible first | exact HB.out | apply below_alloc | apply pw_below_drewN | apply below_drew1) | exact HB.out)⟩⟩
                                          · rw [if_neg c52] at H
                                            exact absurd H (by simp)
                                        · rw [if_neg c49] at H
                                          have c49b0 : decide (0 ≤ t111) = false := decide_eq_false c49
                                          clear c49
                                          have H' := Aside0.mk H
                                          clear H
                                          have p47 : 0 ≤ ((ji45) : Int) := of_decide_eq_true (by first | (with_reducible assumption) | assumption)
                                          have q47 : (ji45) < (a0.size : Int) := of_decide_eq_true (by first | (with_reducible assumption) | assumption)
                                          have hx47 := bt_at a0 (ji45)
                                          replace p47 := eq_true p47
                                          replace q47 := eq_true q47
                                          go_wp2_with (first | (go_at_call 60; (with_reducible refine (Go.Proofs.Ytjffhhalmicodaa.PA.comfitref08_letter.calls (bt a0 (ji45)) t111 _ A48.out).mono ?_); rintro e w' ⟨rfl, ⟨nd, rfl⟩⟩))
                                          go_meet
                                          case rel => exact ⟨_, (false), (by first | rfl | (simp; done) | (simp [*]; done)), H', ⟨by have := HJ7.out; have := HJ18.out; have := HJ26.out; have := HJ36.out; first | omega | exact Nat.le_refl _⟩, ⟨by repeat (first | (with_reducible first | exact HB.out | apply below_alloc | apply pw_below_drewN | apply below_drew1) | exact HB.out)⟩⟩
                                      · rw [if_neg c46] at H
                                        exact absurd H (by simp)
                                    · rw [if_neg c44] at H
                                      have c44b0 : decide ((wrap64 (a1 + 1)) < (a0.size : Int)) = false := decide_eq_false c44
                                      clear c44
                                      have H' := Aside0.mk H
                                      clear H
                                      go_wp2
                                      go_meet
                                      case rel => exact ⟨_, (false), (by first | rfl | (simp; done) | (simp [*]; done)), H', ⟨by have := HJ7.out; have := HJ18.out; have := HJ26.out; have := HJ36.out; first | omega | exact Nat.le_refl _⟩, ⟨by repeat (first | (with_reducible first | exact HB.out | apply below_alloc | apply pw_below_drewN | apply below_drew1) | exact HB.out)⟩⟩
                                  · rw [if_neg c43] at H
                                    have c43b0 : ((bt a0 a1) == 109) = false := beq_eq_false_iff_ne.mpr c43
                                    have c43b1 : ((bt a0 a1) != 109) = true := bne_iff_ne.mpr c43
                                    (first | rw [c43b0] | (simp only [i64_w, i32_w]; rw [c43b0]) | skip)
                                    by_cases c54 : (bt a0 a1) = 103
                                    · rw [if_pos c54] at H
                                      have c54b0 : ((bt a0 a1) == 103) = true := beq_iff_eq.mpr c54
                                      have c54b1 : ((bt a0 a1) != 103) = false := bne_eq_false_iff_eq.mpr c54
                                      clear c54
                                      by_cases c55 : (wrap64 (a1 + 1)) < (a0.size : Int)
                                      · rw [if_pos c55] at H
                                        have c55b0 : decide ((wrap64 (a1 + 1)) < (a0.size : Int)) = true := decide_eq_true c55
                                        clear c55
                                        obtain ⟨ji56, hji56⟩ : ∃ j_ : Int, (wrap64 (a1 + 1)) = j_ := ⟨_, rfl⟩
                                        replace H : (if 0 ≤ (ji56) then ((Go.Proofs.Ytjffhhalmicodaa.PA.comfitref08_letter.f (bt a0 (ji56))).bind fun t113 => (if t113 ≥ 0 then ((Go.Proofs.Ytjffhhalmicodaa.PA.comfitref08_letter.f (bt a0 (ji56))).bind fun t114 => (if 0 ≤ t114 then (comfitref08_read.j4 kj36 a0 a1 a2 ((Go.bits .and .i64 (shr .i64 a2 t114) 1) == 0)) else (none))) else (comfitref08_read.j4 kj36 a0 a1 a2 false))) else (none)) = some (r1, r2) := by first | (rw [hji56] at H; exact H) | (simp only [hji56] at H ⊢; exact H)
                                        (try rw [hji56] at c55b0)
                                        have hji56w : (IntKind.i64.wrap (a1 + 1)) = ji56 := (i64_w _).trans hji56
                                        by_cases c57 : 0 ≤ (ji56)
                                        · rw [if_pos c57] at H
                                          have c57b0 : decide (0 ≤ (ji56)) = true := decide_eq_true c57
                                          clear c57
                                          replace H := Option.bind_eq_some_iff.mp H
                                          obtain ⟨t113, A590, H⟩ := H
                                          replace H : (if t113 ≥ 0 then ((Go.Proofs.Ytjffhhalmicodaa.PA.comfitref08_letter.f (bt a0 (ji56))).bind fun t114 => (if 0 ≤ t114 then (comfitref08_read.j4 kj36 a0 a1 a2 ((Go.bits .and .i64 (shr .i64 a2 t114) 1) == 0)) else (none))) else (comfitref08_read.j4 kj36 a0 a1 a2 false)) = some (r1, r2) := H
                                          have A59 := Aside0.mk A590
                                          clear A590
                                          by_cases c60 : t113 ≥ 0
                                          · rw [if_pos c60] at H
                                            have c60b0 : decide (0 ≤ t113) = true := decide_eq_true c60
                                            clear c60
                                            replace H := Option.bind_eq_some_iff.mp H
                                            obtain ⟨t114, A620, H⟩ := H
                                            replace H : (if 0 ≤ t114 then (comfitref08_read.j4 kj36 a0 a1 a2 ((Go.bits .and .i64 (shr .i64 a2 t114) 1) == 0)) else (none)) = some (r1, r2) := H
                                            have A62 := Aside0.mk A620
                                            clear A620
                                            by_cases c63 : 0 ≤ t114
                                            · rw [if_pos c63] at H
                                              have c63b0 := eq_true c63
                                              have c63b1 : decide (0 ≤ t114) = true := decide_eq_true c63
                                              clear c63
                                              obtain ⟨ji64, hji64⟩ : ∃ j_ : Int, (shr .i64 a2 t114) = j_ := ⟨_, rfl⟩
                                              replace H : (comfitref08_read.j4 kj36 a0 a1 a2 ((Go.bits .and .i64 (ji64) 1) == 0)) = some (r1, r2) := by first | (rw [hji64] at H; exact H) | (simp only [hji64] at H ⊢; exact H)
                                              (try rw [hji64] at A59)
                                              (try rw [hji64] at A62)
                                              have hji64_ : (a2 / 2 ^ min t114.toNat 64) = ji64 := hji64
                                              have hji64z : t114 ≤ 64 → (a2 / 2 ^ t114.toNat) = ji64 := shr_small hji64
                                              have H' := Aside0.mk H
                                              clear H
                                              have p58 : 0 ≤ ((ji56) : Int) := of_decide_eq_true (by first | (with_reducible assumption) | assumption)
                                              have q58 : (ji56) < (a0.size : Int) := of_decide_eq_true (by first | (with_reducible assumption) | assumption)
                                              have hx58 := bt_at a0 (ji56)
                                              replace p58 := eq_true p58
                                              replace q58 := eq_true q58
                                              have e_t114 : t114 = t113 := Option.some.inj (A62.out.symm.trans A59.out)   -- dupfix
                                              (try rw [e_t114] at c44b0)
                                              (try rw [e_t114] at c43b0)
                                              (try rw [e_t114] at c43b1)
                                              (try rw [e_t114] at c54b0)
                                              (try rw [e_t114] at c54b1)
                                              (try rw [e_t114] at c55b0)
                                              (try rw [e_t114] at hji56)
                                              (try rw [e_t114] at hji56w)
                                              (try rw [e_t114] at c57b0)
                                              (try rw [e_t114] at c60b0)
                                              (try rw [e_t114] at c63b0)
                                              (try rw [e_t114] at c63b1)
                                              (try rw [e_t114] at hji64)
                                              (try rw [e_t114] at hji64_)
                                              (try rw [e_t114] at hji64z)
                                              go_wp2_with (first | (go_at_call 60; (with_reducible refine (Go.Proofs.Ytjffhhalmicodaa.PA.comfitref08_letter.calls (bt a0 (ji56)) t113 _ A59.out).mono ?_); rintro e w' ⟨rfl, ⟨nd, rfl⟩⟩; have p61 : 0 ≤ ((ji56) : Int) := of_decide_eq_true (by first | (with_reducible assumption) | assumption); have q61 : (ji56) < (a0.size : Int) := of_decide_eq_true (by first | (with_reducible assumption) | assumption); have hx61 := bt_at a0 (ji56); replace p61 := eq_true p61; replace q61 := eq_true q61) | (go_at_call 60; (with_reducible refine (Go.Proofs.Ytjffhhalmicodaa.PA.comfitref08_letter.calls (bt a0 (ji56)) t114 _ A62.out).mono ?_); rintro e w' ⟨rfl, ⟨nd, rfl⟩⟩))
                                              go_meet
                                              case rel => exact ⟨_, (((Go.bits .and .i64 (ji64) 1) == 0)), (by first | rfl | (simp; done) | (simp only [← hji64] <;> (first | rfl | simp)) | (simp [*]; done)), H', ⟨by have := HJ7.out; have := HJ18.out; have := HJ26.out; have := HJ36.out; first | omega | exact Nat.le_refl _⟩, ⟨by repeat (first | (with_reducible first | exact HB.out | apply below_alloc | apply pw_below_drewN | apply below_drew1) | exact HB.out)⟩⟩
                                            · rw [if_neg c63] at H
                                              exact absurd H (by simp)
                                          · rw [if_neg c60] at H
                                            have c60b0 : decide (0 ≤ t113) = false := decide_eq_false c60
                                            clear c60
                                            have H' := Aside0.mk H
                                            clear H
                                            have p58 : 0 ≤ ((ji56) : Int) := of_decide_eq_true (by first | (with_reducible assumption) | assumption)
                                            have q58 : (ji56) < (a0.size : Int) := of_decide_eq_true (by first | (with_reducible assumption) | assumption)
                                            have hx58 := bt_at a0 (ji56)
                                            replace p58 := eq_true p58
                                            replace q58 := eq_true q58
                                            go_wp2_with (first | (go_at_call 60; (with_reducible refine (Go.Proofs.Ytjffhhalmicodaa.PA.comfitref08_letter.calls (bt a0 (ji56)) t113 _ A59.out).mono ?_); rintro e w' ⟨rfl, ⟨nd, rfl⟩⟩))
                                            go_meet
                                            case rel => exact ⟨_, (false), (by first | rfl | (simp; done) | (simp [*]; done)), H', ⟨by have := HJ7.out; have := HJ18.out; have := HJ26.out; have := HJ36.out; first | omega | exact Nat.le_refl _⟩, ⟨by repeat (first | (with_reducible first | exact HB.out | apply below_alloc | apply pw_below_drewN | apply below_drew1) | exact HB.out)⟩⟩
                                        · rw [if_neg c57] at H
                                          exact absurd H (by simp)
                                      · rw [if_neg c55] at H
                                        have c55b0 : decide ((wrap64 (a1 + 1)) < (a0.size : Int)) = false := decide_eq_false c55
                                        clear c55
                                        have H' := Aside0.mk H
                                        clear H
                                        go_wp2
                                        go_meet
                                        case rel => exact ⟨_, (false), (by first | rfl | (simp; done) | (simp [*]; done)), H', ⟨by have := HJ7.out; have := HJ18.out; have := HJ26.out; have := HJ36.out; first | omega | exact Nat.le_refl _⟩, ⟨by repeat (first | (with_reducible first | exact HB.out | apply below_alloc | apply pw_below_drewN | apply below_drew1) | exact HB.out)⟩⟩
                                    · rw [if_neg c54] at H
                                      have c54b0 : ((bt a0 a1) == 103) = false := beq_eq_false_iff_ne.mpr c54
                                      have c54b1 : ((bt a0 a1) != 103) = true := bne_iff_ne.mpr c54
                                      have H' := Aside0.mk H
                                      clear H
                                      go_wp2
                                      go_meet
                                      case rel => exact ⟨_, (false), (by first | rfl | (simp; done) | (simp [*]; done)), H', ⟨by have := HJ7.out; have := HJ18.out; have := HJ26.out; have := HJ36.out; first | omega | exact Nat.le_refl _⟩, ⟨by repeat (first | (with_reducible first | exact HB.out | apply below_alloc | apply pw_below_drewN | apply below_drew1) | exact HB.out)⟩⟩
                                case rest =>
                                  clear HC42
                                  try clear c1
                                  try clear c2
                                  try clear p2
                                  try clear q2
                                  try clear hx2
                                  try clear c3
                                  try clear c4
                                  try clear c4b0
                                  try clear p4
                                  try clear q4
                                  try clear hx4
                                  try clear c5
                                  try clear c5b0
                                  try clear p5
                                  try clear q5
                                  try clear hx5
                                  try clear c6
                                  try clear c6b0
                                  try clear p6
                                  try clear q6
                                  try clear hx6
                                  try clear p7
                                  try clear q7
                                  try clear hx7
                                  try clear c10
                                  try clear c10b0
                                  try clear c11
                                  try clear c11b0
                                  try clear c11b1
                                  try clear c12
                                  try clear c12b0
                                  try clear c12b1
                                  try clear c14
                                  try clear c14b0
                                  try clear c16
                                  try clear c16b0
                                  try clear c16b1
                                  try clear c18
                                  try clear c20
                                  try clear c20b0
                                  try clear c20b1
                                  try clear c21
                                  try clear c21b0
                                  try clear c23
                                  try clear c23b0
                                  try clear p24
                                  try clear q24
                                  try clear hx24
                                  try clear c26
                                  try clear c28
                                  try clear c28b0
                                  try clear c28b1
                                  try clear c29
                                  try clear c31
                                  try clear c31b0
                                  try clear c38
                                  try clear c38b0
                                  try clear c38b1
                                  try clear c39
                                  try clear c43
                                  try clear c43b0
                                  try clear c43b1
                                  try clear c44
                                  try clear c44b0
                                  try clear c46
                                  try clear c46b0
                                  try clear p47
                                  try clear q47
                                  try clear hx47
                                  try clear c49
                                  try clear c49b0
                                  try clear c50
                                  try clear p50
                                  try clear q50
                                  try clear hx50
                                  try clear c52
                                  try clear c52b0
                                  try clear c52b1
                                  try clear c54
                                  try clear c54b0
                                  try clear c54b1
                                  try clear c55
                                  try clear c55b0
                                  try clear c57
                                  try clear c57b0
                                  try clear p58
                                  try clear q58
                                  try clear hx58
                                  try clear c60
                                  try clear c60b0
                                  try clear p61
                                  try clear q61
                                  try clear hx61
                                  try clear c63
                                  try clear c63b0
                                  try clear c63b1
                                  try clear p64
                                  try clear p2
                                  try clear p24
                                  try clear p47
                                  try clear p50
                                  try clear p58
                                  try clear p6
                                  try clear p61
                                  try clear p7
                                  try clear q2
                                  try clear q24
                                  try clear q47
                                  try clear q50
                                  try clear q58
                                  try clear q61
                                  try clear q7
                                  obtain ⟨kq, x115_41, rfl, HA, HJ41, HB⟩ := hcut
                                  cases kq with
                                  | zero => exact absurd HA.out (by simp [comfitref08_read.j4])
                                  | succ kj41 =>
                                    have H := HA.out
                                    clear HA
                                    simp only [comfitref08_read.j4] at H
                                    by_cases c65 : x115_41 = true
                                    · subst c65
                                      have H1 : (if 0 ≤ (wrap64 (a1 + 1)) then (if (wrap64 (a1 + 1)) < (a0.size : Int) then ((Go.Proofs.Ytjffhhalmicodaa.PA.comfitref08_letter.f (bt a0 (wrap64 (a1 + 1)))).bind fun t115 => (if 0 ≤ t115 then ((comfitref08_read.f kj41 a0 (wrap64 (a1 + 2)) (Go.bits .or .i64 a2 (shl .i64 1 t115))).bind fun bt116 => (some (bt116.1, bt116.2))) else (none))) else (none)) else (none)) = some (r1, r2) := by rw [if_pos rfl] at H; exact H
                                      clear H
                                      have H := H1
                                      clear H1
                                      obtain ⟨ji66, hji66⟩ : ∃ j_ : Int, (wrap64 (a1 + 1)) = j_ := ⟨_, rfl⟩
                                      replace H : (if 0 ≤ (ji66) then (if (ji66) < (a0.size : Int) then ((Go.Proofs.Ytjffhhalmicodaa.PA.comfitref08_letter.f (bt a0 (ji66))).bind fun t115 => (if 0 ≤ t115 then ((comfitref08_read.f kj41 a0 (wrap64 (a1 + 2)) (Go.bits .or .i64 a2 (shl .i64 1 t115))).bind fun bt116 => (some (bt116.1, bt116.2))) else (none))) else (none)) else (none)) = some (r1, r2) := by first | (rw [hji66] at H; exact H) | (simp only [hji66] at H ⊢; exact H)
                                      have hji66w : (IntKind.i64.wrap (a1 + 1)) = ji66 := (i64_w _).trans hji66
                                      by_cases c67 : 0 ≤ (ji66)
                                      · rw [if_pos c67] at H
                                        have c67b0 : decide (0 ≤ (ji66)) = true := decide_eq_true c67
                                        clear c67
                                        by_cases c68 : (ji66) < (a0.size : Int)
                                        · rw [if_pos c68] at H
                                          have c68b0 : decide ((ji66) < (a0.size : Int)) = true := decide_eq_true c68
                                          clear c68
                                          replace H := Option.bind_eq_some_iff.mp H
                                          obtain ⟨t115, A700, H⟩ := H
                                          replace H : (if 0 ≤ t115 then ((comfitref08_read.f kj41 a0 (wrap64 (a1 + 2)) (Go.bits .or .i64 a2 (shl .i64 1 t115))).bind fun bt116 => (some (bt116.1, bt116.2))) else (none)) = some (r1, r2) := H
                                          have A70 := Aside0.mk A700
                                          clear A700
                                          by_cases c71 : 0 ≤ t115
                                          · rw [if_pos c71] at H
                                            have c71b0 := eq_true c71
                                            have c71b1 : decide (0 ≤ t115) = true := decide_eq_true c71
                                            clear c71
                                            obtain ⟨ji72, hji72⟩ : ∃ j_ : Int, (shl .i64 1 t115) = j_ := ⟨_, rfl⟩
                                            replace H : ((comfitref08_read.f kj41 a0 (wrap64 (a1 + 2)) (Go.bits .or .i64 a2 (ji72))).bind fun bt116 => (some (bt116.1, bt116.2))) = some (r1, r2) := by first | (rw [hji72] at H; exact H) | (simp only [hji72] at H ⊢; exact H)
                                            (try rw [hji72] at A70)
                                            have hji72_ : (IntKind.i64.wrap (1 * 2 ^ min t115.toNat 64)) = ji72 := hji72
                                            have hji72z : t115 ≤ 64 → (IntKind.i64.wrap (1 * 2 ^ t115.toNat)) = ji72 := shl_small hji72
                                            have hji72u : (IntKind.i64.wrap (2 ^ min t115.toNat 64)) = ji72 := by have h_ := hji72_; rw [Int.one_mul] at h_; exact h_
                                            have hji72v : t115 ≤ 64 → (IntKind.i64.wrap (2 ^ t115.toNat)) = ji72 := fun hle_ => by have h_ := hji72z hle_; rw [Int.one_mul] at h_; exact h_
                                            have hji72y : (wrap64 (1 * 2 ^ min t115.toNat 64)) = ji72 := (i64_w _).symm.trans hji72_
                                            have hji72x : t115 ≤ 64 → (wrap64 (1 * 2 ^ t115.toNat)) = ji72 := fun h_ => (i64_w _).symm.trans (hji72z h_)
                                            replace H := Option.bind_eq_some_iff.mp H
                                            obtain ⟨⟨t116, t117⟩, A730, H⟩ := H
                                            replace H : (some (t116, t117)) = some (r1, r2) := H
                                            have A73 := Aside0.mk A730
                                            clear A730
                                            simp only [Option.some.injEq, Prod.mk.injEq] at H
                                            obtain ⟨rfl, rfl⟩ := H
                                            have p69 : 0 ≤ ((ji66) : Int) := of_decide_eq_true (by first | (with_reducible assumption) | assumption)
                                            have q69 : (ji66) < (a0.size : Int) := of_decide_eq_true (by first | (with_reducible assumption) | assumption)
                                            have hx69 := bt_at a0 (ji66)
                                            replace p69 := eq_true p69
                                            replace q69 := eq_true q69
                                            go_wp2_with (first | ((with_reducible refine gate_callee (f := 60) rfl ?_); refine goesL_ (some 156) rfl rfl Try.func60 (by kernel_rfl) rfl #[.int .u8 (bt a0 (ji66))] rfl (by (try simp only [List.map_toArray, List.map_cons, List.map_nil]); first | done | (simp only [hji66]; rfl) | rfl | (simp only [List.length_drop, List.length_take]; rfl)) ?_; (with_reducible refine (Go.Proofs.Ytjffhhalmicodaa.PA.comfitref08_letter.calls (bt a0 (ji66)) t115 _ A70.out).mono ?_); rintro e w' ⟨rfl, ⟨nd, rfl⟩⟩; refine ⟨_, rfl, ?_⟩) | ((with_reducible refine gate_callee (f := 50) rfl ?_); refine goesL_ (some 159) rfl rfl Try.func50 (by kernel_rfl) rfl #[.string a0, .int .i64 (wrap64 (a1 + 2)), .int .i64 (Go.bits .or .i64 a2 (ji72))] rfl (by (try simp only [List.map_toArray, List.map_cons, List.map_nil]); first | done | (simp only [hji72]; rfl) | rfl | (simp only [List.length_drop, List.length_take]; rfl)) ?_; (with_reducible refine (ih kj41 (by have := HJ7.out; have := HJ18.out; have := HJ26.out; have := HJ36.out; have := HJ41.out; omega) a0 (wrap64 (a1 + 2)) (Go.bits .or .i64 a2 (ji72)) t116 t117 _ A73.out).mono ?_); rintro e w74 ⟨rfl, hb⟩; refine ⟨_, rfl, ?_⟩; have n0_ := Aside0.mk (below_step (by repeat (first | (with_reducible first | exact HB.out | apply below_alloc | apply pw_below_drewN | apply below_drew1) | exact HB.out)) hb); clear HB; have HB := n0_; clear n0_; (try clear hb); (try clear hb2); (try clear hk); (try clear hi)))
                                            go_ret2
                                            exact ⟨by first | rfl | (simp [errW_none, errW_some] <;> rfl) | (simp only [← hji66, ← hji72]; first | rfl | (simp [errW_none, errW_some] <;> rfl)) | (simp [*, errW_none, errW_some] <;> rfl), by repeat (first | (with_reducible first | exact HB.out | apply below_alloc | apply pw_below_drewN | apply below_drew1) | exact HB.out)⟩
                                          · rw [if_neg c71] at H
                                            exact absurd H (by simp)
                                        · rw [if_neg c68] at H
                                          exact absurd H (by simp)
                                      · rw [if_neg c67] at H
                                        exact absurd H (by simp)
                                    · replace c65 := Bool.eq_false_iff.mpr c65
                                      subst c65
                                      have H1 : (some ((-1), 0)) = some (r1, r2) := by rw [if_neg (show ¬ (false = true) by decide)] at H; exact H
                                      clear H
                                      have H := H1
                                      clear H1
                                      simp only [Option.some.injEq, Prod.mk.injEq] at H
                                      obtain ⟨rfl, rfl⟩ := H
                                      go_wp2
                                      go_ret2
                                      exact ⟨by first | rfl | (simp [errW_none, errW_some] <;> rfl) | (simp [*, errW_none, errW_some] <;> rfl), by repeat (first | (with_reducible first | exact HB.out | apply below_alloc | apply pw_below_drewN | apply below_drew1) | exact HB.out)⟩
      · rw [if_neg c6] at H
        exact absurd H (by simp)
    · rw [if_neg c5] at H
      exact absurd H (by simp)

end Go.Proofs.Ytjffhhalmicodaa.PB
