/- Texts of this claim, merged by a program (wip/tools/shake.py); what nothing names is left out. -/
import Derived.Test.YtjffhhalmicodaaProg
import Derived.Below
import Derived.Deep.Draws
import Derived.Deep.AppendLies
import Derived.Maps.AppendAt
import Derived.OwnWalk
import Derived.Laws.BytesArg
import Derived.Laws.MakeOwn
import Derived.Laws.OwnMore
import Derived.Deep.OwnRows
import Derived.Tactics
import Derived.Lib.ConvBytes
import Derived.Laws.Slices
import Derived.WalkKit
import Derived.KernelRfl
import Derived.RowKit3
import Derived.Deep.LoopGhost
import Derived.Deep.QuietTactic
import Derived.BigQuiet
import Derived.WideLaws
import Derived.Deep.DeepCutAuto
import Derived.Deep.CutBlock
import Derived.Deep.RegionHeld3
import Derived.Laws.Rows
import Derived.Lib.AppendStr
import Derived.ArgAppend
import Derived.Laws.IdiomCopy
import Derived.OrdersHeld
import Derived.Laws.BitsLemmas
import Derived.RowKit
import Derived.Test.YtjffhhalmicodaaSqd
section
namespace Go.Proofs.Ytjffhhalmicodaa.PB
open Go.RowKit Go.Proofs.YtjffhhalmicodaaW.PrintWords Go.Proofs.YtjffhhalmicodaaW.PrintLast Go.Proofs.YtjffhhalmicodaaW.PrintMore
attribute [local go_sem] max2_int min2_int max_two min_two max_three min_three max_four min_four
set_option linter.unusedVariables false
set_option linter.unusedSimpArgs false
mutual
def comfitref08_Valid.j0 : Nat → Int → Bool → List Int → List Int → Option (Bool)
  | 0, _, _, _, _ => none
  | k + 1, x3, x21, x121000, x121001 => if x21 = true then (some false) else (comfitref08_Valid.l0 k x3 x121000 (x121000.length : Int) 0 x121000 x121001)
def comfitref08_Valid.l0 : Nat → Int → List Int → Int → Int → List Int → List Int → Option (Bool)
  | 0, _, _, _, _, _, _ => none
  | k + 1, x3, x23, x24, x25, x121000, x121001 => if x25 < x24 then (if 0 ≤ x25 then (if x25 < (x23.length : Int) then (if (rd x23 x25) < 0 then (some false) else (if 0 ≤ x3 then (if (rd x23 x25) ≥ (shl .i64 1 x3) then (some false) else (if x25 < (x121001.length : Int) then (if (rd x121001 x25) < 0 then (some false) else (if (rd x121001 x25) > 15 then (some false) else (comfitref08_Valid.l0 k x3 x23 x24 (wrap64 (x25 + 1)) x121000 x121001))) else (none))) else (none))) else (none)) else (none)) else (some true)
end
def comfitref08_Valid.f (k : Nat) (l0_0 : List Int) (l0_1 : List Int) : Option (Bool) := if (l0_0.length : Int) < 1 then (comfitref08_Valid.j0 k (l0_0.length : Int) true l0_0 l0_1) else (if (l0_0.length : Int) > 6 then (comfitref08_Valid.j0 k (l0_0.length : Int) true l0_0 l0_1) else (comfitref08_Valid.j0 k (l0_0.length : Int) ((l0_1.length : Int) != (l0_0.length : Int)) l0_0 l0_1))
theorem comfitref08_Valid.mono_l : ∀ k, (∀ y0 y1 y2 y3, LeO (comfitref08_Valid.j0 k y0 y1 y2 y3) (comfitref08_Valid.j0 (k + 1) y0 y1 y2 y3)) ∧ (∀ y0 y1 y2 y3 y4 y5, LeO (comfitref08_Valid.l0 k y0 y1 y2 y3 y4 y5) (comfitref08_Valid.l0 (k + 1) y0 y1 y2 y3 y4 y5))
  | 0 => ⟨fun _ _ _ _ r h => by simp [comfitref08_Valid.j0] at h, fun _ _ _ _ _ _ r h => by simp [comfitref08_Valid.l0] at h⟩
  | k + 1 => by
    obtain ⟨ih0, ih1⟩ := comfitref08_Valid.mono_l k
    refine ⟨?_, ?_⟩
    · intro y0 y1 y2 y3
      unfold comfitref08_Valid.j0
      repeat' first
      | (with_reducible exact ih0 _ _ _ _)
      | (with_reducible exact ih1 _ _ _ _ _ _)
      | (with_reducible exact LeO.refl _)
      | (with_reducible exact LeO.none _)
      | (with_reducible refine LeO.ite ?_ ?_)
      | (with_reducible refine LeO.bind ?_ (fun _ => ?_))
      | exact ih0 _ _ _ _
      | exact ih1 _ _ _ _ _ _
      | exact LeO.none _
      | refine LeO.ite ?_ ?_
      | refine LeO.bind ?_ (fun _ => ?_)
    · intro y0 y1 y2 y3 y4 y5
      unfold comfitref08_Valid.l0
      repeat' first
      | (with_reducible exact ih0 _ _ _ _)
      | (with_reducible exact ih1 _ _ _ _ _ _)
      | (with_reducible exact LeO.refl _)
      | (with_reducible exact LeO.none _)
      | (with_reducible refine LeO.ite ?_ ?_)
      | (with_reducible refine LeO.bind ?_ (fun _ => ?_))
      | exact ih0 _ _ _ _
      | exact ih1 _ _ _ _ _ _
      | exact LeO.none _
      | refine LeO.ite ?_ ?_
      | refine LeO.bind ?_ (fun _ => ?_)
theorem comfitref08_Valid.mono : ∀ a0 a1 k, LeO (comfitref08_Valid.f k a0 a1) (comfitref08_Valid.f (k + 1) a0 a1) := by
  intro a0 a1 k
  obtain ⟨ih0, ih1⟩ := comfitref08_Valid.mono_l k
  unfold comfitref08_Valid.f
  repeat' first
      | (with_reducible exact ih0 _ _ _ _)
      | (with_reducible exact ih1 _ _ _ _ _ _)
      | (with_reducible exact LeO.refl _)
      | (with_reducible exact LeO.none _)
      | (with_reducible refine LeO.ite ?_ ?_)
      | (with_reducible refine LeO.bind ?_ (fun _ => ?_))
      | exact ih0 _ _ _ _
      | exact ih1 _ _ _ _ _ _
      | exact LeO.none _
      | refine LeO.ite ?_ ?_
      | refine LeO.bind ?_ (fun _ => ?_)
set_option maxHeartbeats 8000000 in
set_option maxRecDepth 100000 in
theorem comfitref08_Valid.calls (k : Nat) (A0_0 : Option Addr) (c0_0 : Nat) (l0_0 : List Int) (A0_1 : Option Addr) (c0_1 : Nat) (l0_1 : List Int) (r : Bool) (w : World) (hr0_0 : Kd.C (Kd.int .i64) w A0_0 l0_0.length l0_0) (hc0_0 : l0_0.length ≤ c0_0) (hr0_1 : Kd.C (Kd.int .i64) w A0_1 l0_1.length l0_1) (hc0_1 : l0_1.length ≤ c0_1) (h : comfitref08_Valid.f k l0_0 l0_1 = some r) :
    Calls Try.prog 21 #[.agg #[.slice A0_0 l0_0.length c0_0, .slice A0_1 l0_1.length c0_1]] w fun e w' => e = .returned (.bool r) ∧ Below w.heap.size w w' := by
  have hu24 := Try.underlying24
  have HR0_0 := Aside0.mk hr0_0
  have HC0_0 := Aside0.mk hc0_0
  clear hr0_0 hc0_0
  have HR0_1 := Aside0.mk hr0_1
  have HC0_1 := Aside0.mk hc0_1
  clear hr0_1 hc0_1
  have HB := Aside0.mk (Below.refl w.heap.size w)
  have H : (if (l0_0.length : Int) < 1 then (comfitref08_Valid.j0 k (l0_0.length : Int) true l0_0 l0_1) else (if (l0_0.length : Int) > 6 then (comfitref08_Valid.j0 k (l0_0.length : Int) true l0_0 l0_1) else (comfitref08_Valid.j0 k (l0_0.length : Int) ((l0_1.length : Int) != (l0_0.length : Int)) l0_0 l0_1))) = some r := h
  clear h
  have HC2 := Aside0.mk H
  clear H
  go_enter Try.func21, Try.ntmps21
  go_upto_region 2 with (first | ((with_reducible refine gate_dst (N := 1) rfl ?_); (try (refine gate_guard (by rfl) ?_; dsimp only)); refine box_event ?hg (N := 1) ?hd (cs := #[.slice A0_0 l0_0.length c0_0, .slice A0_1 l0_1.length c0_1]) (t := 24) ?hr ?_; (case hd => rfl); (case hg => rfl); (case hr => first | (go_simp; done) | (go_simp; rfl)); intro gb120 hg w3 hbox hb; have n0_ := Aside0.mk (below_step (by repeat (first | (with_reducible first | exact HB.out | apply below_alloc | apply pw_below_drewN | apply below_drew1) | exact HB.out)) hb); have n1_ := Aside0.mk (hbox); have n2_ := Aside0.mk ((by rw [hg]; exact (below_size (by repeat (first | (with_reducible first | exact HB.out | apply below_alloc | apply pw_below_drewN | apply below_drew1) | exact HB.out))) : w.heap.size ≤ gb120)); have n3_ := Aside0.mk ((by rw [hg]; exact (below_size (by repeat (first | (with_reducible first | exact HB.out | apply below_alloc | apply pw_below_drewN | apply below_drew1) | exact HB.out))) : w.heap.size ≤ gb120)); clear HB; have HB := n0_; have BK120 := n1_; have GW120 := n2_; have GE120 := n3_; clear n0_ n1_ n2_ n3_; clear hb hbox hg; have hcz4_0 : w3.cell? ⟨gb120, 0, none⟩ = some (.slice A0_0 l0_0.length c0_0) := (blk_cell BK120.out 0).trans rfl; have hcz4_1 : w3.cell? ⟨gb120, 1, none⟩ = some (.slice A0_1 l0_1.length c0_1) := (blk_cell BK120.out 1).trans rfl; have hfz4_0 := blk_frozen BK120.out 0; have hfz4_1 := blk_frozen BK120.out 1))
  (try simp only [Act.put, List.setIfInBounds_toArray, List.set_cons_zero, List.set_cons_succ])
  go_cut [21] (fun v21 wc => ∃ (kq : Nat) (x21_1 : Bool), v21 = .bool x21_1 ∧ Aside0 (comfitref08_Valid.j0 kq (l0_0.length : Int) x21_1 l0_0 l0_1 = some r) ∧ Aside0 (kq ≤ k) ∧ Aside0 (wc.heap[gb120]? = some (.cells #[(.slice A0_0 l0_0.length c0_0), (.slice A0_1 l0_1.length c0_1)] 24 (0, 0))) ∧ Aside0 (Below w.heap.size w wc))
  case first =>
    have H := HC2.out
    clear HC2
    by_cases c5 : (l0_0.length : Int) < 1
    · rw [if_pos c5] at H
      have c5b0 : decide ((l0_0.length : Int) < 1) = true := decide_eq_true c5
      have c5b1 : decide (l0_0.length < 1) = true := decide_eq_true (by omega)
      clear c5
      (first | rw [c5b0] | (simp only [i64_w, i32_w]; rw [c5b0]) | skip)
      have H' := Aside0.mk H
      clear H
      go_wp2
      go_meet
      case rel => exact ⟨_, (true), (by first | rfl | (simp; done) | (simp [*]; done)), H', ⟨by first | omega | exact Nat.le_refl _⟩, ⟨by (with_reducible repeat (first | refine blk_drewN ?_ _ | refine blk_drew ?_ | refine blk_alloc ?_ _)); exact BK120.out⟩, ⟨by repeat (first | (with_reducible first | exact HB.out | apply below_alloc | apply pw_below_drewN | apply below_drew1 | refine below_set ?_ GE120.out) | exact HB.out)⟩⟩
    · rw [if_neg c5] at H
      have c5b0 : decide ((l0_0.length : Int) < 1) = false := decide_eq_false c5
      have c5b1 : decide (l0_0.length < 1) = false := decide_eq_false (by omega)
      clear c5
      (first | rw [c5b0] | (simp only [i64_w, i32_w]; rw [c5b0]) | skip)
      by_cases c6 : (l0_0.length : Int) > 6
      · rw [if_pos c6] at H
        have c6b0 : decide (6 < (l0_0.length : Int)) = true := decide_eq_true c6
        have c6b1 : decide (6 < l0_0.length) = true := decide_eq_true (by omega)
        clear c6
        have H' := Aside0.mk H
        clear H
        go_wp2
        go_meet
        case rel => exact ⟨_, (true), (by first | rfl | (simp; done) | (simp [*]; done)), H', ⟨by first | omega | exact Nat.le_refl _⟩, ⟨by (with_reducible repeat (first | refine blk_drewN ?_ _ | refine blk_drew ?_ | refine blk_alloc ?_ _)); exact BK120.out⟩, ⟨by repeat (first | (with_reducible first | exact HB.out | apply below_alloc | apply pw_below_drewN | apply below_drew1 | refine below_set ?_ GE120.out) | exact HB.out)⟩⟩
      · rw [if_neg c6] at H
        have c6b0 : decide (6 < (l0_0.length : Int)) = false := decide_eq_false c6
        have c6b1 : decide (6 < l0_0.length) = false := decide_eq_false (by omega)
        clear c6
        have H' := Aside0.mk H
        clear H
        have hcz7_0 : w3.cell? ⟨gb120, 0, none⟩ = some (.slice A0_0 l0_0.length c0_0) := (blk_cell BK120.out 0).trans rfl
        have hcz7_1 : w3.cell? ⟨gb120, 1, none⟩ = some (.slice A0_1 l0_1.length c0_1) := (blk_cell BK120.out 1).trans rfl
        have hfz7_0 := blk_frozen BK120.out 0
        have hfz7_1 := blk_frozen BK120.out 1
        go_wp2
        go_meet
        case rel => exact ⟨_, (((l0_1.length : Int) != (l0_0.length : Int))), (by first | rfl | (simp; done) | (simp [*]; done)), H', ⟨by first | omega | exact Nat.le_refl _⟩, ⟨by (with_reducible repeat (first | refine blk_drewN ?_ _ | refine blk_drew ?_ | refine blk_alloc ?_ _)); exact BK120.out⟩, ⟨by repeat (first | (with_reducible first | exact HB.out | apply below_alloc | apply pw_below_drewN | apply below_drew1 | refine below_set ?_ GE120.out) | exact HB.out)⟩⟩
  case rest =>
    clear HC2
    try clear c2
    try clear p2
    try clear c5
    try clear c5b0
    try clear c5b1
    try clear c6
    try clear c6b0
    try clear c6b1
    try clear hcz4_0
    try clear hcz4_1
    try clear hcz7_0
    try clear hcz7_1
    try clear hfz4_0
    try clear hfz4_1
    try clear hfz7_0
    try clear hfz7_1
    obtain ⟨kq, x21_1, rfl, HA, HJ1, BK120, HB⟩ := hcut
    cases kq with
    | zero => exact absurd HA.out (by simp [comfitref08_Valid.j0])
    | succ kj1 =>
      have H := HA.out
      clear HA
      simp only [comfitref08_Valid.j0] at H
      by_cases c8 : x21_1 = true
      · subst c8
        have H1 : (some false) = some r := by rw [if_pos rfl] at H; exact H
        clear H
        have H := H1
        clear H1
        obtain rfl := Option.some.inj H
        go_wp2
        go_ret
        exact ⟨by first | rfl | (simp [errW_none, errW_some] <;> rfl) | (simp [*, errW_none, errW_some] <;> rfl), by repeat (first | (with_reducible first | exact HB.out | apply below_alloc | apply pw_below_drewN | apply below_drew1 | refine below_set ?_ GE120.out) | exact HB.out)⟩
      · replace c8 := Bool.eq_false_iff.mpr c8
        subst c8
        have H1 : (comfitref08_Valid.l0 kj1 (l0_0.length : Int) l0_0 (l0_0.length : Int) 0 l0_0 l0_1) = some r := by rw [if_neg (show ¬ (false = true) by decide)] at H; exact H
        clear H
        have H := H1
        clear H1
        have H' := Aside0.mk H
        clear H
        have hcz9_0 : wc.cell? ⟨gb120, 0, none⟩ = some (.slice A0_0 l0_0.length c0_0) := (blk_cell BK120.out 0).trans rfl
        have hcz9_1 : wc.cell? ⟨gb120, 1, none⟩ = some (.slice A0_1 l0_1.length c0_1) := (blk_cell BK120.out 1).trans rfl
        have hfz9_0 := blk_frozen BK120.out 0
        have hfz9_1 := blk_frozen BK120.out 1
        go_wp2
        go_loopg [25] kj1 (fun kq v25 w' => ∃ (x25_2 : Int), v25 = .int .i64 x25_2 ∧ Aside0 (comfitref08_Valid.l0 kq (l0_0.length : Int) l0_0 (l0_0.length : Int) x25_2 l0_0 l0_1 = some r) ∧ Aside0 (kq ≤ kj1) ∧ Aside0 (w'.heap[gb120]? = some (.cells #[(.slice A0_0 l0_0.length c0_0), (.slice A0_1 l0_1.length c0_1)] 24 (0, 0))) ∧ Aside0 (Below w.heap.size w w'))
        case atStart => exact ⟨(0), (by first | rfl | (simp; done) | (simp [*]; done)), H', ⟨Nat.le_refl _⟩, ⟨by (with_reducible repeat (first | refine blk_drewN ?_ _ | refine blk_drew ?_ | refine blk_alloc ?_ _)); exact BK120.out⟩, ⟨by repeat (first | (with_reducible first | exact HB.out | apply below_alloc | apply pw_below_drewN | apply below_drew1 | refine below_set ?_ GE120.out) | exact HB.out)⟩⟩
        case round =>
          clear H'
          try clear c2
          try clear p2
          try clear c5
          try clear c5b0
          try clear c5b1
          try clear c6
          try clear c6b0
          try clear c6b1
          try clear c8
          try clear hcz4_0
          try clear hcz4_1
          try clear hcz7_0
          try clear hcz7_1
          try clear hcz9_0
          try clear hcz9_1
          try clear hfz4_0
          try clear hfz4_1
          try clear hfz7_0
          try clear hfz7_1
          try clear hfz9_0
          try clear hfz9_1
          try clear p2
          obtain ⟨x25_2, rfl, HA, HK2, BK120, HB⟩ := hrel
          cases gk with
          | zero => exact absurd HA.out (by simp [comfitref08_Valid.l0])
          | succ k2 =>
            have H := HA.out
            clear HA
            simp only [comfitref08_Valid.l0] at H
            by_cases c10 : x25_2 < (l0_0.length : Int)
            · rw [if_pos c10] at H
              have c10b0 : decide (x25_2 < (l0_0.length : Int)) = true := decide_eq_true c10
              clear c10
              by_cases c11 : 0 ≤ x25_2
              · rw [if_pos c11] at H
                have c11b0 : decide (0 ≤ x25_2) = true := decide_eq_true c11
                clear c11
                by_cases c12 : x25_2 < (l0_0.length : Int)
                · rw [if_pos c12] at H
                  have c12b0 : decide (x25_2 < (l0_0.length : Int)) = true := decide_eq_true c12
                  clear c12
                  by_cases c13 : (rd l0_0 x25_2) < 0
                  · rw [if_pos c13] at H
                    have c13b0 : decide ((rd l0_0 x25_2) < 0) = true := decide_eq_true c13
                    clear c13
                    obtain rfl := Option.some.inj H
                    have p121 : 0 ≤ (x25_2 : Int) := of_decide_eq_true (by first | (with_reducible assumption) | assumption)
                    have q121 : x25_2 < (l0_0.length : Int) := of_decide_eq_true (by first | (with_reducible assumption) | assumption)
                    obtain ⟨ad121, e121, hx121_0⟩ := Kd.at_int HR0_0.out x25_2 p121 q121
                    cases e121
                    replace hx121_0 := (HB.out.cell (World.block_lt_of_cell? w _ hx121_0)).trans hx121_0
                    replace p121 := eq_true p121
                    replace q121 := eq_true q121
                    go_wp2
                    go_ret
                    exact ⟨by first | rfl | (simp [errW_none, errW_some] <;> rfl) | (simp [*, errW_none, errW_some] <;> rfl), by repeat (first | (with_reducible first | exact HB.out | apply below_alloc | apply pw_below_drewN | apply below_drew1 | refine below_set ?_ GE120.out) | exact HB.out)⟩
                  · rw [if_neg c13] at H
                    have c13b0 : decide ((rd l0_0 x25_2) < 0) = false := decide_eq_false c13
                    clear c13
                    by_cases c14 : 0 ≤ (l0_0.length : Int)
                    · rw [if_pos c14] at H
                      have c14b0 := eq_true c14
                      have c14b1 : decide (0 ≤ (l0_0.length : Int)) = true := decide_eq_true c14
                      clear c14
                      obtain ⟨ji15, hji15⟩ : ∃ j_ : Int, (shl .i64 1 (l0_0.length : Int)) = j_ := ⟨_, rfl⟩
                      replace H : (if (rd l0_0 x25_2) ≥ (ji15) then (some false) else (if x25_2 < (l0_1.length : Int) then (if (rd l0_1 x25_2) < 0 then (some false) else (if (rd l0_1 x25_2) > 15 then (some false) else (comfitref08_Valid.l0 k2 (l0_0.length : Int) l0_0 (l0_0.length : Int) (wrap64 (x25_2 + 1)) l0_0 l0_1))) else (none))) = some r := by first | (rw [hji15] at H; exact H) | (simp only [hji15] at H ⊢; exact H)
                      have hji15_ : (IntKind.i64.wrap (1 * 2 ^ min (l0_0.length : Int).toNat 64)) = ji15 := hji15
                      have hji15z : (l0_0.length : Int) ≤ 64 → (IntKind.i64.wrap (1 * 2 ^ (l0_0.length : Int).toNat)) = ji15 := shl_small hji15
                      have hji15p : (IntKind.i64.wrap (1 * 2 ^ min l0_0.length 64)) = ji15 := hji15_
                      have hji15q : (l0_0.length : Int) ≤ 64 → (IntKind.i64.wrap (1 * 2 ^ l0_0.length)) = ji15 := hji15z
                      have hji15r : (IntKind.i64.wrap (2 ^ min l0_0.length 64)) = ji15 := by have h_ := hji15p; rw [Int.one_mul] at h_; exact h_
                      have hji15s : (l0_0.length : Int) ≤ 64 → (IntKind.i64.wrap (2 ^ l0_0.length)) = ji15 := fun hle_ => by have h_ := hji15q hle_; rw [Int.one_mul] at h_; exact h_
                      have hji15u : (IntKind.i64.wrap (2 ^ min (l0_0.length : Int).toNat 64)) = ji15 := by have h_ := hji15_; rw [Int.one_mul] at h_; exact h_
                      have hji15v : (l0_0.length : Int) ≤ 64 → (IntKind.i64.wrap (2 ^ (l0_0.length : Int).toNat)) = ji15 := fun hle_ => by have h_ := hji15z hle_; rw [Int.one_mul] at h_; exact h_
                      have hji15y : (wrap64 (1 * 2 ^ min (l0_0.length : Int).toNat 64)) = ji15 := (i64_w _).symm.trans hji15_
                      have hji15x : (l0_0.length : Int) ≤ 64 → (wrap64 (1 * 2 ^ (l0_0.length : Int).toNat)) = ji15 := fun h_ => (i64_w _).symm.trans (hji15z h_)
                      by_cases c16 : (rd l0_0 x25_2) ≥ (ji15)
                      · rw [if_pos c16] at H
                        have c16b0 : decide ((ji15) ≤ (rd l0_0 x25_2)) = true := decide_eq_true c16
                        clear c16
                        obtain rfl := Option.some.inj H
                        have p121 : 0 ≤ (x25_2 : Int) := of_decide_eq_true (by first | (with_reducible assumption) | assumption)
                        have q121 : x25_2 < (l0_0.length : Int) := of_decide_eq_true (by first | (with_reducible assumption) | assumption)
                        obtain ⟨ad121, e121, hx121_0⟩ := Kd.at_int HR0_0.out x25_2 p121 q121
                        cases e121
                        replace hx121_0 := (HB.out.cell (World.block_lt_of_cell? w _ hx121_0)).trans hx121_0
                        replace p121 := eq_true p121
                        replace q121 := eq_true q121
                        go_wp2
                        go_ret
                        exact ⟨by first | rfl | (simp [errW_none, errW_some] <;> rfl) | (simp only [← hji15]; first | rfl | (simp [errW_none, errW_some] <;> rfl)) | (simp [*, errW_none, errW_some] <;> rfl), by repeat (first | (with_reducible first | exact HB.out | apply below_alloc | apply pw_below_drewN | apply below_drew1 | refine below_set ?_ GE120.out) | exact HB.out)⟩
                      · rw [if_neg c16] at H
                        have c16b0 : decide ((ji15) ≤ (rd l0_0 x25_2)) = false := decide_eq_false c16
                        clear c16
                        by_cases c17 : x25_2 < (l0_1.length : Int)
                        · rw [if_pos c17] at H
                          have c17b0 : decide (x25_2 < (l0_1.length : Int)) = true := decide_eq_true c17
                          clear c17
                          by_cases c18 : (rd l0_1 x25_2) < 0
                          · rw [if_pos c18] at H
                            have c18b0 : decide ((rd l0_1 x25_2) < 0) = true := decide_eq_true c18
                            clear c18
                            obtain rfl := Option.some.inj H
                            have p121 : 0 ≤ (x25_2 : Int) := of_decide_eq_true (by first | (with_reducible assumption) | assumption)
                            have q121 : x25_2 < (l0_0.length : Int) := of_decide_eq_true (by first | (with_reducible assumption) | assumption)
                            obtain ⟨ad121, e121, hx121_0⟩ := Kd.at_int HR0_0.out x25_2 p121 q121
                            cases e121
                            replace hx121_0 := (HB.out.cell (World.block_lt_of_cell? w _ hx121_0)).trans hx121_0
                            replace p121 := eq_true p121
                            replace q121 := eq_true q121
                            have hcz19_0 : wr.cell? ⟨gb120, 0, none⟩ = some (.slice (some ad121) l0_0.length c0_0) := (blk_cell BK120.out 0).trans rfl
                            have hcz19_1 : wr.cell? ⟨gb120, 1, none⟩ = some (.slice A0_1 l0_1.length c0_1) := (blk_cell BK120.out 1).trans rfl
                            have hfz19_0 := blk_frozen BK120.out 0
                            have hfz19_1 := blk_frozen BK120.out 1
                            have p122 : 0 ≤ (x25_2 : Int) := of_decide_eq_true (by first | (with_reducible assumption) | assumption)
                            have q122 : x25_2 < (l0_1.length : Int) := of_decide_eq_true (by first | (with_reducible assumption) | assumption)
                            obtain ⟨ad122, e122, hx122_0⟩ := Kd.at_int HR0_1.out x25_2 p122 q122
                            cases e122
                            replace hx122_0 := (HB.out.cell (World.block_lt_of_cell? w _ hx122_0)).trans hx122_0
                            replace p122 := eq_true p122
                            replace q122 := eq_true q122
                            go_wp2
                            go_ret
                            exact ⟨by first | rfl | (simp [errW_none, errW_some] <;> rfl) | (simp only [← hji15]; first | rfl | (simp [errW_none, errW_some] <;> rfl)) | (simp [*, errW_none, errW_some] <;> rfl), by repeat (first | (with_reducible first | exact HB.out | apply below_alloc | apply pw_below_drewN | apply below_drew1 | refine below_set ?_ GE120.out) | exact HB.out)⟩
                          · rw [if_neg c18] at H
                            have c18b0 : decide ((rd l0_1 x25_2) < 0) = false := decide_eq_false c18
                            clear c18
                            by_cases c20 : (rd l0_1 x25_2) > 15
                            · rw [if_pos c20] at H
                              have c20b0 : decide (15 < (rd l0_1 x25_2)) = true := decide_eq_true c20
                              clear c20
                              obtain rfl := Option.some.inj H
                              have p121 : 0 ≤ (x25_2 : Int) := of_decide_eq_true (by first | (with_reducible assumption) | assumption)
                              have q121 : x25_2 < (l0_0.length : Int) := of_decide_eq_true (by first | (with_reducible assumption) | assumption)
                              obtain ⟨ad121, e121, hx121_0⟩ := Kd.at_int HR0_0.out x25_2 p121 q121
                              cases e121
                              replace hx121_0 := (HB.out.cell (World.block_lt_of_cell? w _ hx121_0)).trans hx121_0
                              replace p121 := eq_true p121
                              replace q121 := eq_true q121
                              have hcz21_0 : wr.cell? ⟨gb120, 0, none⟩ = some (.slice (some ad121) l0_0.length c0_0) := (blk_cell BK120.out 0).trans rfl
                              have hcz21_1 : wr.cell? ⟨gb120, 1, none⟩ = some (.slice A0_1 l0_1.length c0_1) := (blk_cell BK120.out 1).trans rfl
                              have hfz21_0 := blk_frozen BK120.out 0
                              have hfz21_1 := blk_frozen BK120.out 1
                              have p122 : 0 ≤ (x25_2 : Int) := of_decide_eq_true (by first | (with_reducible assumption) | assumption)
                              have q122 : x25_2 < (l0_1.length : Int) := of_decide_eq_true (by first | (with_reducible assumption) | assumption)
                              obtain ⟨ad122, e122, hx122_0⟩ := Kd.at_int HR0_1.out x25_2 p122 q122
                              cases e122
                              replace hx122_0 := (HB.out.cell (World.block_lt_of_cell? w _ hx122_0)).trans hx122_0
                              replace p122 := eq_true p122
                              replace q122 := eq_true q122
                              have p123 : 0 ≤ (x25_2 : Int) := of_decide_eq_true (by first | (with_reducible assumption) | assumption)
                              have q123 : x25_2 < (l0_1.length : Int) := of_decide_eq_true (by first | (with_reducible assumption) | assumption)
                              obtain ⟨ad123, e123, hx123_0⟩ := Kd.at_int HR0_1.out x25_2 p123 q123
                              obtain rfl : ad122 = ad123 := (by injection e123)
                              replace hx123_0 := (HB.out.cell (World.block_lt_of_cell? w _ hx123_0)).trans hx123_0
                              replace p123 := eq_true p123
                              replace q123 := eq_true q123
                              go_wp2
                              go_ret
                              exact ⟨by first | rfl | (simp [errW_none, errW_some] <;> rfl) | (simp only [← hji15]; first | rfl | (simp [errW_none, errW_some] <;> rfl)) | (simp [*, errW_none, errW_some] <;> rfl), by repeat (first | (with_reducible first | exact HB.out | apply below_alloc | apply pw_below_drewN | apply below_drew1 | refine below_set ?_ GE120.out) | exact HB.out)⟩
                            · rw [if_neg c20] at H
                              have c20b0 : decide (15 < (rd l0_1 x25_2)) = false := decide_eq_false c20
                              clear c20
                              have H' := Aside0.mk H
                              clear H
                              have p121 : 0 ≤ (x25_2 : Int) := of_decide_eq_true (by first | (with_reducible assumption) | assumption)
                              have q121 : x25_2 < (l0_0.length : Int) := of_decide_eq_true (by first | (with_reducible assumption) | assumption)
                              obtain ⟨ad121, e121, hx121_0⟩ := Kd.at_int HR0_0.out x25_2 p121 q121
                              cases e121
                              replace hx121_0 := (HB.out.cell (World.block_lt_of_cell? w _ hx121_0)).trans hx121_0
                              replace p121 := eq_true p121
                              replace q121 := eq_true q121
                              have hcz22_0 : wr.cell? ⟨gb120, 0, none⟩ = some (.slice (some ad121) l0_0.length c0_0) := (blk_cell BK120.out 0).trans rfl
                              have hcz22_1 : wr.cell? ⟨gb120, 1, none⟩ = some (.slice A0_1 l0_1.length c0_1) := (blk_cell BK120.out 1).trans rfl
                              have hfz22_0 := blk_frozen BK120.out 0
                              have hfz22_1 := blk_frozen BK120.out 1
                              have p122 : 0 ≤ (x25_2 : Int) := of_decide_eq_true (by first | (with_reducible assumption) | assumption)
                              have q122 : x25_2 < (l0_1.length : Int) := of_decide_eq_true (by first | (with_reducible assumption) | assumption)
                              obtain ⟨ad122, e122, hx122_0⟩ := Kd.at_int HR0_1.out x25_2 p122 q122
                              cases e122
                              replace hx122_0 := (HB.out.cell (World.block_lt_of_cell? w _ hx122_0)).trans hx122_0
                              replace p122 := eq_true p122
                              replace q122 := eq_true q122
                              have p123 : 0 ≤ (x25_2 : Int) := of_decide_eq_true (by first | (with_reducible assumption) | assumption)
                              have q123 : x25_2 < (l0_1.length : Int) := of_decide_eq_true (by first | (with_reducible assumption) | assumption)
                              obtain ⟨ad123, e123, hx123_0⟩ := Kd.at_int HR0_1.out x25_2 p123 q123
                              obtain rfl : ad122 = ad123 := (by injection e123)
                              replace hx123_0 := (HB.out.cell (World.block_lt_of_cell? w _ hx123_0)).trans hx123_0
                              replace p123 := eq_true p123
                              replace q123 := eq_true q123
                              go_wp2
                              go_roundg k2
                              case measure => have := HJ1.out; have := HK2.out; omega
                              case rel => exact ⟨(wrap64 (x25_2 + 1)), (by first | rfl | (simp; done) | (simp [*]; done)), H', ⟨by have := HJ1.out; have := HK2.out; omega⟩, ⟨by (with_reducible repeat (first | refine blk_drewN ?_ _ | refine blk_drew ?_ | refine blk_alloc ?_ _)); exact BK120.out⟩, ⟨by repeat (first | (with_reducible first | exact HB.out | apply below_alloc | apply pw_below_drewN | apply below_drew1 | refine below_set ?_ GE120.out) | exact HB.out)⟩⟩
                        · rw [if_neg c17] at H
                          exact absurd H (by simp)
                    · rw [if_neg c14] at H
                      exact absurd H (by simp)
                · rw [if_neg c12] at H
                  exact absurd H (by simp)
              · rw [if_neg c11] at H
                exact absurd H (by simp)
            · rw [if_neg c10] at H
              have c10b0 : decide (x25_2 < (l0_0.length : Int)) = false := decide_eq_false c10
              clear c10
              obtain rfl := Option.some.inj H
              go_wp2
              go_ret
              exact ⟨by first | rfl | (simp [errW_none, errW_some] <;> rfl) | (simp [*, errW_none, errW_some] <;> rfl), by repeat (first | (with_reducible first | exact HB.out | apply below_alloc | apply pw_below_drewN | apply below_drew1 | refine below_set ?_ GE120.out) | exact HB.out)⟩
def comfitlaw08_awake.f (k : Nat)  : Option (Bool) := (Go.Proofs.Ytjffhhalmicodaa.X.fixes_Holds.f k (([2, 1] : List Int)) (([0, 1] : List Int)) (⟨#[48]⟩ : ByteArray)).bind fun bt130 => (if bt130.1 = 2 then (some (bt130.2 == 0)) else (some false))
theorem comfitlaw08_awake.mono : ∀ k, LeO (comfitlaw08_awake.f k ) (comfitlaw08_awake.f (k + 1) ) := by
  intro  k
  unfold comfitlaw08_awake.f
  repeat' first
      | (with_reducible exact Go.Proofs.Ytjffhhalmicodaa.X.fixes_Holds.mono _ _ _ _)
      | (with_reducible exact LeO.refl _)
      | (with_reducible exact LeO.none _)
      | (with_reducible refine LeO.ite ?_ ?_)
      | (with_reducible refine LeO.bind ?_ (fun _ => ?_))
      | exact Go.Proofs.Ytjffhhalmicodaa.X.fixes_Holds.mono _ _ _ _
      | exact LeO.none _
      | refine LeO.ite ?_ ?_
      | refine LeO.bind ?_ (fun _ => ?_)
set_option maxHeartbeats 8000000 in
set_option maxRecDepth 100000 in
theorem comfitlaw08_awake.calls (k : Nat)  (r : Bool) (w : World) (h : comfitlaw08_awake.f k  = some r) :
    Calls Try.prog 22 #[] w fun e w' => e = .returned (.bool r) ∧ Below w.heap.size w w' := by
  have hu28 := Try.underlying28
  have HB := Aside0.mk (Below.refl w.heap.size w)
  have H : ((Go.Proofs.Ytjffhhalmicodaa.X.fixes_Holds.f k (([2, 1] : List Int)) (([0, 1] : List Int)) (⟨#[48]⟩ : ByteArray)).bind fun bt130 => (if bt130.1 = 2 then (some (bt130.2 == 0)) else (some false))) = some r := h
  clear h
  obtain ⟨y124, hy124⟩ : ∃ y_ : List Int, y_ = (([2, 1] : List Int)) := ⟨_, rfl⟩
  replace H : ((Go.Proofs.Ytjffhhalmicodaa.X.fixes_Holds.f k y124 (([0, 1] : List Int)) (⟨#[48]⟩ : ByteArray)).bind fun bt130 => (if bt130.1 = 2 then (some (bt130.2 == 0)) else (some false))) = some r := by first | (rw [hy124]; with_reducible exact H) | (have H2_ := (Option.bind_some _ _).symm.trans H; rw [hy124]; with_reducible exact H2_) | (have H2_ := (Option.bind_some _ _).symm.trans H; with_reducible exact H2_) | with_reducible exact H | (rw [hy124]; exact H) | exact H
  have Ny124 := Aside0.mk hy124
  clear hy124
  obtain ⟨y127, hy127⟩ : ∃ y_ : List Int, y_ = (([0, 1] : List Int)) := ⟨_, rfl⟩
  replace H : ((Go.Proofs.Ytjffhhalmicodaa.X.fixes_Holds.f k y124 y127 (⟨#[48]⟩ : ByteArray)).bind fun bt130 => (if bt130.1 = 2 then (some (bt130.2 == 0)) else (some false))) = some r := by first | (rw [hy127]; with_reducible exact H) | (have H2_ := (Option.bind_some _ _).symm.trans H; rw [hy127]; with_reducible exact H2_) | (have H2_ := (Option.bind_some _ _).symm.trans H; with_reducible exact H2_) | with_reducible exact H | (rw [hy127]; exact H) | exact H
  have Ny127 := Aside0.mk hy127
  clear hy127
  replace H := Option.bind_eq_some_iff.mp H
  obtain ⟨⟨t130, t131⟩, A10, H⟩ := H
  replace H : (if t130 = 2 then (some (t131 == 0)) else (some false)) = some r := H
  have A1 := Aside0.mk A10
  clear A10
  by_cases c2 : t130 = 2
  · rw [if_pos c2] at H
    have c2b0 : (t130 == 2) = true := beq_iff_eq.mpr c2
    have c2b1 : (t130 != 2) = false := bne_eq_false_iff_eq.mpr c2
    clear c2
    obtain rfl := Option.some.inj H
    go_enter Try.func22, Try.ntmps22
    go_wp2_with (first | ((with_reducible refine gate_dst (N := 4) rfl ?_); refine Kd.R_lit (Kd.int .i64) _ 3 ?hg (N := 4) ?hd (xs := ([2, 1] : List Int)) (inner := [.int .i64 2, .int .i64 1]) (ok := fun _ => True) (okp := fun _ => True) ?hr ?hp (fun _ hk => hk) trivial (Below.refl _ _) (Nat.le_refl _) (by simp) ?_; (case hd => rfl); (case hg => rfl); (case hr => first | (go_simp; done) | (go_simp; rfl)); (case hp => exact (Reps.one (show Kd.M (Kd.int .i64) _ _ _ 2 [.int .i64 2] from rfl) (Reps.one (show Kd.M (Kd.int .i64) _ _ _ 1 [.int .i64 1] from rfl) (Reps.none _ _)))); intro v125 w3 ho4 hb hg_ hnew_; clear hg_ hnew_; (first | rw [← Ny124.out] at ho4 | (simp only [Int.reduceToNat] at ho4; rw [← Ny124.out] at ho4)); have n0_ := Aside0.mk (Kd.R_lower ho4 (below_size (by repeat (first | (with_reducible first | exact HB.out | apply below_alloc | apply pw_below_drewN | apply below_drew1) | exact HB.out)))); have n1_ := Aside0.mk (below_step (by repeat (first | (with_reducible first | exact HB.out | apply below_alloc | apply pw_below_drewN | apply below_drew1) | exact HB.out)) hb); clear HB; have HO126 := n0_; have HB := n1_; clear n0_ n1_; clear hb ho4) | ((with_reducible refine gate_dst (N := 5) rfl ?_); refine Kd.R_lit (Kd.int .i64) _ 3 ?hg (N := 5) ?hd (xs := ([0, 1] : List Int)) (inner := [.int .i64 0, .int .i64 1]) (ok := fun _ => True) (okp := fun _ => True) ?hr ?hp (fun _ hk => hk) trivial (Below.refl _ _) (Nat.le_refl _) (by simp) ?_; (case hd => rfl); (case hg => rfl); (case hr => first | (go_simp; done) | (go_simp; rfl)); (case hp => exact (Reps.one (show Kd.M (Kd.int .i64) _ _ _ 0 [.int .i64 0] from rfl) (Reps.one (show Kd.M (Kd.int .i64) _ _ _ 1 [.int .i64 1] from rfl) (Reps.none _ _)))); intro v128 w5 ho6 hb hg_ hnew_; clear hg_ hnew_; (first | rw [← Ny127.out] at ho6 | (simp only [Int.reduceToNat] at ho6; rw [← Ny127.out] at ho6)); have n0_ := Aside0.mk (Kd.R_elder' (by (with_reducible repeat (first | apply Kd.R_alloc | apply Kd.R_drewN | apply Kd.R_drew)); exact HO126.out) (Kd.R_base ho6) hb); have n1_ := Aside0.mk (Kd.R_lower (Kd.R_new' ho6 (Kd.R_lt (by (with_reducible repeat (first | apply Kd.R_alloc | apply Kd.R_drewN | apply Kd.R_drew)); exact HO126.out))) (below_size (by repeat (first | (with_reducible first | exact HB.out | apply below_alloc | apply pw_below_drewN | apply below_drew1) | exact HB.out)))); have n2_ := Aside0.mk (below_step (by repeat (first | (with_reducible first | exact HB.out | apply below_alloc | apply pw_below_drewN | apply below_drew1) | exact HB.out)) hb); clear HO126; clear HB; have HO126 := n0_; have HO129 := n1_; have HB := n2_; clear n0_ n1_ n2_; clear hb ho6; obtain ⟨Ao7, co7, eo7⟩ := Kd.R_slice HO129.out; subst eo7; obtain ⟨Ao8, co8, eo8⟩ := Kd.R_slice HO126.out; subst eo8) | ((with_reducible refine gate_callee (f := 16) rfl ?_); refine goesL_ (some 7) rfl rfl Try.func16 (by kernel_rfl) rfl #[.agg #[.slice Ao8 y124.length co8, .slice Ao7 y127.length co7], .string (⟨#[48]⟩ : ByteArray)] rfl (by (try simp only [List.map_toArray, List.map_cons, List.map_nil]); first | done | rfl | (simp only [List.length_drop, List.length_take]; rfl)) ?_; (with_reducible refine (Go.Proofs.Ytjffhhalmicodaa.X.fixes_Holds.calls k _ _ y124 _ _ y127 (⟨#[48]⟩ : ByteArray) t130 t131 _ ?side1 ?side2 ?side3 ?side4 A1.out).mono ?_); (case side1 => repeat (first | exact (Kd.R_reads' HO126.out).2.2 | (with_reducible refine Kd.C_alloc ?_ _) | (with_reducible refine Kd.C_drewN ?_ _) | (with_reducible refine Kd.C_drew ?_))); (case side2 => exact (Kd.R_reads' HO126.out).2.1); (case side3 => repeat (first | exact (Kd.R_reads' HO129.out).2.2 | (with_reducible refine Kd.C_alloc ?_ _) | (with_reducible refine Kd.C_drewN ?_ _) | (with_reducible refine Kd.C_drew ?_))); (case side4 => exact (Kd.R_reads' HO129.out).2.1); rintro e w9 ⟨rfl, hb⟩; refine ⟨_, rfl, ?_⟩; have n0_ := Aside0.mk (Kd.R_below (by (with_reducible repeat (first | apply Kd.R_alloc | apply Kd.R_drewN | apply Kd.R_drew)); exact HO126.out) hb); have n1_ := Aside0.mk (Kd.R_below (by (with_reducible repeat (first | apply Kd.R_alloc | apply Kd.R_drewN | apply Kd.R_drew)); exact HO129.out) hb); have n2_ := Aside0.mk (below_step (by repeat (first | (with_reducible first | exact HB.out | apply below_alloc | apply pw_below_drewN | apply below_drew1) | exact HB.out)) hb); clear HO126; clear HO129; clear HB; have HO126 := n0_; have HO129 := n1_; have HB := n2_; clear n0_ n1_ n2_; (try clear hb); (try clear hb2); (try clear hk); (try clear hi)))
    go_ret
    exact ⟨by first | rfl | (simp [errW_none, errW_some] <;> rfl) | (simp [*, errW_none, errW_some] <;> rfl), by repeat (first | (with_reducible first | exact HB.out | apply below_alloc | apply pw_below_drewN | apply below_drew1) | exact HB.out)⟩
  · rw [if_neg c2] at H
    have c2b0 : (t130 == 2) = false := beq_eq_false_iff_ne.mpr c2
    have c2b1 : (t130 != 2) = true := bne_iff_ne.mpr c2
    obtain rfl := Option.some.inj H
    go_enter Try.func22, Try.ntmps22
    go_wp2_with (first | ((with_reducible refine gate_dst (N := 4) rfl ?_); refine Kd.R_lit (Kd.int .i64) _ 3 ?hg (N := 4) ?hd (xs := ([2, 1] : List Int)) (inner := [.int .i64 2, .int .i64 1]) (ok := fun _ => True) (okp := fun _ => True) ?hr ?hp (fun _ hk => hk) trivial (Below.refl _ _) (Nat.le_refl _) (by simp) ?_; (case hd => rfl); (case hg => rfl); (case hr => first | (go_simp; done) | (go_simp; rfl)); (case hp => exact (Reps.one (show Kd.M (Kd.int .i64) _ _ _ 2 [.int .i64 2] from rfl) (Reps.one (show Kd.M (Kd.int .i64) _ _ _ 1 [.int .i64 1] from rfl) (Reps.none _ _)))); intro v125 w10 ho11 hb hg_ hnew_; clear hg_ hnew_; (first | rw [← Ny124.out] at ho11 | (simp only [Int.reduceToNat] at ho11; rw [← Ny124.out] at ho11)); have n0_ := Aside0.mk (Kd.R_lower ho11 (below_size (by repeat (first | (with_reducible first | exact HB.out | apply below_alloc | apply pw_below_drewN | apply below_drew1) | exact HB.out)))); have n1_ := Aside0.mk (below_step (by repeat (first | (with_reducible first | exact HB.out | apply below_alloc | apply pw_below_drewN | apply below_drew1) | exact HB.out)) hb); clear HB; have HO126 := n0_; have HB := n1_; clear n0_ n1_; clear hb ho11) | ((with_reducible refine gate_dst (N := 5) rfl ?_); refine Kd.R_lit (Kd.int .i64) _ 3 ?hg (N := 5) ?hd (xs := ([0, 1] : List Int)) (inner := [.int .i64 0, .int .i64 1]) (ok := fun _ => True) (okp := fun _ => True) ?hr ?hp (fun _ hk => hk) trivial (Below.refl _ _) (Nat.le_refl _) (by simp) ?_; (case hd => rfl); (case hg => rfl); (case hr => first | (go_simp; done) | (go_simp; rfl)); (case hp => exact (Reps.one (show Kd.M (Kd.int .i64) _ _ _ 0 [.int .i64 0] from rfl) (Reps.one (show Kd.M (Kd.int .i64) _ _ _ 1 [.int .i64 1] from rfl) (Reps.none _ _)))); intro v128 w12 ho13 hb hg_ hnew_; clear hg_ hnew_; (first | rw [← Ny127.out] at ho13 | (simp only [Int.reduceToNat] at ho13; rw [← Ny127.out] at ho13)); have n0_ := Aside0.mk (Kd.R_elder' (by (with_reducible repeat (first | apply Kd.R_alloc | apply Kd.R_drewN | apply Kd.R_drew)); exact HO126.out) (Kd.R_base ho13) hb); have n1_ := Aside0.mk (Kd.R_lower (Kd.R_new' ho13 (Kd.R_lt (by (with_reducible repeat (first | apply Kd.R_alloc | apply Kd.R_drewN | apply Kd.R_drew)); exact HO126.out))) (below_size (by repeat (first | (with_reducible first | exact HB.out | apply below_alloc | apply pw_below_drewN | apply below_drew1) | exact HB.out)))); have n2_ := Aside0.mk (below_step (by repeat (first | (with_reducible first | exact HB.out | apply below_alloc | apply pw_below_drewN | apply below_drew1) | exact HB.out)) hb); clear HO126; clear HB; have HO126 := n0_; have HO129 := n1_; have HB := n2_; clear n0_ n1_ n2_; clear hb ho13; obtain ⟨Ao14, co14, eo14⟩ := Kd.R_slice HO129.out; subst eo14; obtain ⟨Ao15, co15, eo15⟩ := Kd.R_slice HO126.out; subst eo15) | ((with_reducible refine gate_callee (f := 16) rfl ?_); refine goesL_ (some 7) rfl rfl Try.func16 (by kernel_rfl) rfl #[.agg #[.slice Ao15 y124.length co15, .slice Ao14 y127.length co14], .string (⟨#[48]⟩ : ByteArray)] rfl (by (try simp only [List.map_toArray, List.map_cons, List.map_nil]); first | done | rfl | (simp only [List.length_drop, List.length_take]; rfl)) ?_; (with_reducible refine (Go.Proofs.Ytjffhhalmicodaa.X.fixes_Holds.calls k _ _ y124 _ _ y127 (⟨#[48]⟩ : ByteArray) t130 t131 _ ?side1 ?side2 ?side3 ?side4 A1.out).mono ?_); (case side1 => repeat (first | exact (Kd.R_reads' HO126.out).2.2 | (with_reducible refine Kd.C_alloc ?_ _) | (with_reducible refine Kd.C_drewN ?_ _) | (with_reducible refine Kd.C_drew ?_))); (case side2 => exact (Kd.R_reads' HO126.out).2.1); (case side3 => repeat (first | exact (Kd.R_reads' HO129.out).2.2 | (with_reducible refine Kd.C_alloc ?_ _) | (with_reducible refine Kd.C_drewN ?_ _) | (with_reducible refine Kd.C_drew ?_))); (case side4 => exact (Kd.R_reads' HO129.out).2.1); rintro e w16 ⟨rfl, hb⟩; refine ⟨_, rfl, ?_⟩; have n0_ := Aside0.mk (Kd.R_below (by (with_reducible repeat (first | apply Kd.R_alloc | apply Kd.R_drewN | apply Kd.R_drew)); exact HO126.out) hb); have n1_ := Aside0.mk (Kd.R_below (by (with_reducible repeat (first | apply Kd.R_alloc | apply Kd.R_drewN | apply Kd.R_drew)); exact HO129.out) hb); have n2_ := Aside0.mk (below_step (by repeat (first | (with_reducible first | exact HB.out | apply below_alloc | apply pw_below_drewN | apply below_drew1) | exact HB.out)) hb); clear HO126; clear HO129; clear HB; have HO126 := n0_; have HO129 := n1_; have HB := n2_; clear n0_ n1_ n2_; (try clear hb); (try clear hb2); (try clear hk); (try clear hi)))
    go_ret
    exact ⟨by first | rfl | (simp [errW_none, errW_some] <;> rfl) | (simp [*, errW_none, errW_some] <;> rfl), by repeat (first | (with_reducible first | exact HB.out | apply below_alloc | apply pw_below_drewN | apply below_drew1) | exact HB.out)⟩
end Go.Proofs.Ytjffhhalmicodaa.PB
end

section
namespace Go.Proofs.Ytjffhhalmicodaa.PE
open Go.RowKit Go.Proofs.YtjffhhalmicodaaW.PrintWords Go.Proofs.YtjffhhalmicodaaW.PrintLast Go.Proofs.YtjffhhalmicodaaW.PrintMore
attribute [local go_sem] max2_int min2_int max_two min_two max_three min_three max_four min_four
set_option linter.unusedVariables false
set_option linter.unusedSimpArgs false
def errW : Option Int → Value
  | none => .nilIface
  | some c => .iface 0 (.int .i64 c)
theorem errW_none : errW none = .nilIface := rfl
theorem errW_some (c : Int) : errW (some c) = .iface 0 (.int .i64 c) := rfl
end Go.Proofs.Ytjffhhalmicodaa.PE
end

section
namespace Go.Proofs.Ytjffhhalmicodaa.PE
open Go.RowKit Go.Proofs.YtjffhhalmicodaaW.PrintWords Go.Proofs.YtjffhhalmicodaaW.PrintLast Go.Proofs.YtjffhhalmicodaaW.PrintMore
attribute [local go_sem] max2_int min2_int max_two min_two max_three min_three max_four min_four
set_option linter.unusedVariables false
set_option linter.unusedSimpArgs false
def slices_Equal_int_int.l0 : Nat → List Int → List Int → Int → Int → Option (Bool)
  | 0, _, _, _, _ => none
  | k + 1, x0, x1, x12, x13 => if x13 < x12 then (if 0 ≤ x13 then (if x13 < (x0.length : Int) then (if x13 < (x1.length : Int) then (if (rd x0 x13) = (rd x1 x13) then (slices_Equal_int_int.l0 k x0 x1 x12 (wrap64 (x13 + 1))) else (some false)) else (none)) else (none)) else (none)) else (some true)
def slices_Equal_int_int.f (k : Nat) (l0 : List Int) (l1 : List Int) : Option (Bool) := if (l0.length : Int) = (l1.length : Int) then (slices_Equal_int_int.l0 k l0 l1 (l0.length : Int) 0) else (some false)
theorem slices_Equal_int_int.mono_l : ∀ k, (∀ y0 y1 y2 y3, LeO (slices_Equal_int_int.l0 k y0 y1 y2 y3) (slices_Equal_int_int.l0 (k + 1) y0 y1 y2 y3))
  | 0 => fun _ _ _ _ r h => by simp [slices_Equal_int_int.l0] at h
  | k + 1 => by
    have ih0 := slices_Equal_int_int.mono_l k
    · intro y0 y1 y2 y3
      unfold slices_Equal_int_int.l0
      repeat' first
      | (with_reducible exact ih0 _ _ _ _)
      | (with_reducible exact LeO.refl _)
      | (with_reducible exact LeO.none _)
      | (with_reducible refine LeO.ite ?_ ?_)
      | (with_reducible refine LeO.bind ?_ (fun _ => ?_))
      | exact ih0 _ _ _ _
      | exact LeO.none _
      | refine LeO.ite ?_ ?_
      | refine LeO.bind ?_ (fun _ => ?_)
theorem slices_Equal_int_int.mono : ∀ a0 a1 k, LeO (slices_Equal_int_int.f k a0 a1) (slices_Equal_int_int.f (k + 1) a0 a1) := by
  intro a0 a1 k
  have ih0 := slices_Equal_int_int.mono_l k
  unfold slices_Equal_int_int.f
  repeat' first
      | (with_reducible exact ih0 _ _ _ _)
      | (with_reducible exact LeO.refl _)
      | (with_reducible exact LeO.none _)
      | (with_reducible refine LeO.ite ?_ ?_)
      | (with_reducible refine LeO.bind ?_ (fun _ => ?_))
      | exact ih0 _ _ _ _
      | exact LeO.none _
      | refine LeO.ite ?_ ?_
      | refine LeO.bind ?_ (fun _ => ?_)
set_option maxHeartbeats 8000000 in
set_option maxRecDepth 100000 in
theorem slices_Equal_int_int.calls (k : Nat) (A0 : Option Addr) (c0 : Nat) (l0 : List Int) (A1 : Option Addr) (c1 : Nat) (l1 : List Int) (r : Bool) (w : World) (hr0 : Kd.C (Kd.int .i64) w A0 l0.length l0) (hc0 : l0.length ≤ c0) (hr1 : Kd.C (Kd.int .i64) w A1 l1.length l1) (hc1 : l1.length ≤ c1) (h : slices_Equal_int_int.f k l0 l1 = some r) :
    Calls Try.prog 36 #[.slice A0 l0.length c0, .slice A1 l1.length c1] w fun e w' => e = .returned (.bool r) ∧ Drawn0 w w' := by
  have HR0 := Aside0.mk hr0
  have HC0 := Aside0.mk hc0
  clear hr0 hc0
  have HR1 := Aside0.mk hr1
  have HC1 := Aside0.mk hc1
  clear hr1 hc1
  have H : (if (l0.length : Int) = (l1.length : Int) then (slices_Equal_int_int.l0 k l0 l1 (l0.length : Int) 0) else (some false)) = some r := h
  clear h
  by_cases c3 : (l0.length : Int) = (l1.length : Int)
  · rw [if_pos c3] at H
    have c3b0 : ((l0.length : Int) == (l1.length : Int)) = true := beq_iff_eq.mpr c3
    have c3b1 : ((l0.length : Int) != (l1.length : Int)) = false := bne_eq_false_iff_eq.mpr c3
    have c3b2 : (l0.length == l1.length) = true := by first | simpa using c3 | (simp at c3 ⊢; omega)
    clear c3
    have H' := Aside0.mk H
    clear H
    go_enter Try.func36, Try.ntmps36
    go_wp2
    repeat (go_quiet (fail); try go_wp2)
    go_loopg [13] k (fun kq v13 w' => ∃ (x13_1 : Int), v13 = .int .i64 x13_1 ∧ Aside0 (slices_Equal_int_int.l0 kq l0 l1 (l0.length : Int) x13_1 = some r) ∧ Aside0 (kq ≤ k) ∧ Drawn0 w w')
    case atStart => exact ⟨(0), (by first | rfl | (simp; done) | (simp [*]; done)), H', ⟨Nat.le_refl _⟩, by repeat (first | exact Drawn0.refl _ | apply Drawn0.step)⟩
    case round =>
      clear H'
      try clear c1
      try clear p2
      try clear c3
      try clear c3b0
      try clear c3b1
      try clear c3b2
      obtain ⟨x13_1, rfl, HA, HK1, ⟨m1, rfl⟩⟩ := hrel
      cases gk with
      | zero => exact absurd HA.out (by simp [slices_Equal_int_int.l0])
      | succ k1 =>
        have H := HA.out
        clear HA
        simp only [slices_Equal_int_int.l0] at H
        by_cases c4 : x13_1 < (l0.length : Int)
        · rw [if_pos c4] at H
          have c4b0 : decide (x13_1 < (l0.length : Int)) = true := decide_eq_true c4
          clear c4
          by_cases c5 : 0 ≤ x13_1
          · rw [if_pos c5] at H
            have c5b0 : decide (0 ≤ x13_1) = true := decide_eq_true c5
            clear c5
            by_cases c6 : x13_1 < (l0.length : Int)
            · rw [if_pos c6] at H
              have c6b0 : decide (x13_1 < (l0.length : Int)) = true := decide_eq_true c6
              clear c6
              by_cases c7 : x13_1 < (l1.length : Int)
              · rw [if_pos c7] at H
                have c7b0 : decide (x13_1 < (l1.length : Int)) = true := decide_eq_true c7
                clear c7
                by_cases c8 : (rd l0 x13_1) = (rd l1 x13_1)
                · rw [if_pos c8] at H
                  have c8b0 : ((rd l0 x13_1) == (rd l1 x13_1)) = true := beq_iff_eq.mpr c8
                  have c8b1 : ((rd l0 x13_1) != (rd l1 x13_1)) = false := bne_eq_false_iff_eq.mpr c8
                  clear c8
                  have H' := Aside0.mk H
                  clear H
                  have p101 : 0 ≤ (x13_1 : Int) := of_decide_eq_true (by first | (with_reducible assumption) | assumption)
                  have q101 : x13_1 < (l0.length : Int) := of_decide_eq_true (by first | (with_reducible assumption) | assumption)
                  obtain ⟨ad101, e101, hx101_0⟩ := Kd.at_int HR0.out x13_1 p101 q101
                  cases e101
                  replace p101 := eq_true p101
                  replace q101 := eq_true q101
                  have p102 : 0 ≤ (x13_1 : Int) := of_decide_eq_true (by first | (with_reducible assumption) | assumption)
                  have q102 : x13_1 < (l1.length : Int) := of_decide_eq_true (by first | (with_reducible assumption) | assumption)
                  obtain ⟨ad102, e102, hx102_0⟩ := Kd.at_int HR1.out x13_1 p102 q102
                  cases e102
                  replace p102 := eq_true p102
                  replace q102 := eq_true q102
                  go_wp2
                  repeat (go_quiet (fail); try go_wp2)
                  go_roundg k1
                  case measure => have := HK1.out; omega
                  case rel => exact ⟨(wrap64 (x13_1 + 1)), (by first | rfl | (simp; done) | (simp [*]; done)), H', ⟨by have := HK1.out; omega⟩, by repeat (first | exact Drawn0.refl _ | apply Drawn0.step)⟩
                · rw [if_neg c8] at H
                  have c8b0 : ((rd l0 x13_1) == (rd l1 x13_1)) = false := beq_eq_false_iff_ne.mpr c8
                  have c8b1 : ((rd l0 x13_1) != (rd l1 x13_1)) = true := bne_iff_ne.mpr c8
                  obtain rfl := Option.some.inj H
                  have p101 : 0 ≤ (x13_1 : Int) := of_decide_eq_true (by first | (with_reducible assumption) | assumption)
                  have q101 : x13_1 < (l0.length : Int) := of_decide_eq_true (by first | (with_reducible assumption) | assumption)
                  obtain ⟨ad101, e101, hx101_0⟩ := Kd.at_int HR0.out x13_1 p101 q101
                  cases e101
                  replace p101 := eq_true p101
                  replace q101 := eq_true q101
                  have p102 : 0 ≤ (x13_1 : Int) := of_decide_eq_true (by first | (with_reducible assumption) | assumption)
                  have q102 : x13_1 < (l1.length : Int) := of_decide_eq_true (by first | (with_reducible assumption) | assumption)
                  obtain ⟨ad102, e102, hx102_0⟩ := Kd.at_int HR1.out x13_1 p102 q102
                  cases e102
                  replace p102 := eq_true p102
                  replace q102 := eq_true q102
                  go_wp2
                  repeat (go_quiet (fail); try go_wp2)
                  go_ret
                  exact ⟨by first | rfl | (simp; done) | (simp [*]; done), by repeat (first | exact Drawn0.refl _ | apply Drawn0.step)⟩
              · rw [if_neg c7] at H
                exact absurd H (by simp)
            · rw [if_neg c6] at H
              exact absurd H (by simp)
          · rw [if_neg c5] at H
            exact absurd H (by simp)
        · rw [if_neg c4] at H
          have c4b0 : decide (x13_1 < (l0.length : Int)) = false := decide_eq_false c4
          clear c4
          obtain rfl := Option.some.inj H
          go_wp2
          repeat (go_quiet (fail); try go_wp2)
          go_ret
          exact ⟨by first | rfl | (simp; done) | (simp [*]; done), by repeat (first | exact Drawn0.refl _ | apply Drawn0.step)⟩
  · rw [if_neg c3] at H
    have c3b0 : ((l0.length : Int) == (l1.length : Int)) = false := beq_eq_false_iff_ne.mpr c3
    have c3b1 : ((l0.length : Int) != (l1.length : Int)) = true := bne_iff_ne.mpr c3
    have c3b2 : (l0.length == l1.length) = false := by first | simpa using c3 | (simp at c3 ⊢; omega)
    obtain rfl := Option.some.inj H
    go_enter Try.func36, Try.ntmps36
    go_wp2
    repeat (go_quiet (fail); try go_wp2)
    go_ret
    exact ⟨by first | rfl | (simp; done) | (simp [*]; done), by repeat (first | exact Drawn0.refl _ | apply Drawn0.step)⟩
end Go.Proofs.Ytjffhhalmicodaa.PE
end

section
set_option linter.unusedVariables false
set_option linter.unusedSimpArgs false
namespace Go.Proofs.Ytjffhhalmicodaa.X
open Go.RowKit Go.Proofs.YtjffhhalmicodaaW.PrintWords Go.Proofs.YtjffhhalmicodaaW.PrintLast Go.Proofs.YtjffhhalmicodaaW.PrintMore
theorem equal_from (a b : List Int) (h : a.length = b.length) (hsz : a.length ≤ 1000000) : ∀ d i : Nat, i + d = a.length → ∃ k, PE.slices_Equal_int_int.l0 k a b (a.length : Int) (i : Int) = some (decide (a.drop i = b.drop i)) := by
  intro d
  induction d with
  | zero =>
    intro i hi
    refine ⟨1, ?_⟩
    simp only [PE.slices_Equal_int_int.l0]
    rw [List.drop_of_length_le (by omega), List.drop_of_length_le (by omega)]
    simp [show ¬ i < a.length by omega]
  | succ d ih =>
    intro i hi
    obtain ⟨k, hk⟩ := ih (i + 1) (by omega)
    refine ⟨k + 1, ?_⟩
    have ha : i < a.length := by omega
    have hb : i < b.length := by omega
    rw [List.drop_eq_getElem_cons ha, List.drop_eq_getElem_cons hb]
    have e1 : rd a (i : Int) = a[i] := by simp [rd, List.getD_eq_getElem?_getD, ha]
    have e2 : rd b (i : Int) = b[i] := by simp [rd, List.getD_eq_getElem?_getD, hb]
    simp only [PE.slices_Equal_int_int.l0]
    rw [if_pos (by omega), if_pos (by omega), if_pos (by omega), if_pos (by omega), e1, e2, show wrap64 ((i : Int) + 1) = ((i + 1 : Nat) : Int) by unfold wrap64; omega, hk]
    by_cases hab : a[i] = b[i]
    · rw [if_pos hab, hab]
      simp only [List.cons.injEq, true_and]
    · rw [if_neg hab]
      simp only [List.cons.injEq, hab, false_and, decide_false]
theorem equal_eq (a b : List Int) (hsz : a.length ≤ 1000000) : ∃ k, PE.slices_Equal_int_int.f k a b = some (decide (a = b)) := by
  unfold PE.slices_Equal_int_int.f
  by_cases h : a.length = b.length
  · obtain ⟨k, hk⟩ := equal_from a b h hsz a.length 0 (by omega)
    refine ⟨k, ?_⟩
    rw [if_pos (by omega)]
    simpa using hk
  · refine ⟨0, ?_⟩
    rw [if_neg (by omega)]
    have : a ≠ b := fun e => h (by rw [e])
    simp [this]
theorem keyfn_mark (w : World) (bw n c1 : Nat) (A1 : Option Addr) (mk : List Int) (hr : Kd.C (Kd.int .i64) w A1 mk.length mk) (hw : w.cell? ⟨bw, 1, none⟩ = some (.slice A1 mk.length c1)) (hn : n ≤ mk.length) : KeyFn w 82 #[.pointer (some ⟨bw, 0, none⟩)] n (markKey mk) := by
  intro W s hsn hb
  obtain ⟨b, off, rfl, hlt, hc⟩ := ints_at hr (by omega)
  exact mark_calls bw b off mk.length c1 s (rd mk s) W (pw_cell_below hb hw) (by omega) hr.2.1 (pw_cell_below hb (hc s (by omega)))
theorem keyfn_next (w : World) (bw bl c0 c2 : Nat) (A0 A2 : Option Addr) (nx last : List Int) (hl : last.length = nx.length) (h61 : nx.length ≤ 61) (hr : Kd.C (Kd.int .i64) w A0 nx.length nx) (hr2 : Kd.C (Kd.int .i64) w A2 last.length last) (hw : w.cell? ⟨bw, 0, none⟩ = some (.slice A0 nx.length c0)) (hw2 : w.cell? ⟨bl, 0, none⟩ = some (.slice A2 last.length c2)) (hv : ∀ i : Nat, i < nx.length → 0 ≤ rd last i ∧ rd last i < nx.length) : KeyFn w 83 #[.pointer (some ⟨bl, 0, none⟩), .pointer (some ⟨bw, 0, none⟩)] nx.length (setKey nx last) := by
  intro W s hsn hb
  obtain ⟨b, off, rfl, hlt, hc⟩ := ints_at hr (by omega)
  obtain ⟨b2, off2, rfl, hlt2, hc2⟩ := ints_at hr2 (by omega)
  exact next_calls bw b off nx.length c0 s bl b2 off2 c2 nx last hl rfl W (pw_cell_below hb hw) (by rw [← hl]; exact pw_cell_below hb hw2) hsn h61 (pw_cell_below hb (hc s hsn)) (fun i hi => pw_cell_below hb (hc2 i (by omega))) hv
def levF (nx : List Int) : Nat → List (List Int) → Option (List (List Int))
  | 0, _ => none
  | k + 1, out => if out.length ≤ 1000 then (if (numTo (setKey nx (out.getLastD [])) nx.length).2 = out.getLastD [] then some out else levF nx k (out ++ [(numTo (setKey nx (out.getLastD [])) nx.length).2])) else none
def LvOk (n : Nat) (l : List Int) : Prop := l.length = n ∧ ∀ i : Nat, i < n → 0 ≤ rd l i ∧ rd l i < n
theorem lvOk_num (key : Nat → Int × Int) (n : Nat) : LvOk n (numTo key n).2 := ⟨numTo_len key n, fun i hi => by
  rw [rd_num key n i hi]
  have := cls_range key hi
  have := cnt_le key n
  omega⟩
theorem info22 : (Try.prog.info? 22).map (fun i => (i.zero, i.size, i.bytes)) = some (some (.slice none 0 0), 1, 24) := by kernel_rfl
theorem rows_last {w : World} {base g m cp : Nat} {ok : Nat → Prop} {init : List (List Int)} {last : List Int} (h : Kd.R (Kd.slice 3 (Kd.int .i64)) 22 w base ok (.slice (some ⟨g, 0, none⟩) (m + 1) cp) (init ++ [last])) (hm : m = init.length) :
    ∃ A c, w.cell? ⟨g, m, none⟩ = some (.slice A last.length c) ∧ last.length ≤ c ∧ Kd.C (Kd.int .i64) w A last.length last := by
  obtain ⟨h1, h2, h3⟩ := Kd.R_reads' h
  obtain ⟨ad, c, e, _, hK, hc⟩ := Kd.C_get h3 [] (m : Int) (by omega) (by rw [← h1]; omega)
  injection e with e
  subst e
  obtain ⟨A, c2, rfl, hl, hC⟩ := hK
  have hg : (init ++ [last]).getD (m : Int).toNat [] = last := by
    rw [Int.toNat_natCast, hm]
    simp
  rw [hg] at hl hC hc
  refine ⟨A, c2, ?_, hl, hC⟩
  have := hc 0 _ rfl
  rw [Int.toNat_natCast, show (Kd.slice 3 (Kd.int .i64)).sz = 1 from rfl, Nat.mul_one, Nat.add_zero] at this
  have e2 : (⟨g, 0, none⟩ : Addr).add m = ⟨g, m, none⟩ := by
    unfold Addr.add
    split <;> simp_all
  rwa [e2] at this
theorem rows_form {w : World} {base : Nat} {ok : Nat → Prop} {v : Value} {xs : List (List Int)} (h : Kd.R (Kd.slice 3 (Kd.int .i64)) 22 w base ok v xs) (hx : 0 < xs.length) : ∃ g cp, v = .slice (some ⟨g, 0, none⟩) xs.length cp := by
  obtain ⟨inner, ho⟩ := Kd.R_own h
  obtain ⟨g, cap, e, _⟩ := ho.form hx
  exact ⟨g, cap, e⟩
theorem info22s : (Try.prog.info? 22).map (·.size) = some 1 := by kernel_rfl
structure LS (w : World) (gw c0 c1 : Nat) (A0 A1 : Option Addr) (nx mk : List Int) (r : List (List Int)) (g m cp kq : Nat) (init : List (List Int)) (last : List Int) (wr : World) : Prop where
  len : m = init.length
  fuel : levF nx kq (init ++ [last]) = some r
  ok : LvOk nx.length last
  own : Kd.R (Kd.slice 3 (Kd.int .i64)) 22 wr w.heap.size (fun _ => True) (.slice (some ⟨g, 0, none⟩) (m + 1) cp) (init ++ [last])
  below : Below w.heap.size w wr
  box : wr.heap[gw]? = some (.cells #[.slice A0 nx.length c0, .slice A1 mk.length c1] 28 (0, 0))
set_option maxRecDepth 100000 in
set_option maxHeartbeats 2000000 in
theorem levels_calls (k : Nat) (A0 : Option Addr) (c0 : Nat) (nx : List Int) (A1 : Option Addr) (c1 : Nat) (mk : List Int) (r : List (List Int)) (w : World) (hr0 : Kd.C (Kd.int .i64) w A0 nx.length nx) (hr1 : Kd.C (Kd.int .i64) w A1 mk.length mk) (h61 : nx.length ≤ 61) (hnm : nx.length ≤ mk.length) (h : levF nx k [(numTo (markKey mk) nx.length).2] = some r) :
    Calls Try.prog 66 #[.agg #[.slice A0 nx.length c0, .slice A1 mk.length c1]] w fun e w' => ∃ v, e = .returned v ∧ Kd.R (Kd.slice 3 (Kd.int .i64)) 22 w' w.heap.size (fun _ => True) v r ∧ Below w.heap.size w w' := by
  have hu := Try.underlying28
  have eg82 : ∀ args w, (callFunc 82 args).run Try.prog w = .ok (.enter 82 args) w := enters_of' Try.func82 (by kernel_rfl) rfl
  have eg83 : ∀ args w, (callFunc 83 args).run Try.prog w = .ok (.enter 83 args) w := enters_of' Try.func83 (by kernel_rfl) rfl
  have EG82 := Lib.hid eg82
  have EG83 := Lib.hid eg83
  have HR0 := Lib.hid hr0
  have HR1 := Lib.hid hr1
  have HF := Lib.hid h
  clear hr0 hr1 h eg82 eg83
  go_enter Try.func66, Try.ntmps66
  go_wp2_with (first | ((with_reducible refine gate_dst (N := 1) rfl ?_); refine box_event ?hg (N := 1) ?hd (cs := #[.slice A0 nx.length c0, .slice A1 mk.length c1]) (t := 28) ?hr ?_; (case hd => rfl); (case hg => rfl); (case hr => first | (go_simp; done) | (go_simp; rfl)); intro gw hgw wb hbw hbb; have HBX := Lib.hid hbw; have HGW := Lib.hid (Nat.le_of_eq hgw.symm); have HB0 := Lib.hid (below_step (Below.refl w.heap.size w) hbb); have hw0 : wb.cell? ⟨gw, 0, none⟩ = some (.slice A0 nx.length c0) := (blk_cell hbw 0).trans rfl; have hw1 : wb.cell? ⟨gw, 1, none⟩ = some (.slice A1 mk.length c1) := (blk_cell hbw 1).trans rfl; clear hgw hbw hbb) | fail)
  refine (numbered_calls 82 _ EG82.out (markKey mk) A0 nx.length c0 A1 mk.length c1 wb (by omega) (keyfn_mark wb gw nx.length c1 A1 mk (Kd.C_below HR1.out HB0.out) hw1 hnm)).mono ?_
  rintro e w2 ⟨v0, rfl, hv0, hb2⟩
  obtain ⟨A5, c5, rfl⟩ := Kd.R_slice hv0
  have HV0 := Lib.hid (Kd.R_lower hv0 HB0.out.size)
  have HB2 := Lib.hid (below_step HB0.out hb2)
  have HBX2 := Lib.hid (blk_below HBX.out hb2)
  clear hv0 hb2 HB0 HBX hw0 hw1
  go_wp2_with (first | ((with_reducible refine gate_dst (N := 9) rfl ?_); refine Kd.R_lit (Kd.slice 3 (Kd.int .i64)) (w0 := w) w.heap.size 22 ?hg (N := 9) ?hd (xs := [(numTo (markKey mk) nx.length).2]) (inner := [.slice A5 (numTo (markKey mk) nx.length).2.length c5]) (ok := fun _ => True) (okp := fun _ => True) ?hr ?hp (fun _ hk => hk) trivial HB2.out HB2.out.size (by simp) ?_; (case hd => rfl); (case hg => rfl); (case hr => first | (go_simp; done) | (go_simp; rfl)); (case hp => exact ⟨rfl, fun j p hj => by (cases j with | zero => (injection hj with hj; subst hj; exact ⟨_, rfl, HV0.out⟩) | succ j => simp at hj)⟩); intro v1 w3 hv1 hb3 hg3 hat3; have HV1 := Lib.hid hv1; have HB3 := Lib.hid hb3; have HBX3 := Lib.hid (blk_grown HBX2.out hg3 (by simp)); clear hv1 hb3 hg3 hat3) | fail)
  clear HV0 HB2 HBX2
  obtain ⟨g, cp, rfl⟩ := rows_form HV1.out (by simp)
  have HL := Lib.hid (show LS w gw c0 c1 A0 A1 nx mk r g 0 cp k [] (numTo (markKey mk) nx.length).2 w3 from ⟨rfl, HF.out, lvOk_num _ _, HV1.out, HB3.out, HBX3.out⟩)
  clear HV1 HB3 HBX3 HF
  go_wp2_with fail
  go_loopg [3] k (fun kq v3 wr => ∃ (g m cp : Nat) (init : List (List Int)) (last : List Int), v3 = .slice (some ⟨g, 0, none⟩) (m + 1) cp ∧ Hid (LS w gw c0 c1 A0 A1 nx mk r g m cp kq init last wr))
  case atStart => exact ⟨_, _, _, _, _, rfl, HL⟩
  case round =>
    clear HL
    obtain ⟨g, m, cp, init, last, rfl, HL⟩ := hrel
    cases gk with
    | zero => exact absurd HL.out.fuel (by simp [levF])
    | succ kq =>
      obtain ⟨A2, c2, hcl, hl2, hC2⟩ := rows_last HL.out.own HL.out.len
      have HC2 := Lib.hid hC2
      have HL2 := Lib.hid hl2
      clear hC2 hl2
      have hf := HL.out.fuel
      rw [levF] at hf
      have hlen : (init ++ [last]).length ≤ 1000 := by
        by_cases q : (init ++ [last]).length ≤ 1000
        · exact q
        · rw [if_neg q] at hf
          cases hf
      rw [if_pos hlen, show (init ++ [last]).getLastD [] = last by simp] at hf
      have hm1 : m + 1 ≤ 1000 := by rw [HL.out.len]; simpa using hlen
      have HF := Lib.hid hf
      clear hf hlen
      have h0 := HL.out.own
      clear h0
      go_wp2_with (first | ((with_reducible refine gate_dst (N := 4) rfl ?_); refine box_event ?hg (N := 4) ?hd (cs := #[.slice none 0 0]) (t := 22) ?hr ?_; (case hd => rfl); (case hg => rfl); (case hr => kernel_rfl); intro gl hgl wl hbl hbbl; have HGL := Lib.hid (Nat.le_of_eq hgl.symm); have HBBL := Lib.hid hbbl; have HBL := Lib.hid hbl; clear hgl hbl hbbl) | ((with_reducible refine gate_op (op := .store 22 (.tmp 4) (.tmp 15)) rfl ?_); refine whole_store_event rfl rfl 22 (.tmp 4) (.tmp 15) rfl (g := gl) (cur := #[.slice none 0 0]) (.slice A2 last.length c2) [.slice A2 last.length c2] rfl rfl rfl info22s rfl (by simp [Value.oneCell']) HBL.out ?_; intro w3 hw3 hk3 hb3; have HB3 := Lib.hid (hb3 _ _ HBBL.out HGL.out); have hwl : w3.cell? ⟨gl, 0, none⟩ = some (.slice A2 last.length c2) := (blk_cell hw3 0).trans rfl; have hw0 : w3.cell? ⟨gw, 0, none⟩ = some (.slice A0 nx.length c0) := (blk_cell (blk_below HL.out.box HB3.out) 0).trans rfl; have hw1 : w3.cell? ⟨gw, 1, none⟩ = some (.slice A1 mk.length c1) := (blk_cell (blk_below HL.out.box HB3.out) 1).trans rfl; clear hw3 hk3 hb3 hcl HBBL HBL HGL) | fail)
      refine (numbered_calls 83 _ EG83.out (setKey nx last) A0 nx.length c0 A1 mk.length c1 w3 (by omega) (keyfn_next w3 gw gl c0 c2 A0 A2 nx last HL.out.ok.1 h61 (Kd.C_below HR0.out (below_step HL.out.below HB3.out)) (Kd.C_below HC2.out HB3.out) hw0 hwl HL.out.ok.2)).mono ?_
      rintro e w4 ⟨v4, rfl, hv4, hb4⟩
      obtain ⟨A4, c4, rfl⟩ := Kd.R_slice hv4
      obtain ⟨_, hc4, hr4⟩ := Kd.R_reads' hv4
      have HV4 := Lib.hid (Kd.R_lower hv4 (below_step HL.out.below HB3.out).size)
      have HB4 := Lib.hid (below_step HB3.out hb4)
      have HC4 := Lib.hid hc4
      have HR4 := Lib.hid hr4
      have k0 := pw_cell_below hb4 hwl
      clear hv4 hb4 hw0 hw1 hwl HB3 hc4 hr4
      have hwl := k0
      clear k0
      obtain ⟨ke, hke⟩ := equal_eq (numTo (setKey nx last) nx.length).2 last (by rw [numTo_len]; omega)
      have HKE := Lib.hid hke
      clear hke
      go_wp2_with fail
      refine (PE.slices_Equal_int_int.calls ke A4 c4 (numTo (setKey nx last) nx.length).2 A2 c2 last _ w4 HR4.out HC4.out (Kd.C_below HC2.out HB4.out) HL2.out HKE.out).mono ?_
      rintro e w5 ⟨rfl, hd⟩
      obtain ⟨q5, rfl⟩ := hd
      clear HKE HC4 HR4 hwl
      by_cases hdone : (numTo (setKey nx last) nx.length).2 = last
      · have hb : decide ((numTo (setKey nx last) nx.length).2 = last) = true := decide_eq_true hdone
        have hf := HF.out
        rw [if_pos hdone] at hf
        injection hf with hf
        have HE := Lib.hid hf
        clear hf hdone
        go_wp2
        go_ret
        refine ⟨_, rfl, ?_, ?_⟩
        · rw [← HE.out]
          exact Kd.R_below HL.out.own (pw_below_drewN HB4.out q5)
        · exact below_step HL.out.below (pw_below_drewN HB4.out q5)
      · have hb : decide ((numTo (setKey nx last) nx.length).2 = last) = false := decide_eq_false hdone
        have hf := HF.out
        rw [if_neg hdone] at hf
        have HF2 := Lib.hid hf
        clear hf hdone HF
        have HO := Lib.hid (Kd.R_below HL.out.own (pw_below_drewN HB4.out q5))
        have HBW := Lib.hid (below_step HL.out.below (pw_below_drewN HB4.out q5))
        have HV5 := Lib.hid (Kd.R_below HV4.out (pw_below_drewN (Below.refl w4.heap.size w4) q5))
        have HBX := Lib.hid (blk_below HL.out.box (pw_below_drewN HB4.out q5))
        have HP : Hid (Kd.R (Kd.int .i64) 3 (w4.drewN q5) w.heap.size (fun k => True ∧ k ≠ g) (.slice A4 (numTo (setKey nx last) nx.length).2.length c4) (numTo (setKey nx last) nx.length).2) := Lib.hid (by
          obtain ⟨_, inner, ho, _⟩ := HO.out
          obtain ⟨cells, hc⟩ := own_typed ho g rfl
          exact Kd.R_types HV5.out hc (by simp [Kd.int, Kd.scalar]))
        have HXS := Lib.hid (show ((init ++ [last]).length + 1) * 24 ≤ 140737488355328 by have := HL.out.len; simp; omega)
        go_wp2_with (first | (at_builtin; refine Kd.R_append (Kd.slice 3 (Kd.int .i64)) (w0 := w) w.heap.size rfl (.tmp 23) (.tmp 25) 86 22 (.slice none 0 0) 24 rfl Try.underlying86 info22 rfl (by decide) (by decide) (.slice (some ⟨g, 0, none⟩) (m + 1) cp) (init ++ [last]) (numTo (setKey nx last) nx.length).2 [.slice A4 (numTo (setKey nx last) nx.length).2.length c4] (fun _ => True) (fun k => True ∧ k ≠ g) rfl rfl ⟨_, rfl, HP.out⟩ (fun k hk => ⟨trivial, fun e => hk.2 (Option.some.inj e)⟩) (fun _ _ => trivial) HO.out HBW.out HBW.out.size HXS.out ?_; intro v1 w1 hv hb hg hat; have HV1 := Lib.hid hv; have HB1 := Lib.hid hb; have HX1 := Lib.hid (blk_grown HBX.out hg (Kd.R_ne HO.out HBX.out (by decide))); clear hv hb hg hat) | fail)
        obtain ⟨g', cp', rfl⟩ := rows_form HV1.out (by simp)
        go_roundg kq
        case measure => omega
        case rel => exact ⟨g', m + 1, cp', init ++ [last], _, by simp [HL.out.len], ⟨by simp [HL.out.len], HF2.out, lvOk_num _ _, by simpa [HL.out.len] using HV1.out, HB1.out, HX1.out⟩⟩
end Go.Proofs.Ytjffhhalmicodaa.X
end

section
set_option linter.unusedVariables false
set_option linter.unusedSimpArgs false
namespace Go.Proofs.Ytjffhhalmicodaa.X
open Go.RowKit Go.Proofs.YtjffhhalmicodaaW.PrintWords Go.Proofs.YtjffhhalmicodaaW.PrintLast Go.Proofs.YtjffhhalmicodaaW.PrintMore
def fixes_levels.f (k : Nat) (l0_0 l0_1 : List Int) : Option (List (List Int)) := if l0_0.length ≤ 61 ∧ l0_0.length ≤ l0_1.length then levF l0_0 k [(numTo (markKey l0_1) l0_0.length).2] else none
theorem fixes_levels.calls (k : Nat) (A0_0 : Option Addr) (c0_0 : Nat) (l0_0 : List Int) (A0_1 : Option Addr) (c0_1 : Nat) (l0_1 : List Int) (r : List (List Int)) (w : World) (hr0_0 : Kd.C (Kd.int .i64) w A0_0 l0_0.length l0_0) (hc0_0 : l0_0.length ≤ c0_0) (hr0_1 : Kd.C (Kd.int .i64) w A0_1 l0_1.length l0_1) (hc0_1 : l0_1.length ≤ c0_1) (h : fixes_levels.f k l0_0 l0_1 = some r) :
    Calls Try.prog 66 #[.agg #[.slice A0_0 l0_0.length c0_0, .slice A0_1 l0_1.length c0_1]] w fun e w' => ∃ v0_ : Value, e = .returned (v0_) ∧ Kd.R (Kd.slice 3 (Kd.int .i64)) 22 w' w.heap.size (fun _ => True) v0_ r ∧ Below w.heap.size w w' := by
  unfold fixes_levels.f at h
  split at h
  · rename_i hc
    exact levels_calls k A0_0 c0_0 l0_0 A0_1 c0_1 l0_1 r w hr0_0 hr0_1 hc.1 hc.2 h
  · cases h
end Go.Proofs.Ytjffhhalmicodaa.X
end

section
set_option linter.unusedVariables false
set_option linter.unusedSimpArgs false
namespace Go.Proofs.Ytjffhhalmicodaa.X
open Go.RowKit Go.Proofs.YtjffhhalmicodaaW.PrintWords Go.Proofs.YtjffhhalmicodaaW.PrintLast Go.Proofs.YtjffhhalmicodaaW.PrintMore
theorem rows_own {w : World} {base g m n cp : Nat} {ok : Nat → Prop} {xs : List (List Int)} {last : List Int} (h : Kd.R (Kd.slice 3 (Kd.int .i64)) 22 w base ok (.slice (some ⟨g, 0, none⟩) n cp) xs) (hm : xs[m]? = some last) : ∃ v, w.cell? ⟨g, m, none⟩ = some v ∧ Kd.R (Kd.int .i64) 3 w base ok v last := by
  obtain ⟨h0, inner, ho, hr⟩ := h
  obtain ⟨v, hv, hR⟩ := hr.2 m last hm
  refine ⟨v, ?_, Kd.R_mono hR (fun k hk => hk.1)⟩
  have hi : inner[m]? = some v := by
    rw [show (Kd.slice 3 (Kd.int .i64)).sz = 1 from rfl, Nat.mul_one] at hv
    have := congrArg (fun l => l[0]?) hv
    simpa [List.getElem?_take, List.getElem?_drop] using this
  have := ho.cells (g := g) rfl m v hi
  have e2 : (⟨g, 0, none⟩ : Addr).add m = ⟨g, m, none⟩ := by
    unfold Addr.add
    split <;> simp_all
  rwa [e2] at this
set_option maxRecDepth 100000 in
set_option maxHeartbeats 2000000 in
theorem classes_calls (k : Nat) (A0 : Option Addr) (c0 : Nat) (nx : List Int) (A1 : Option Addr) (c1 : Nat) (mk : List Int) (init : List (List Int)) (last : List Int) (w : World) (hr0 : Kd.C (Kd.int .i64) w A0 nx.length nx) (hc0 : nx.length ≤ c0) (hr1 : Kd.C (Kd.int .i64) w A1 mk.length mk) (hc1 : mk.length ≤ c1) (hlen : init.length ≤ 100000) (h : fixes_levels.f k nx mk = some (init ++ [last])) :
    Calls Try.prog 62 #[.agg #[.slice A0 nx.length c0, .slice A1 mk.length c1]] w fun e w' => ∃ v, e = .returned v ∧ Kd.R (Kd.int .i64) 3 w' w.heap.size (fun _ => True) v last ∧ Below w.heap.size w w' := by
  have hu := Try.underlying28
  have HR0 := Lib.hid hr0
  have HR1 := Lib.hid hr1
  have HF := Lib.hid h
  clear hr0 hr1 h
  go_enter Try.func62, Try.ntmps62
  go_wp2_with (first | ((with_reducible refine gate_dst (N := 1) rfl ?_); refine box_event ?hg (N := 1) ?hd (cs := #[.slice A0 nx.length c0, .slice A1 mk.length c1]) (t := 28) ?hr ?_; (case hd => rfl); (case hg => rfl); (case hr => first | (go_simp; done) | (go_simp; rfl)); intro gw hgw wb hbw hbb; have HB0 := Lib.hid (below_step (Below.refl w.heap.size w) hbb); have hw0 : wb.cell? ⟨gw, 0, none⟩ = some (.slice A0 nx.length c0) := (blk_cell hbw 0).trans rfl; have hw1 : wb.cell? ⟨gw, 1, none⟩ = some (.slice A1 mk.length c1) := (blk_cell hbw 1).trans rfl; clear hgw hbw hbb) | fail)
  refine (fixes_levels.calls k A0 c0 nx A1 c1 mk (init ++ [last]) wb (Kd.C_below HR0.out HB0.out) hc0 (Kd.C_below HR1.out HB0.out) hc1 HF.out).mono ?_
  rintro e w1 ⟨v, rfl, hv, hb⟩
  have HB := Lib.hid (below_step HB0.out hb)
  have hvl := Kd.R_lower hv HB0.out.size
  obtain ⟨g, cp, rfl⟩ := rows_form hvl (by simp)
  obtain ⟨u, hcell, hu2⟩ := rows_own (m := init.length) (last := last) hvl (by simp)
  have HU := Lib.hid hu2
  clear hv hb hvl hw0 hw1 HB0 HF hu2
  have hn : (init ++ [last]).length = init.length + 1 := by simp
  rw [hn]
  clear hn
  generalize init.length = m at *
  go_wp2_with fail
  go_ret
  exact ⟨_, rfl, HU.out, HB.out⟩
def fixes_classes.f (k : Nat) (l0_0 l0_1 : List Int) : Option (List Int) := (fixes_levels.f k l0_0 l0_1).bind fun l => if l = [] ∨ 100000 < l.length then none else some (l.getLastD [])
theorem fixes_classes.calls (k : Nat) (A0_0 : Option Addr) (c0_0 : Nat) (l0_0 : List Int) (A0_1 : Option Addr) (c0_1 : Nat) (l0_1 : List Int) (r : List Int) (w : World) (hr0_0 : Kd.C (Kd.int .i64) w A0_0 l0_0.length l0_0) (hc0_0 : l0_0.length ≤ c0_0) (hr0_1 : Kd.C (Kd.int .i64) w A0_1 l0_1.length l0_1) (hc0_1 : l0_1.length ≤ c0_1) (h : fixes_classes.f k l0_0 l0_1 = some r) :
    Calls Try.prog 62 #[.agg #[.slice A0_0 l0_0.length c0_0, .slice A0_1 l0_1.length c0_1]] w fun e w' => ∃ v0_ : Value, e = .returned (v0_) ∧ Kd.R (Kd.int .i64) 3 w' w.heap.size (fun _ => True) v0_ r ∧ Below w.heap.size w w' := by
  unfold fixes_classes.f at h
  obtain ⟨l, hl, h⟩ := Option.bind_eq_some_iff.mp h
  split at h
  · cases h
  · rename_i hne
    injection h with h
    subst h
    have hne1 : l ≠ [] := fun e => hne (.inl e)
    have hx : l = l.dropLast ++ [l.getLastD []] := by
      have e1 := (List.dropLast_concat_getLast hne1).symm
      have e2 : l.getLastD [] = l.getLast hne1 := by rw [List.getLastD_eq_getLast?, List.getLast?_eq_some_getLast hne1]; rfl
      rw [e2]
      exact e1
    rw [hx] at hl
    refine classes_calls k A0_0 c0_0 l0_0 A0_1 c0_1 l0_1 l.dropLast (l.getLastD []) w hr0_0 hc0_0 hr0_1 hc0_1 ?_ hl
    rw [List.length_dropLast]
    have : ¬ 100000 < l.length := fun e => hne (.inr e)
    omega
end Go.Proofs.Ytjffhhalmicodaa.X
end

section
set_option linter.unusedVariables false
namespace Go.Proofs.Ytjffhhalmicodaa.X
open Go.RowKit Go.Proofs.YtjffhhalmicodaaW.PrintWords Go.Proofs.YtjffhhalmicodaaW.PrintLast Go.Proofs.YtjffhhalmicodaaW.PrintMore
end Go.Proofs.Ytjffhhalmicodaa.X
namespace Go.Proofs.Ytjffhhalmicodaa.L
open Go.RowKit Go.Proofs.YtjffhhalmicodaaW.PrintWords Go.Proofs.YtjffhhalmicodaaW.PrintLast Go.Proofs.YtjffhhalmicodaaW.PrintMore Go.Proofs.Ytjffhhalmicodaa.X
theorem bit_of {x : Int} {n : Nat} (hn : n ≤ 61) (h : InS n x) {t : Nat} (ht : t ≤ 64) : bits .and .i64 (shr .i64 x (t : Int)) 1 = if tb x t = true then 1 else 0 := by
  obtain ⟨y, rfl, hy⟩ := inS_nat h
  have e : shr .i64 (y : Int) (t : Int) = ((y / 2 ^ t : Nat) : Int) := by
    unfold shr
    rw [Int.toNat_natCast, show min t IntKind.i64.bits = t from Nat.min_eq_left ht, Int.natCast_ediv]
    simp
  have hb : y / 2 ^ t < 2 ^ 62 := Nat.lt_of_le_of_lt (Nat.div_le_self _ _) (Nat.lt_of_lt_of_le hy (pow_le62 (by omega)))
  rw [e, show (1 : Int) = ((1 : Nat) : Int) from rfl, and_nat hb (by decide), tb_nat, Nat.testBit, Nat.shiftRight_eq_div_pow, Nat.and_comm]
  have : 1 &&& y / 2 ^ t = 0 ∨ 1 &&& y / 2 ^ t = 1 := by
    rw [Nat.and_comm, Nat.and_one_is_mod]
    omega
  rcases this with h | h <;> rw [h] <;> rfl
theorem set_spec {nx last : List Int} {s : Nat} (hx : InS 6 (rd nx s)) : ∀ m, m ≤ 6 → (∀ t : Nat, t < m → 0 ≤ rd last t ∧ rd last t < 6) → InS 6 (setTo nx last s m) ∧ ∀ c : Nat, tb (setTo nx last s m) c = true ↔ ∃ u, u < m ∧ tb (rd nx s) u = true ∧ rd last u = c := by
  intro m
  induction m with
  | zero =>
    intro _ _
    refine ⟨inS_zero _, fun c => ?_⟩
    show tb 0 c = true ↔ _
    rw [tb_zero]
    exact ⟨fun h => (by cases h), fun ⟨u, h, _⟩ => (by omega)⟩
  | succ m ih =>
    intro hm hr
    obtain ⟨i1, i2⟩ := ih (by omega) (fun t ht => hr t (by omega))
    have hb := bit_of (by decide) hx (t := m) (by omega)
    unfold setTo
    by_cases h : tb (rd nx s) m = true
    · rw [if_pos h] at hb
      rw [if_pos hb]
      have hq := hr m (by omega)
      obtain ⟨q, hq1⟩ := Int.eq_ofNat_of_zero_le hq.1
      have hq6 : q < 6 := by omega
      have hp : InS 6 (((2 ^ q : Nat) : Int)) := inS_of (Nat.pow_lt_pow_right (by decide) hq6)
      rw [hq1, shl1 (by omega)]
      refine ⟨or_in (by decide) i1 hp, fun c => ?_⟩
      rw [tb_or (by decide) (by decide) i1 hp, Bool.or_eq_true, i2, tb_nat, Nat.testBit_two_pow, decide_eq_true_eq]
      constructor
      · rintro (⟨u, a, b, d⟩ | rfl)
        · exact ⟨u, by omega, b, d⟩
        · exact ⟨m, by omega, h, hq1⟩
      · rintro ⟨u, a, b, d⟩
        by_cases e : u = m
        · subst e
          right
          omega
        · exact .inl ⟨u, by omega, b, d⟩
    · rw [if_neg h] at hb
      rw [hb, if_neg (by decide)]
      refine ⟨i1, fun c => ?_⟩
      rw [i2]
      constructor
      · rintro ⟨u, a, b⟩
        exact ⟨u, by omega, b⟩
      · rintro ⟨u, a, b, d⟩
        by_cases e : u = m
        · subst e
          exact absurd b h
        · exact ⟨u, by omega, b, d⟩
def lv (nx mk : List Int) : Nat → List Int
  | 0 => (numTo (markKey mk) nx.length).2
  | k + 1 => (numTo (setKey nx (lv nx mk k)) nx.length).2
def lkey (nx mk : List Int) : Nat → Nat → Int × Int
  | 0 => markKey mk
  | k + 1 => setKey nx (lv nx mk k)
theorem lv_eq (nx mk : List Int) (k : Nat) : lv nx mk k = (numTo (lkey nx mk k) nx.length).2 := by cases k <;> rfl
theorem lv_len (nx mk : List Int) (k : Nat) : (lv nx mk k).length = nx.length := by rw [lv_eq]; exact numTo_len _ _
theorem lv_rd (nx mk : List Int) (k i : Nat) (h : i < nx.length) : rd (lv nx mk k) i = cls (lkey nx mk k) i := by rw [lv_eq]; exact rd_num _ _ _ h
theorem lv_range {nx mk : List Int} (k i : Nat) (h : i < nx.length) : 0 ≤ rd (lv nx mk k) i ∧ rd (lv nx mk k) i < nx.length := by
  rw [lv_rd _ _ _ _ h]
  have := cls_range (lkey nx mk k) h
  have := cnt_le (lkey nx mk k) nx.length
  omega
def E (nx mk : List Int) (k s t : Nat) : Prop := rd (lv nx mk k) s = rd (lv nx mk k) t
theorem E.symm {nx mk : List Int} {k s t : Nat} (h : E nx mk k s t) : E nx mk k t s := Eq.symm h
theorem E.trans {nx mk : List Int} {k s t u : Nat} (h : E nx mk k s t) (g : E nx mk k t u) : E nx mk k s u := Eq.trans h g
theorem E_key {nx mk : List Int} {k s t : Nat} (hs : s < nx.length) (ht : t < nx.length) : E nx mk k s t ↔ lkey nx mk k s = lkey nx mk k t := by
  unfold E
  rw [lv_rd _ _ _ _ hs, lv_rd _ _ _ _ ht, cls_eq]
theorem E_zero {nx mk : List Int} {s t : Nat} (hs : s < nx.length) (ht : t < nx.length) : E nx mk 0 s t ↔ rd mk s = rd mk t := by
  rw [E_key hs ht]
  unfold lkey markKey
  simp
theorem set_at {nx mk : List Int} (hv : VW nx mk) (k : Nat) {s : Nat} (hs : s < nx.length) : InS 6 (setTo nx (lv nx mk k) s nx.length) ∧ ∀ c : Nat, tb (setTo nx (lv nx mk k) s nx.length) c = true ↔ ∃ u, u < nx.length ∧ tb (rd nx s) u = true ∧ rd (lv nx mk k) u = c :=
  set_spec (inS_mono (hv.next s hs) hv.le) nx.length hv.le fun t ht => by
    have h1 := lv_range (mk := mk) k t ht
    have h2 := hv.le
    omega
theorem E_succ {nx mk : List Int} (hv : VW nx mk) {k s t : Nat} (hs : s < nx.length) (ht : t < nx.length) :
    E nx mk (k + 1) s t ↔ E nx mk k s t ∧ (∀ u, u < nx.length → tb (rd nx s) u = true → ∃ v, v < nx.length ∧ tb (rd nx t) v = true ∧ E nx mk k u v) ∧ (∀ v, v < nx.length → tb (rd nx t) v = true → ∃ u, u < nx.length ∧ tb (rd nx s) u = true ∧ E nx mk k u v) := by
  rw [E_key hs ht]
  have e1 : lkey nx mk (k + 1) s = lkey nx mk (k + 1) t ↔ E nx mk k s t ∧ setTo nx (lv nx mk k) s nx.length = setTo nx (lv nx mk k) t nx.length := by
    show setKey nx (lv nx mk k) s = setKey nx (lv nx mk k) t ↔ _
    unfold setKey E
    rw [lv_len]
    simp
  rw [e1]
  obtain ⟨s1, s2⟩ := set_at hv k hs
  obtain ⟨t1, t2⟩ := set_at hv k ht
  constructor
  · rintro ⟨h0, h⟩
    refine ⟨h0, fun u hu hb => ?_, fun v hw hb => ?_⟩
    · obtain ⟨c, hc⟩ := Int.eq_ofNat_of_zero_le (lv_range (mk := mk) k u hu).1
      have := (s2 c).2 ⟨u, hu, hb, hc⟩
      rw [h, t2] at this
      obtain ⟨v, a, b, d⟩ := this
      exact ⟨v, a, b, hc.trans d.symm⟩
    · obtain ⟨c, hc⟩ := Int.eq_ofNat_of_zero_le (lv_range (mk := mk) k v hw).1
      have := (t2 c).2 ⟨v, hw, hb, hc⟩
      rw [← h, s2] at this
      obtain ⟨u, a, b, d⟩ := this
      exact ⟨u, a, b, d.trans hc.symm⟩
  · rintro ⟨h0, h1, h2⟩
    refine ⟨h0, inS_ext s1 t1 fun c _ => ?_⟩
    rw [Bool.eq_iff_iff, s2, t2]
    constructor
    · rintro ⟨u, a, b, d⟩
      obtain ⟨v, a', b', d'⟩ := h1 u a b
      exact ⟨v, a', b', (show rd (lv nx mk k) u = rd (lv nx mk k) v from d') ▸ d⟩
    · rintro ⟨v, a, b, d⟩
      obtain ⟨u, a', b', d'⟩ := h2 v a b
      exact ⟨u, a', b', (show rd (lv nx mk k) u = rd (lv nx mk k) v from d').trans d⟩
theorem E_le {nx mk : List Int} (hv : VW nx mk) {s t : Nat} (hs : s < nx.length) (ht : t < nx.length) {k m : Nat} (h : k ≤ m) (he : E nx mk m s t) : E nx mk k s t := by
  induction m with
  | zero => obtain rfl : k = 0 := by omega
            exact he
  | succ m ih =>
    by_cases e : k = m + 1
    · exact e ▸ he
    · exact ih (by omega) ((E_succ hv hs ht).1 he).1
def nc (nx mk : List Int) (k : Nat) : Nat := cnt (lkey nx mk k) nx.length
theorem cnt_fine {key key' : Nat → Int × Int} : ∀ n, (∀ i j, i < n → j < n → key' i = key' j → key i = key j) → cnt key n ≤ cnt key' n ∧ (cnt key n = cnt key' n → ∀ i j, i < n → j < n → key i = key j → key' i = key' j) := by
  intro n
  induction n with
  | zero => intro _; exact ⟨by simp [cnt, numTo], fun _ i j h => by omega⟩
  | succ n ih =>
    intro h
    obtain ⟨i1, i2⟩ := ih (fun i j hi hj => h i j (by omega) (by omega))
    rcases cnt_step key n with ⟨e, j, hj, hk⟩ | ⟨e, e2, e3⟩ <;> rcases cnt_step key' n with ⟨f, j', hj', hk'⟩ | ⟨f, f2, f3⟩
    · refine ⟨by omega, fun he => ?_⟩
      have i3 := i2 (by omega)
      have h0 := h j' n (by omega) (by omega) hk'
      intro a b ha hb hab
      by_cases ea : a = n <;> by_cases eb : b = n
      · rw [ea, eb]
      · subst ea
        rw [← hk']
        exact i3 j' b hj' (by omega) (h0.trans hab)
      · subst eb
        rw [← hk']
        exact i3 a j' (by omega) hj' (hab.trans h0.symm)
      · exact i3 a b (by omega) (by omega) hab
    · exact ⟨by omega, fun he => by omega⟩
    · exact absurd (h j' n (by omega) (by omega) hk') (e3 j' hj')
    · refine ⟨by omega, fun he => ?_⟩
      have i3 := i2 (by omega)
      intro a b ha hb hab
      by_cases ea : a = n <;> by_cases eb : b = n
      · rw [ea, eb]
      · subst ea; exact absurd hab.symm (e3 b (by omega))
      · subst eb; exact absurd hab (e3 a (by omega))
      · exact i3 a b (by omega) (by omega) hab
theorem nc_step {nx mk : List Int} (hv : VW nx mk) (k : Nat) : nc nx mk k ≤ nc nx mk (k + 1) ∧ (nc nx mk k = nc nx mk (k + 1) → lv nx mk (k + 1) = lv nx mk k) := by
  have hf : ∀ i j, i < nx.length → j < nx.length → lkey nx mk (k + 1) i = lkey nx mk (k + 1) j → lkey nx mk k i = lkey nx mk k j := fun i j hi hj h =>
    (E_key hi hj).1 ((E_succ hv hi hj).1 ((E_key hi hj).2 h)).1
  obtain ⟨h1, h2⟩ := cnt_fine nx.length hf
  refine ⟨h1, fun he => ?_⟩
  rw [lv_eq, lv_eq nx mk k]
  exact (num_congr fun i j hi hj => ⟨hf i j hi hj, h2 he i j hi hj⟩).1
theorem nc_pos {nx mk : List Int} (hv : VW nx mk) (k : Nat) : 1 ≤ nc nx mk k := by
  have := cls_range (lkey nx mk k) (i := 0) (n := nx.length) (by have := hv.pos; omega)
  unfold nc
  omega
theorem nc_le (nx mk : List Int) (k : Nat) : nc nx mk k ≤ nx.length := cnt_le _ _
structure Last (nx mk : List Int) (K : Nat) : Prop where
  same : lv nx mk (K + 1) = lv nx mk K
  first : ∀ j, j < K → lv nx mk (j + 1) ≠ lv nx mk j
theorem lv_stay {nx mk : List Int} {K : Nat} (h : lv nx mk (K + 1) = lv nx mk K) : ∀ d, lv nx mk (K + d) = lv nx mk K := by
  intro d
  induction d with
  | zero => rfl
  | succ d ih =>
    show (numTo (setKey nx (lv nx mk (K + d))) nx.length).2 = _
    rw [ih]
    exact h
theorem lv_last {nx mk : List Int} (hv : VW nx mk) : ∃ K, Last nx mk K ∧ K + 1 ≤ nc nx mk K ∧ ∀ j, j ≤ K → j + 1 ≤ nc nx mk j := by
  have key : ∀ m, (∃ j, j < m ∧ lv nx mk (j + 1) = lv nx mk j) ∨ ∀ j, j ≤ m → j + 1 ≤ nc nx mk j := by
    intro m
    induction m with
    | zero =>
      right
      intro j hj
      obtain rfl : j = 0 := by omega
      exact nc_pos hv 0
    | succ m ih =>
      rcases ih with ⟨j, a, b⟩ | h
      · exact .inl ⟨j, by omega, b⟩
      · by_cases e : lv nx mk (m + 1) = lv nx mk m
        · exact .inl ⟨m, by omega, e⟩
        · right
          intro j hj
          by_cases hjm : j ≤ m
          · exact h j hjm
          · obtain rfl : j = m + 1 := by omega
            have h1 := nc_step hv m
            have h2 := h m (Nat.le_refl _)
            have : nc nx mk m ≠ nc nx mk (m + 1) := fun q => e (h1.2 q)
            omega
  have hex : ∃ j, lv nx mk (j + 1) = lv nx mk j := by
    rcases key nx.length with ⟨j, _, h⟩ | h
    · exact ⟨j, h⟩
    · have h1 := h nx.length (Nat.le_refl _)
      have h2 := nc_le nx mk nx.length
      omega
  obtain ⟨j, hj⟩ := hex
  obtain ⟨K, h1, h2, h3⟩ := first_of (P := fun j => lv nx mk (j + 1) = lv nx mk j) j hj
  have hk : ∀ j, j ≤ K → j + 1 ≤ nc nx mk j := by
    rcases key K with ⟨i, a, b⟩ | h
    · exact absurd b (h3 i a)
    · exact h
  exact ⟨K, ⟨h2, h3⟩, hk K (Nat.le_refl _), hk⟩
theorem Last.le {nx mk : List Int} (hv : VW nx mk) {K : Nat} (h : Last nx mk K) : K + 1 ≤ nx.length := by
  obtain ⟨K', h', h2, _⟩ := lv_last hv
  have h3 := nc_le nx mk K'
  have : K = K' := by
    rcases Nat.lt_trichotomy K K' with q | q | q
    · exact absurd h.same (h'.first K q)
    · exact q
    · exact absurd h'.same (h.first K' q)
  omega
theorem Last.bis {nx mk : List Int} (hv : VW nx mk) {K : Nat} (h : Last nx mk K) {s t : Nat} (hs : s < nx.length) (ht : t < nx.length) (he : E nx mk K s t) : rd mk s = rd mk t ∧ (∀ u, u < nx.length → tb (rd nx s) u = true → ∃ v, v < nx.length ∧ tb (rd nx t) v = true ∧ E nx mk K u v) := by
  refine ⟨(E_zero hs ht).1 (E_le hv hs ht (Nat.zero_le _) he), ?_⟩
  have : E nx mk (K + 1) s t := by unfold E at he ⊢; rw [h.same]; exact he
  exact ((E_succ hv hs ht).1 this).2.1
end Go.Proofs.Ytjffhhalmicodaa.L
end

section
set_option linter.unusedVariables false
namespace Go.Proofs.Ytjffhhalmicodaa.L
open Go.RowKit Go.Proofs.YtjffhhalmicodaaW.PrintWords Go.Proofs.YtjffhhalmicodaaW.PrintLast Go.Proofs.YtjffhhalmicodaaW.PrintMore Go.Proofs.Ytjffhhalmicodaa.X
def Evr {α : Type} (g : Nat → Option α) (r : α) : Prop := ∃ k0, ∀ k, k0 ≤ k → g k = some r
theorem Evr.const {α : Type} (r : α) : Evr (fun _ => some r) r := ⟨0, fun _ _ => rfl⟩
theorem Evr.congr {α : Type} {g h : Nat → Option α} {r : α} (e : ∀ k, g k = h k) (hh : Evr h r) : Evr g r := by
  obtain ⟨k0, h0⟩ := hh
  exact ⟨k0, fun k hk => (e k).trans (h0 k hk)⟩
theorem Evr.step {α : Type} {g h : Nat → Option α} {r : α} (e : ∀ k, g (k + 1) = h k) (hh : Evr h r) : Evr g r := by
  obtain ⟨k0, h0⟩ := hh
  refine ⟨k0 + 1, fun k hk => ?_⟩
  obtain ⟨m, rfl⟩ : ∃ m, k = m + 1 := ⟨k - 1, by omega⟩
  exact (e m).trans (h0 m (by omega))
theorem Evr.bind {α β : Type} {g : Nat → Option α} {f : α → Nat → Option β} {a : α} {r : β} (hg : Evr g a) (hf : Evr (f a) r) : Evr (fun k => (g k).bind fun x => f x k) r := by
  obtain ⟨k0, h0⟩ := hg
  obtain ⟨k1, h1⟩ := hf
  refine ⟨max k0 k1, fun k hk => ?_⟩
  show (g k).bind _ = _
  rw [h0 k (by omega)]
  exact h1 k (by omega)
theorem Evr.ex {α : Type} {g : Nat → Option α} {r : α} (h : Evr g r) : ∃ k, g k = some r := by
  obtain ⟨k0, h0⟩ := h
  exact ⟨k0, h0 k0 (Nat.le_refl _)⟩
theorem Evr.of_mono {α : Type} {g : Nat → Option α} {r : α} (hm : ∀ k, LeO (g k) (g (k + 1))) (h : ∃ k, g k = some r) : Evr g r := by
  obtain ⟨k, h⟩ := h
  exact ⟨k, fun m hm' => lift hm h hm'⟩
theorem Evr.of_all {α : Type} {g : Nat → Option α} {r : α} (h : ∀ k, g k = some r) : Evr g r := ⟨0, fun k _ => h k⟩
theorem wsucc {i : Nat} (h : i ≤ 1000000) : wrap64 ((i : Int) + 1) = ((i + 1 : Nat) : Int) := by unfold wrap64; omega
theorem set_eq {nx last : List Int} (hv : ∀ s, s < nx.length → InS 6 (rd nx s)) (h6 : nx.length ≤ 6) (hl : ∀ t : Nat, t < nx.length → 0 ≤ rd last t ∧ rd last t < 6) {s t : Nat} (hs : s < nx.length) (ht : t < nx.length) :
    setTo nx last s nx.length = setTo nx last t nx.length ↔ (∀ u, u < nx.length → tb (rd nx s) u = true → ∃ v, v < nx.length ∧ tb (rd nx t) v = true ∧ rd last u = rd last v) ∧ (∀ v, v < nx.length → tb (rd nx t) v = true → ∃ u, u < nx.length ∧ tb (rd nx s) u = true ∧ rd last u = rd last v) := by
  obtain ⟨s1, s2⟩ := set_spec (last := last) (hv s hs) nx.length h6 hl
  obtain ⟨t1, t2⟩ := set_spec (last := last) (hv t ht) nx.length h6 hl
  constructor
  · intro h
    refine ⟨fun u hu hb => ?_, fun v hw hb => ?_⟩
    · obtain ⟨c, hc⟩ := Int.eq_ofNat_of_zero_le (hl u hu).1
      have := (s2 c).2 ⟨u, hu, hb, hc⟩
      rw [h, t2] at this
      obtain ⟨v, a, b, d⟩ := this
      exact ⟨v, a, b, hc.trans d.symm⟩
    · obtain ⟨c, hc⟩ := Int.eq_ofNat_of_zero_le (hl v hw).1
      have := (t2 c).2 ⟨v, hw, hb, hc⟩
      rw [← h, s2] at this
      obtain ⟨u, a, b, d⟩ := this
      exact ⟨u, a, b, d.trans hc.symm⟩
  · rintro ⟨h1, h2⟩
    refine inS_ext s1 t1 fun c _ => ?_
    rw [Bool.eq_iff_iff, s2, t2]
    constructor
    · rintro ⟨u, a, b, d⟩
      obtain ⟨v, a', b', d'⟩ := h1 u a b
      exact ⟨v, a', b', d' ▸ d⟩
    · rintro ⟨v, a, b, d⟩
      obtain ⟨u, a', b', d'⟩ := h2 v a b
      exact ⟨u, a', b', d'.trans d⟩
def lower (p : Nat → Bool) : Nat → Nat → Nat
  | 0, v => v
  | m + 1, v => lower p m (if p m = true then m else v)
theorem lower_spec (p : Nat → Bool) : ∀ m v, (∀ t, t < m → p t = false) ∧ lower p m v = v ∨ ∃ t, t < m ∧ lower p m v = t ∧ p t = true ∧ ∀ u, u < t → p u = false
  | 0, v => .inl ⟨fun t h => by omega, rfl⟩
  | m + 1, v => by
    rw [lower]
    rcases lower_spec p m (if p m = true then m else v) with ⟨h1, h2⟩ | ⟨t, h1, h2⟩
    · by_cases hp : p m = true
      · rw [if_pos hp] at h2 ⊢
        exact .inr ⟨m, by omega, h2, hp, h1⟩
      · rw [if_neg hp] at h2 ⊢
        refine .inl ⟨fun t ht => ?_, h2⟩
        by_cases e : t = m
        · rw [e]; simpa using hp
        · exact h1 t (by omega)
    · exact .inr ⟨t, by omega, h2⟩
noncomputable def rep (R : Nat → Nat → Prop) (s : Nat) : Nat := by classical exact lower (fun t => decide (R s t)) s s
structure Equi (n : Nat) (R : Nat → Nat → Prop) : Prop where
  refl : ∀ s, s < n → R s s
  symm : ∀ s t, s < n → t < n → R s t → R t s
  trans : ∀ s t u, s < n → t < n → u < n → R s t → R t u → R s u
theorem rep_spec {n : Nat} {R : Nat → Nat → Prop} (h : Equi n R) {s : Nat} (hs : s < n) : rep R s ≤ s ∧ R s (rep R s) ∧ ∀ t, t < rep R s → ¬ R s t := by
  classical
  unfold rep
  rcases lower_spec (fun t => decide (R s t)) s s with ⟨h1, h2⟩ | ⟨t, h1, h2, h3, h4⟩
  · have e : lower (fun t => decide (R s t)) s s = s := h2
    rw [e]
    exact ⟨Nat.le_refl _, h.refl s hs, fun t ht hr => by have := h1 t ht; simp [hr] at this⟩
  · have e : lower (fun t => decide (R s t)) s s = t := h2
    rw [e]
    exact ⟨by omega, by simpa using h3, fun u hu hr => by have := h4 u hu; simp [hr] at this⟩
theorem rep_eq {n : Nat} {R : Nat → Nat → Prop} (h : Equi n R) {s t : Nat} (hs : s < n) (ht : t < n) : rep R s = rep R t ↔ R s t := by
  obtain ⟨s1, s2, s3⟩ := rep_spec h hs
  obtain ⟨t1, t2, t3⟩ := rep_spec h ht
  constructor
  · intro e
    rw [← e] at t2
    exact h.trans _ _ _ hs (by omega) ht s2 (h.symm _ _ ht (by omega) t2)
  · intro e
    rcases Nat.lt_trichotomy (rep R s) (rep R t) with q | q | q
    · exact absurd (h.trans _ _ _ ht hs (by omega) (h.symm _ _ hs ht e) s2) (t3 _ q)
    · exact q
    · exact absurd (h.trans _ _ _ hs ht (by omega) e t2) (s3 _ q)
theorem E_equi (nx mk : List Int) (k : Nat) : Equi nx.length (E nx mk k) := ⟨fun _ _ => rfl, fun _ _ _ _ h => Eq.symm h, fun _ _ _ _ _ _ h g => Eq.trans h g⟩
def RepOk (nx mk : List Int) (k : Nat) (l : List Int) : Prop := l.length = nx.length ∧ ∀ s : Nat, s < nx.length → rd l s = (rep (E nx mk k) s : Int)
theorem RepOk.eq_iff {nx mk : List Int} {k : Nat} {l : List Int} (h : RepOk nx mk k l) {s t : Nat} (hs : s < nx.length) (ht : t < nx.length) : rd l s = rd l t ↔ E nx mk k s t := by
  rw [h.2 s hs, h.2 t ht, ← rep_eq (E_equi nx mk k) hs ht]
  omega
theorem RepOk.range {nx mk : List Int} {k : Nat} {l : List Int} (h : RepOk nx mk k l) {s : Nat} (hs : s < nx.length) : 0 ≤ rd l s ∧ rd l s < nx.length := by
  rw [h.2 s hs]
  have := (rep_spec (E_equi nx mk k) hs).1
  omega
theorem RepOk.succ {nx mk : List Int} (hv : VW nx mk) {k : Nat} {l : List Int} (h : RepOk nx mk k l) {s t : Nat} (hs : s < nx.length) (ht : t < nx.length) : E nx mk (k + 1) s t ↔ rd mk s = rd mk t ∧ rd l s = rd l t ∧ setTo nx l s nx.length = setTo nx l t nx.length := by
  have h6 := hv.le
  rw [E_succ hv hs ht, h.eq_iff hs ht, set_eq (fun s hs => inS_mono (hv.next s hs) h6) h6 (fun t ht => by have := h.range ht; omega) hs ht]
  have c : ∀ u v, u < nx.length → v < nx.length → (rd l u = rd l v ↔ E nx mk k u v) := fun u v hu hv' => h.eq_iff hu hv'
  constructor
  · rintro ⟨h0, h1, h2⟩
    refine ⟨(E_zero hs ht).1 (E_le hv hs ht (Nat.zero_le _) h0), h0, fun u hu hb => ?_, fun v hw hb => ?_⟩
    · obtain ⟨v, a, b, d⟩ := h1 u hu hb
      exact ⟨v, a, b, (c u v hu a).2 d⟩
    · obtain ⟨u, a, b, d⟩ := h2 v hw hb
      exact ⟨u, a, b, (c u v a hw).2 d⟩
  · rintro ⟨_, h0, h1, h2⟩
    refine ⟨h0, fun u hu hb => ?_, fun v hw hb => ?_⟩
    · obtain ⟨v, a, b, d⟩ := h1 u hu hb
      exact ⟨v, a, b, (c u v hu a).1 d⟩
    · obtain ⟨u, a, b, d⟩ := h2 v hw hb
      exact ⟨u, a, b, (c u v a hw).1 d⟩
theorem list_ext_rd {a b : List Int} (hl : a.length = b.length) (h : ∀ i : Nat, i < a.length → rd a i = rd b i) : a = b := by
  apply List.ext_getElem hl
  intro i h1 h2
  have := h i h1
  simpa [rd, List.getD_eq_getElem?_getD, h1, h2] using this
end Go.Proofs.Ytjffhhalmicodaa.L
end

section
section
set_option linter.unusedVariables false
set_option linter.unusedSimpArgs false
namespace Go.Proofs.YtjffhhalmicodaaW.PrintWords
open Go.RowKit
theorem add_plain (g j : Nat) : (⟨g, 0, none⟩ : Addr).add j = ⟨g, j, none⟩ := by unfold Addr.add; split <;> simp_all
section
variable {P : Program} {ops : Array Oper} {rest : List Oper} {o : Oper} {a : Act} {Q : Exit → Act → World → Prop}
end
section
variable {P : Program}
end
section
variable {P : Program} {ops : Array Oper} {rest : List Oper} {o : Oper} {a : Act} {Q : Exit → Act → World → Prop}
end
section
variable {P : Program} {ops : Array Oper} {rest : List Oper} {o : Oper} {a : Act} {Q : Exit → Act → World → Prop}
end
section
variable {P : Program} {ops : Array Oper} {o : Oper} {a : Act} {Q : Exit → Act → World → Prop} {K : Act → World → Prop}
theorem step_append_cells {w0 W : World} (base : Nat) (hw : Region.wanted o (yielded ops a.tmps) = true) (s x : Operand) (t e : TypeId) (z : Value) (size bytes : Nat)
    (ho : o.op = .call { callee := .builtin .append, args := #[s, x], argTypes := #[t, t] })
    (ht : P.underlying t = some (.slice e)) (hinfo : (P.info? e).map (fun i => (i.zero, i.size, i.bytes)) = some (some z, size, bytes)) (hz : z.cells.size = size) (hs0 : 0 < size) (hb0 : 0 < bytes)
    (v : Value) (n : Nat) (xs ys : List Value) (hs : a.eval s = v) (hx : a.eval x = .slice (some ⟨W.heap.size, 0, none⟩) 1 1) (hys : ys.length = size) (h1 : ∀ u ∈ ys, u.oneCell' = true)
    (HO : W.ownsRow base e size v n xs) (HB : Below base w0 W) (hbase : base ≤ W.heap.size) (hl : (n + 1) * bytes ≤ 140737488355328)
    (h : ∀ v1 w1, w1.ownsRow base e size v1 (n + 1) (xs ++ ys) → Below base w0 w1 → W.grownBy w1 v.ownBlock → (v1.ownBlock = v.ownBlock ∨ ∃ b, v1.ownBlock = some b ∧ W.heap.size ≤ b) → K (a.put o.dst v1) w1) :
    if Region.wanted o (yielded ops a.tmps) = true then Oper.wp P o a (W.alloc (.cells ys.toArray e)) K Q else K (a.put o.dst undef) (W.alloc (.cells ys.toArray e)) := by
  obtain ⟨i0, hi, hzz⟩ := Option.map_eq_some_iff.1 hinfo
  simp only [Prod.mk.injEq] at hzz
  obtain ⟨hz0, hz1, hz2⟩ := hzz
  have hlen : n + 1 ≤ 140737488355328 := Nat.le_trans (Nat.le_mul_of_pos_right _ hb0) hl
  rw [if_pos hw]
  obtain ⟨v1, w1, hr, hown, hg, _, hat⟩ := run_append_own_at (P := P) (W.alloc (.cells ys.toArray e)) base t o.type e i0 z size bytes ht hi hz0 hz1 hz2 hz hs0 v n xs (HO.alloc _) ⟨W.heap.size, 0, none⟩ 1 1 ys (by rw [hys]; simp)
    (by simpa using World.news_of_block (cs := ys.toArray) (t := e) (fr := (0, 0)) (heap_alloc_new W (.cells ys.toArray e))) h1 (by simp only [maxLen]; omega) hl (by simp; omega)
  unfold Oper.wp execOp
  simp only [ho, resolve, invoke, builtin, Sem.run_bind, Sem.run_pure, Result.andThen_ok, List.map_toArray, List.map_cons, List.map_nil, hs, hx, hr]
  refine h v1 w1 hown ((HB.alloc hbase _).grown hg (by simp; omega) (own_base HO)) (World.grownBy.trans (World.grownBy_alloc W _ _) hg) ?_
  rcases hat with hat | hat
  · exact .inl hat
  · exact .inr ⟨_, hat, by simp⟩
end
section
variable {α : Type} {enc : α → Value} {d : α}
theorem own_at_of {W : World} {base g n cap : Nat} {e : TypeId} {xs : List α} (h : W.ownsRow base e 1 (.slice (some ⟨g, 0, none⟩) n cap) n (encs enc xs)) (i : Int) (h0 : 0 ≤ i) (h1 : i < n) :
    W.cell? ⟨g, i.toNat, none⟩ = some (enc (rdOf d xs i)) ∧ W.frozen? ⟨g, i.toNat, none⟩ = false := by
  have hl : xs.length = n := by have := h.1; simp [encs] at this; exact this
  constructor
  · have hc := h.cells (g := g) rfl i.toNat _ (encs_get (d := d) xs i.toNat (by omega))
    rwa [add_plain] at hc
  · rcases h.2 with ⟨h', _⟩ | ⟨g', cap', cur, h', _, hh, _⟩
    · cases h'
    · have : g = g' := by injection h' with h'; injection h' with h'; injection h' with h'
      subst this
      simp [World.frozen?, hh]
theorem own_store_of {W : World} {base g n cap : Nat} {e : TypeId} {xs : List α} (h : W.ownsRow base e 1 (.slice (some ⟨g, 0, none⟩) n cap) n (encs enc xs)) (i : Int) (x : α) :
    (W.setCell ⟨g, i.toNat, none⟩ (enc x)).ownsRow base e 1 (.slice (some ⟨g, 0, none⟩) n cap) n (encs enc (xs.set i.toNat x)) ∧ W.grownBy (W.setCell ⟨g, i.toNat, none⟩ (enc x)) (some g) := by
  have hs := h.stored i.toNat (enc x)
  have he : (encs enc xs).set i.toNat (enc x) = encs enc (xs.set i.toNat x) := by simp [encs, List.map_set]
  rwa [he] at hs
end
section
variable {α : Type} {P : Program} {ops : Array Oper} {rest : List Oper} {o : Oper} {a : Act} {Q : Exit → Act → World → Prop}
end
section
variable {P : Program}
end
section
variable {α : Type} {R R' : α → List Value → Prop} {e : TypeId} {size : Nat} {w w1 : World} {base : Nat} {v : Value} {ps : List α}
end
section
variable {P : Program} {ops : Array Oper} {rest : List Oper} {o : Oper} {a : Act} {Q : Exit → Act → World → Prop} {α : Type} {R : α → List Value → Prop}
end
section
variable {P : Program} {ops : Array Oper} {o : Oper} {a : Act} {Q : Exit → Act → World → Prop} {K : Act → World → Prop} {α : Type} {R : α → List Value → Prop}
end
section
variable {α : Type} {P : Program}
end
section
variable {P : Program} {ops : Array Oper} {rest : List Oper} {o : Oper} {a : Act} {Q : Exit → Act → World → Prop}
end
namespace Kd
section
variable {α : Type} {d : Kd α} {e : Nat} {w w1 : World} {base : Nat} {ok ok' : Nat → Prop} {v : Value} {xs : List α}
end
section
variable {P : Program} {ops : Array Oper} {rest : List Oper} {o : Oper} {a : Act} {Q : Exit → Act → World → Prop} {α : Type}
end
section
variable {P : Program} {ops : Array Oper} {o : Oper} {a : Act} {Q : Exit → Act → World → Prop} {Kc : Act → World → Prop} {α : Type}
theorem R_append_step (d : Kd α) {w0 W : World} (base : Nat) (hw : Region.wanted o (yielded ops a.tmps) = true) (s x : Operand) (t e : TypeId) (z : Value) (bytes : Nat)
    (ho : o.op = .call { callee := .builtin .append, args := #[s, x], argTypes := #[t, t] })
    (ht : P.underlying t = some (.slice e)) (hinfo : (P.info? e).map (fun i => (i.zero, i.size, i.bytes)) = some (some z, d.sz, bytes)) (hz : z.cells.size = d.sz) (hs0 : 0 < d.sz) (hb0 : 0 < bytes)
    (v : Value) (xs : List α) (p : α) (cs : List Value) (ok okp : Nat → Prop) (hs : a.eval s = v) (hx : a.eval x = .slice (some ⟨W.heap.size, 0, none⟩) 1 1) (hp : d.M W base okp p cs) (hokp : ∀ k, okp k → ok k ∧ some k ≠ v.ownBlock) (hfresh : ∀ k, W.heap.size ≤ k → ok k)
    (HO : d.R e W base ok v xs) (HB : Below base w0 W) (hbase : base ≤ W.heap.size) (hl : (xs.length + 1) * bytes ≤ 140737488355328)
    (h : ∀ v1 w1, d.R e w1 base ok v1 (xs ++ [p]) → Below base w0 w1 → W.grownBy w1 v.ownBlock → (v1.ownBlock = v.ownBlock ∨ ∃ b, v1.ownBlock = some b ∧ W.heap.size ≤ b) → Kc (a.put o.dst v1) w1) :
    if Region.wanted o (yielded ops a.tmps) = true then Oper.wp P o a (W.alloc (.cells cs.toArray e)) Kc Q else Kc (a.put o.dst undef) (W.alloc (.cells cs.toArray e)) := by
  obtain ⟨h0, inner, hown, hr⟩ := HO
  refine step_append_cells base hw s x t e z d.sz bytes ho ht hinfo hz hs0 hb0 v xs.length inner cs hs hx (d.K_len (d.K_of_M hp)) (d.K_one (d.K_of_M hp)) hown HB hbase hl ?_
  intro v1 w1 hown1 hb1 hg1 hat1
  exact h v1 w1 (R_appended h0 hr hp hokp hfresh hown1 hg1 hat1) hb1 hg1 hat1
end
end Kd
namespace Kd
section
variable {α : Type} {F : Kd α → Kd α} {sz : Nat} {E : List Nat} {hs : ∀ n, (upto F sz E n).sz = sz} {hE : ∀ n q, q ∈ (upto F sz E n).E → q ∈ E}
end
end Kd
namespace Kd
theorem R_after {α : Type} {d : Kd α} {e base : Nat} {ok : Nat → Prop} {W w1 : World} {u v v1 : Value} {xs : List α} (h : d.R e W base (fun k => ok k ∧ some k ≠ v.ownBlock) u xs) (hg : W.grownBy w1 v.ownBlock) (hat : v1.ownBlock = v.ownBlock ∨ ∃ b, v1.ownBlock = some b ∧ W.heap.size ≤ b) : d.R e w1 base (fun k => ok k ∧ some k ≠ v1.ownBlock) u xs := by
  refine R_mono (R_move (R_bound h) (fun k hk => hg.block k hk.2.2.1 hk.1.2)) (fun k hk => ⟨hk.1.1, ?_⟩)
  rcases hat with hat | ⟨b, hb, hle⟩
  · rw [hat]; exact hk.1.2
  · rw [hb]
    intro he
    injection he with he
    have := hk.2.2.1
    omega
end Kd
namespace Kd
section
variable {α β : Type} {d : Kd α} {d' : Kd β} {e e' : Nat} {w w1 W : World} {base b b' : Nat} {ok ok' okv oku : Nat → Prop} {v u : Value} {xs : List α} {ys : List β}
theorem C_nil (d : Kd α) (w : World) : d.C w none ([] : List α).length [] := ⟨rfl, by simp, fun h => absurd h (Nat.lt_irrefl 0)⟩
theorem R_form (h : d.R e w base ok v xs) (hp : 0 < xs.length) : ∃ g cap, v = .slice (some ⟨g, 0, none⟩) xs.length cap ∧ base ≤ g ∧ g < w.heap.size ∧ ∃ cells, w.heap[g]? = some (.cells cells e (0, 0)) := by
  obtain ⟨inner, ho⟩ := R_own h
  obtain ⟨g, cap, he, hb, hl⟩ := ho.form hp
  obtain ⟨cells, hc⟩ := own_typed ho g (by rw [he]; simp [Value.ownBlock])
  exact ⟨g, cap, he, hb, hl, cells, hc⟩
end
section
variable {w W : World} {A : Option Addr} {n : Nat}
variable {α : Type} {enc : α → Value} {h1 : ∀ x, (enc x).oneCell' = true} {e base g cap : Nat} {ok : Nat → Prop} {xs : List α}
theorem R_cell (d : α) (h : (scalar enc h1).R e W base ok (.slice (some ⟨g, 0, none⟩) xs.length cap) xs) (i : Int) (h0 : 0 ≤ i) (hi : i < xs.length) : W.cell? ⟨g, i.toNat, none⟩ = some (enc (rdOf d xs i)) ∧ W.frozen? ⟨g, i.toNat, none⟩ = false := own_at_of (own_of_R h) i h0 hi
theorem R_put (h : (scalar enc h1).R e W base ok (.slice (some ⟨g, 0, none⟩) xs.length cap) xs) (i : Int) (x : α) : (scalar enc h1).R e (W.setCell ⟨g, i.toNat, none⟩ (enc x)) base ok (.slice (some ⟨g, 0, none⟩) xs.length cap) (xs.set i.toNat x) ∧ W.grownBy (W.setCell ⟨g, i.toNat, none⟩ (enc x)) (some g) := by
  obtain ⟨ho, hg⟩ := own_store_of (own_of_R h) i x
  exact ⟨R_of_own (by rw [List.length_set]; exact ho) h.1, hg⟩
end
section
variable {P : Program} {ops : Array Oper} {rest : List Oper} {o : Oper} {a : Act} {Q : Exit → Act → World → Prop}
variable {α : Type}
theorem reps_made {α : Type} {R : α → List Value → Prop} {z : Value} {size : Nat} {z0 : α} (hz : z.cells.size = size) (hs : 0 < size) (h0 : R z0 z.cells.toList) (m : Nat) : Reps R size (List.replicate m z0) (madeCells z.cells (m * size)).toList := by
  refine ⟨by simp [size_madeCells], fun j p hj => ?_⟩
  obtain ⟨hjl, hp⟩ := List.getElem?_eq_some_iff.1 hj
  have hjm : j < m := by simpa using hjl
  have hp' : z0 = p := by simpa using hp
  subst hp'
  have hle : j * size + size ≤ m * size := by rw [← Nat.succ_mul]; exact Nat.mul_le_mul_right _ hjm
  have : ((madeCells z.cells (m * size)).toList.drop (j * size)).take size = z.cells.toList := by
    apply List.ext_getElem
    · simp [size_madeCells, hz]
      omega
    · intro i h1 h2
      have hi : i < size := by rw [Array.length_toList, hz] at h2; exact h2
      have hmod : (j * size + i) % size = i := by
        rw [Nat.mul_comm, Nat.mul_add_mod]
        exact Nat.mod_eq_of_lt hi
      simp [madeCells, hz, hmod]
      rw [getElem!_pos z.cells i (by omega)]
  rw [this]
  exact h0
theorem R_make (d : Kd α) {w0 W : World} (base e : Nat) (hgd : o.guard = none) {N : Tmp} (hd : o.dst = some N) (t : TypeId) (x y : Operand) (ho : o.op = .makeSlice t x y) (n : Int) (hx : a.eval x = .int .i64 n) (hy : a.eval y = .int .i64 n)
    (ht : P.underlying t = some (.slice e)) (z : Value) (bytes : Nat) (hinfo : (P.info? e).map (fun i => (i.zero, i.size, i.bytes)) = some (some z, d.sz, bytes)) (hz : z.cells.size = d.sz) (hs0 : 0 < d.sz) (hb0 : 0 < bytes)
    (z0 : α) {ok okp : Nat → Prop} (hzero : d.M W base okp z0 z.cells.toList) (hok : ∀ k, okp k → ok k) (hfresh : ok W.heap.size) (h0 : 0 ≤ n) (hl : n.toNat * bytes ≤ 281474976710656) (HB : Below base w0 W) (hbase : base ≤ W.heap.size)
    (h : ∀ v1 w1, d.R e w1 base ok v1 (List.replicate n.toNat z0) → Below base w0 w1 → W.grownBy w1 none → (∃ b, v1.ownBlock = some b ∧ W.heap.size ≤ b) → wpList P ops Q rest (a.put o.dst v1) w1) : wpList P ops Q (o :: rest) a W := by
  obtain ⟨m, rfl⟩ := Int.eq_ofNat_of_zero_le h0
  simp only [Int.toNat_natCast] at hl h
  obtain ⟨i0, hi, hzz⟩ := Option.map_eq_some_iff.1 hinfo
  simp only [Prod.mk.injEq] at hzz
  obtain ⟨hz0, hz1, hz2⟩ := hzz
  have hm : m ≤ 281474976710656 := Nat.le_trans (Nat.le_mul_of_pos_right _ hb0) hl
  have hr := run_make (P := P) W t e i0 z ht hi hz0 .i64 .i64 (m : Int) (m : Int) (by omega) (by omega)
    (by
      have h3 : ((i0.bytes * m : Nat) : Int) ≤ 281474976710656 := by rw [hz2, Nat.mul_comm]; omega
      rwa [Int.natCast_mul] at h3) (by omega)
  simp only [Int.toNat_natCast] at hr
  rw [hz1] at hr
  refine R_lit d base e hgd hd (xs := List.replicate m z0) (inner := (madeCells z.cells (m * d.sz)).toList) (okp := okp) (ok := ok) ?_ (reps_made hz hs0 hzero m) hok hfresh HB hbase (by simp; omega) h
  simp [execOp, ho, hx, hy, hr]
end
end Kd
section
variable {P : Program}
end
section
variable {w w1 : World} {base n size : Nat} {e : TypeId} {v : Value} {xs : List Value}
theorem q_of_own (h : w.ownsRow base e size v n xs) : QRow w base e size v n xs := by
  obtain ⟨h1, h2⟩ := h
  refine ⟨h1, ?_⟩
  rcases h2 with ⟨rfl, h0⟩ | ⟨g, cap, cur, rfl, hb, hh, hnc, hcm, hcs, ht⟩
  · exact .inl ⟨h0, none, rfl, fun a ha => by cases ha⟩
  · exact .inr ⟨g, 0, cap, cur, by rw [Nat.zero_mul], hb, hh, hnc, by rw [Nat.zero_add]; exact hcm, by rw [Nat.zero_add]; exact hcs, by rw [Nat.zero_mul, List.drop_zero]; exact ht⟩
end
section
variable {P : Program}
end
namespace Kd
section
variable {α : Type} {d : Kd α} {e : Nat} {w w1 W : World} {base : Nat} {ok ok' : Nat → Prop} {v : Value} {xs : List α}
theorem Q_of_R (h : d.R e w base ok v xs) : d.Q e w base ok v xs := by
  obtain ⟨h0, inner, ho, hr⟩ := h
  exact ⟨h0, inner, q_of_own ho, hr⟩
theorem Q_nil (d : Kd α) (e : Nat) (w : World) (base : Nat) (ok : Nat → Prop) : d.Q e w base ok (.slice none 0 0) [] := Q_of_R (R_nil d e w base ok)
end
section
variable {P : Program} {ops : Array Oper} {rest : List Oper} {o : Oper} {a : Act} {Q' : Exit → Act → World → Prop} {Kc : Act → World → Prop} {α : Type}
end
end Kd
namespace Kd
section
variable {α : Type} {d : Kd α} {e e' : Nat} {w w1 W : World} {base : Nat} {ok : Nat → Prop} {u v : Value} {xs : List α}
theorem fresh' (hlt : ∀ k, u.ownBlock = some k → k < W.heap.size) : ∀ k, W.heap.size ≤ k → some k ≠ u.ownBlock := fun k hk he => by have := hlt k he.symm; omega
end
end Kd
namespace Kd
section
variable {α : Type} {d : Kd α} {e base g n cap : Nat} {ok okp : Nat → Prop} {W : World} {xs : List α}
end
end Kd
namespace Kd
section
variable {α : Type} {F : Kd α → Kd α} {sz : Nat} {E : List Nat} {hs : ∀ n, (upto F sz E n).sz = sz} {hE : ∀ n q, q ∈ (upto F sz E n).E → q ∈ E}
end
end Kd
namespace Kd
section
variable {P : Program} {ops : Array Oper} {rest : List Oper} {o : Oper} {a : Act} {Q : Exit → Act → World → Prop} {α : Type}
end
end Kd
namespace Kd
section
variable {P : Program} {ops : Array Oper} {rest : List Oper} {o : Oper} {a : Act} {Q : Exit → Act → World → Prop} {α : Type}
end
end Kd
namespace Kd
section
variable {α : Type} {k : Kd α} {w : World} {A : Option Addr} {xs : List α} {m c : Nat}
end
end Kd
section
variable {P : Program}
end
namespace Kd
section
variable {α β : Type} {d : Kd α} {d' : Kd β} {e e' base base' n : Nat} {ok ok' : Nat → Prop} {w W w1 W1 : World} {v u : Value} {xs : List α} {ys : List β} {A : Option Addr} {c : Nat}
end
section
variable {α : Type} {enc : α → Value} {h1 : ∀ x, (enc x).oneCell' = true} {w W : World} {A : Option Addr} {n g : Nat} {xs : List α}
end
end Kd
namespace Kd
section
variable {α : Type} {d : Kd α} {e base g : Nat} {ok : Nat → Prop} {w w1 : World} {v : Value} {xs : List α} {o : Obj}
end
end Kd
section
variable {P : Program} {ops : Array Oper} {rest : List Oper} {o : Oper} {a : Act} {Q : Exit → Act → World → Prop}
end
namespace Kd
section
variable {α : Type} {enc : α → Value} {h1 : ∀ x, (enc x).oneCell' = true} {e base g n cap : Nat} {ok : Nat → Prop} {W : World} {xs : List α}
theorem R_celln (d : α) (h : (scalar enc h1).R e W base ok (.slice (some ⟨g, 0, none⟩) n cap) xs) (i : Int) (h0 : 0 ≤ i) (hi : i < n) : W.cell? ⟨g, i.toNat, none⟩ = some (enc (rdOf d xs i)) ∧ W.frozen? ⟨g, i.toNat, none⟩ = false := by
  obtain ⟨rfl, _⟩ := R_reads' h
  exact R_cell d h i h0 hi
theorem R_putn (h : (scalar enc h1).R e W base ok (.slice (some ⟨g, 0, none⟩) n cap) xs) (i : Int) (x : α) : (scalar enc h1).R e (W.setCell ⟨g, i.toNat, none⟩ (enc x)) base ok (.slice (some ⟨g, 0, none⟩) n cap) (xs.set i.toNat x) := by
  obtain ⟨rfl, _⟩ := R_reads' h
  exact (R_put h i x).1
end
end Kd
section
variable {P : Program} {ops : Array Oper} {rest : List Oper} {o : Oper} {a : Act} {Q : Exit → Act → World → Prop}
theorem store_event {W w1 : World} (hgd : o.guard = none) {t : TypeId} {p : Tmp} {v : Operand} (_ho : o.op = .store t (.tmp p) v) (hN : o.dst = none)
    (hrun : (execOp a.eval o).run P W = .ok .skip w1) (h : ∀ w', w' = w1 → wpList P ops Q rest a w') : wpList P ops Q (o :: rest) a W := by
  refine wpList_plain hgd fun K hK => ?_
  unfold Oper.wp
  rw [hrun]
  show K (a.put o.dst undef) w1
  rw [hN]
  exact hK _ _ (h _ rfl)
end
namespace Kd
section
variable {α : Type} {enc : α → Value} {h1 : ∀ x, (enc x).oneCell' = true} {e base g n cap : Nat} {ok : Nat → Prop} {W : World} {xs : List α}
theorem R_putg (h : (scalar enc h1).R e W base ok (.slice (some ⟨g, 0, none⟩) n cap) xs) (i : Int) (x : α) : (scalar enc h1).R e (W.setCell ⟨g, i.toNat, none⟩ (enc x)) base ok (.slice (some ⟨g, 0, none⟩) n cap) (xs.set i.toNat x) ∧ W.grownBy (W.setCell ⟨g, i.toNat, none⟩ (enc x)) (some g) := by
  obtain ⟨rfl, _⟩ := R_reads' h
  exact R_put h i x
end
end Kd
section
variable {P : Program} {ops : Array Oper} {rest : List Oper} {o : Oper} {a : Act} {Q : Exit → Act → World → Prop} {W : World}
theorem gate_store {t : TypeId} {p : Tmp} {v : Operand} (_ho : o.op = .store t (.tmp p) v) (h : wpList P ops Q (o :: rest) a W) : wpList P ops Q (o :: rest) a W := h
end
section
variable {P : Program} {ops : Array Oper} {o : Oper} {a : Act} {Q : Exit → Act → World → Prop} {Kc : Act → World → Prop}
namespace Kd
variable {α : Type}
end Kd
end
section
variable {P : Program} {tmps : Array Value} {w : World}
end
namespace Kd
section
variable {P : Program} {α : Type}
end
section
variable {P : Program} {ops : Array Oper} {rest : List Oper} {o : Oper} {a : Act} {Q : Exit → Act → World → Prop} {Kc : Act → World → Prop} {α : Type}
end
end Kd
end Go.Proofs.YtjffhhalmicodaaW.PrintWords
end
section
namespace Go.Proofs.YtjffhhalmicodaaW.PrintLast
section
variable {P : Program} {ops : Array Oper} {Q : Exit → Act → World → Prop} {md : Region.Mode} {S : World → Prop} {ds : List Nat}
end
section
variable {P : Program} {ops : Array Oper} {Q : Exit → Act → World → Prop} {md : Region.Mode} {S : World → Prop} {ds : List Nat}
theorem value_ {oi : Oper} {N : Option Tmp} {a : Act} {w w1 : World} {v : Value} {K : Act → World → Prop} (hw : Region.wanted oi (yielded ops a.tmps) = true) (hN : oi.dst = N) (hrun : (execOp a.eval oi).run P w = .ok (.value v) w1)
    (h : K (a.put N v) w1) : if Region.wanted oi (yielded ops a.tmps) = true then Oper.wp P oi a w K Q else K (a.put N undef) w := by
  rw [if_pos hw]
  subst hN
  unfold Oper.wp
  rw [hrun]
  exact h
end
end Go.Proofs.YtjffhhalmicodaaW.PrintLast
end
section
namespace Go.Proofs.YtjffhhalmicodaaW.PrintWords
open Go.RowKit
namespace Kd
section
variable {α β : Type} {d : Kd α} {d' : Kd β} {e e' : Nat} {w w1 W : World} {base b : Nat} {ok ok' okv oku : Nat → Prop} {u v : Value} {xs : List α} {ys : List β}
theorem S_nil (d : Kd α) (e : Nat) (w : World) (base : Nat) (ok : Nat → Prop) : S d e w base ok (.slice none 0 0) [] := ⟨fun _ => 0, R_nil _ _ _ _ _⟩
end
section
variable {α β : Type} {d : Kd α} {d' : Kd β} {e e' g : Nat} {w w1 W : World} {base b : Nat} {ok ok' okv oku : Nat → Prop} {u v : Value} {xs : List α} {ys : List β}
end
section
open Classical in
variable {P : Program} {ops : Array Oper} {rest : List Oper} {o : Oper} {a : Act} {Q : Exit → Act → World → Prop} {Kc : Act → World → Prop} {α : Type}
end
section
variable {α β : Type} {d : Kd α} {e e' g n cap : Nat} {w w1 W : World} {base : Nat} {ok ok' oki okp : Nat → Prop} {u v : Value} {xs : List α} {i : Int} {c : List Value}
open Classical in
end
section
variable {P : Program} {ops : Array Oper} {rest : List Oper} {o : Oper} {a : Act} {Q : Exit → Act → World → Prop} {α : Type}
end
end Kd
end Go.Proofs.YtjffhhalmicodaaW.PrintWords
end
section
namespace Go.Proofs.YtjffhhalmicodaaW.PrintWords
open Go.RowKit
namespace Foot
variable {P Q : World → Prop} {W W1 : World} {ok ok' : Nat → Prop}
end Foot
namespace Kd
section
variable {α β : Type} {d : Kd α} {e base n n' cc g N : Nat} {ok ok' okp S : Nat → Prop} {w w0 w1 W W1 : World} {A A' : Option Addr} {u v v1 : Value} {xs : List α} {xs' : List β} {d' : Kd β} {x : α} {c : List Value}
theorem F_nil (d : Kd α) (W : World) (ok : Nat → Prop) : F d W ok none ([] : List α).length [] := fun W' _ => C_nil d W'
theorem FK_of_M (h : d.M W base ok x c) : FK d W ok x c := fun _ hW => d.K_of_M (M_step h hW)
end
end Kd
end Go.Proofs.YtjffhhalmicodaaW.PrintWords
end
section
namespace Go.Proofs.YtjffhhalmicodaaW.PrintWords
open Go.RowKit
namespace Kd
def chunks (sz : Nat) (n : Nat) (inner : List Value) : List (List Value) := (List.range n).map fun j => (inner.drop (j * sz)).take sz
theorem chunks_length (sz n : Nat) (inner : List Value) : (chunks sz n inner).length = n := by simp [chunks]
theorem chunks_at {sz n : Nat} {inner : List Value} {j : Nat} (hj : j < n) : (chunks sz n inner)[j]? = some ((inner.drop (j * sz)).take sz) := by simp [chunks, hj]
theorem chunks_get {sz n : Nat} {inner : List Value} {j : Nat} {c : List Value} (h : (chunks sz n inner)[j]? = some c) : c = (inner.drop (j * sz)).take sz := by
  have hj : j < n := by have := (List.getElem?_eq_some_iff.1 h).1; rwa [chunks_length] at this
  rw [chunks_at hj] at h
  injection h with h
  exact h.symm
theorem reps_raw {α : Type} {Rr : α → List Value → Prop} {sz : Nat} {xs : List α} {inner : List Value} (h : Reps Rr sz xs inner) (hR : ∀ x c, Rr x c → c.length = sz ∧ ∀ u ∈ c, u.oneCell' = true) : Reps (fun x cs => cs = x ∧ cs.length = sz ∧ ∀ u ∈ cs, u.oneCell' = true) sz (chunks sz xs.length inner) inner := by
  refine ⟨by rw [chunks_length]; exact h.1, fun j p hj => ?_⟩
  have hjl : j < xs.length := by have := (List.getElem?_eq_some_iff.1 hj).1; rwa [chunks_length] at this
  have hp := chunks_get hj
  exact ⟨hp.symm, hR _ _ (h.2 j _ (List.getElem?_eq_getElem hjl))⟩
section
variable {α : Type} {d : Kd α} {e base n cc g : Nat} {ok ok' okp S : Nat → Prop} {w w1 W W1 : World} {A : Option Addr} {u v v1 : Value} {xs : List α} {x : α} {c : List Value}
theorem R_N (h : d.R e w base ok v xs) : N d e w base ok v xs := by
  obtain ⟨h0, inner, ho, hr⟩ := h
  refine ⟨h0, chunks d.sz xs.length inner, chunks_length _ _ _, ⟨fun k hk => hk.symm, inner, by rw [chunks_length]; exact ho, reps_raw hr (fun x c hp => ⟨d.K_len (d.K_of_M hp), d.K_one (d.K_of_M hp)⟩)⟩, fun j x c hx hc => ?_⟩
  rw [chunks_get hc]
  exact FK_of_M (hr.2 j x hx)
theorem N_nil (d : Kd α) (e : Nat) (w : World) (base : Nat) (ok : Nat → Prop) : N d e w base ok (.slice none 0 0) [] := R_N (R_nil _ _ _ _ _)
end
end Kd
end Go.Proofs.YtjffhhalmicodaaW.PrintWords
end
section
namespace Go.Proofs.YtjffhhalmicodaaW.PrintMore
open Go.RowKit Go.Proofs.YtjffhhalmicodaaW.PrintWords
namespace Kd
open Go.Proofs.YtjffhhalmicodaaW.PrintWords.Kd
end Kd
namespace Kd
open Go.Proofs.YtjffhhalmicodaaW.PrintWords.Kd
section
variable {α : Type} {d : Kd α} {e base g N : Nat} {ok : Nat → Prop} {W w1 : World} {u v : Value} {xs : List α}
end
end Kd
end Go.Proofs.YtjffhhalmicodaaW.PrintMore
namespace Go.Proofs.YtjffhhalmicodaaW.PrintWords
open Go.RowKit
section
variable {P : Program} {ops : Array Oper} {rest : List Oper} {o : Oper} {a : Act} {Q : Exit → Act → World → Prop} {W : World}
theorem gate_builtin {b : Builtin} {xs : Array Operand} {ts : Array TypeId} (_ho : o.op = .call { callee := .builtin b, args := xs, argTypes := ts }) (h : wpList P ops Q (o :: rest) a W) : wpList P ops Q (o :: rest) a W := h
end
namespace Kd
section
variable {α : Type} {d : Kd α} {e base : Nat} {ok : Nat → Prop} {W w1 : World} {v : Value} {xs : List α}
end
section
variable {α : Type} {d : Kd α} {e base g n cap : Nat} {ok oki okp : Nat → Prop} {W : World} {xs : List α} {i : Int} {c : List Value}
end
section
variable {α : Type} {d : Kd α} {e base b b' g N : Nat} {ok ok1 : Nat → Prop} {W W2 w1 : World} {u v : Value} {xs ys : List α} {S : Nat → Prop}
end
end Kd
end Go.Proofs.YtjffhhalmicodaaW.PrintWords
namespace Go.Proofs.YtjffhhalmicodaaW.PrintWords
open Go.RowKit
namespace Kd
section
variable {α β : Type} {d : Kd α} {e base base' n m c g N' lo hi : Nat} {ok ok' S : Nat → Prop} {w W w1 : World} {A : Option Addr} {ad : Addr} {u v v1 : Value} {xs : List α}
theorem V_nil (d : Kd α) (e : Nat) (W : World) (base : Nat) (ok : Nat → Prop) : V d e W base ok (.slice none 0 0) [] := ⟨none, 0, rfl, Nat.le_refl _, F_nil d W ok⟩
end
end Kd
end Go.Proofs.YtjffhhalmicodaaW.PrintWords
end
end

section
namespace Go.Proofs.Ytjffhhalmicodaa.PF
open Go.RowKit Go.Proofs.YtjffhhalmicodaaW.PrintWords Go.Proofs.YtjffhhalmicodaaW.PrintLast Go.Proofs.YtjffhhalmicodaaW.PrintMore
attribute [local go_sem] max2_int min2_int max_two min_two max_three min_three max_four min_four
set_option linter.unusedVariables false
set_option linter.unusedSimpArgs false
def errW : Option Int → Value
  | none => .nilIface
  | some c => .iface 0 (.int .i64 c)
theorem errW_none : errW none = .nilIface := rfl
theorem errW_some (c : Int) : errW (some c) = .iface 0 (.int .i64 c) := rfl
theorem info3 : (Try.prog.info? 3).map (fun i => (i.zero, i.size, i.bytes)) = some (some (.int .i64 0), 1, 8) := by kernel_rfl
end Go.Proofs.Ytjffhhalmicodaa.PF
end

section
namespace Go.Proofs.Ytjffhhalmicodaa.PF
open Go.RowKit Go.Proofs.YtjffhhalmicodaaW.PrintWords Go.Proofs.YtjffhhalmicodaaW.PrintLast Go.Proofs.YtjffhhalmicodaaW.PrintMore
attribute [local go_sem] max2_int min2_int max_two min_two max_three min_three max_four min_four
set_option linter.unusedVariables false
set_option linter.unusedSimpArgs false
def comfitref08_led.l0 : Nat → Int → Int → List Int → Int → Int → List Int → List Int → Option (Int)
  | 0, _, _, _, _, _, _, _ => none
  | k + 1, x2, x7, x10, x11, x12, x124000, x124001 => if x12 < x11 then (if 0 ≤ x12 then (if x12 < (x10.length : Int) then (if 0 ≤ x2 then (if x2 < (x124000.length : Int) then (if (Go.bits .and .i64 (shr .i64 (rd x124000 x2) x12) 1) = 1 then (if 0 ≤ (rd x10 x12) then (comfitref08_led.l0 k x2 (Go.bits .or .i64 x7 (shl .i64 1 (rd x10 x12))) x10 x11 (wrap64 (x12 + 1)) x124000 x124001) else (none)) else (comfitref08_led.l0 k x2 x7 x10 x11 (wrap64 (x12 + 1)) x124000 x124001)) else (none)) else (none)) else (none)) else (none)) else (some x7)
def comfitref08_led.f (k : Nat) (l0_0 : List Int) (l0_1 : List Int) (l1 : List Int) (a2 : Int) : Option (Int) := comfitref08_led.l0 k a2 0 l1 (l1.length : Int) 0 l0_0 l0_1
set_option maxHeartbeats 8000000 in
set_option maxRecDepth 100000 in
theorem comfitref08_led.calls (k : Nat) (A0_0 : Option Addr) (c0_0 : Nat) (l0_0 : List Int) (A0_1 : Option Addr) (c0_1 : Nat) (l0_1 : List Int) (A1 : Option Addr) (c1 : Nat) (l1 : List Int) (a2 : Int) (r : Int) (w : World) (hr0_0 : Kd.C (Kd.int .i64) w A0_0 l0_0.length l0_0) (hc0_0 : l0_0.length ≤ c0_0) (hr0_1 : Kd.C (Kd.int .i64) w A0_1 l0_1.length l0_1) (hc0_1 : l0_1.length ≤ c0_1) (hr1 : Kd.C (Kd.int .i64) w A1 l1.length l1) (hc1 : l1.length ≤ c1) (h : comfitref08_led.f k l0_0 l0_1 l1 a2 = some r) :
    Calls Try.prog 80 #[.agg #[.slice A0_0 l0_0.length c0_0, .slice A0_1 l0_1.length c0_1], .slice A1 l1.length c1, .int .i64 a2] w fun e w' => e = .returned (.int .i64 r) ∧ Below w.heap.size w w' := by
  have hu24 := Try.underlying24
  have HR0_0 := Aside0.mk hr0_0
  have HC0_0 := Aside0.mk hc0_0
  clear hr0_0 hc0_0
  have HR0_1 := Aside0.mk hr0_1
  have HC0_1 := Aside0.mk hc0_1
  clear hr0_1 hc0_1
  have HR1 := Aside0.mk hr1
  have HC1 := Aside0.mk hc1
  clear hr1 hc1
  have HB := Aside0.mk (Below.refl w.heap.size w)
  have H : (comfitref08_led.l0 k a2 0 l1 (l1.length : Int) 0 l0_0 l0_1) = some r := h
  clear h
  have H' := Aside0.mk H
  clear H
  go_enter Try.func80, Try.ntmps80
  go_wp2_with (first | ((with_reducible refine gate_dst (N := 3) rfl ?_); refine box_event ?hg (N := 3) ?hd (cs := #[.slice A0_0 l0_0.length c0_0, .slice A0_1 l0_1.length c0_1]) (t := 24) ?hr ?_; (case hd => rfl); (case hg => rfl); (case hr => first | (go_simp; done) | (go_simp; rfl)); intro gb123 hg w4 hbox hb; have n0_ := Aside0.mk (below_step (by repeat (first | (with_reducible first | exact HB.out | apply below_alloc | apply pw_below_drewN | apply below_drew1) | exact HB.out)) hb); have n1_ := Aside0.mk (hbox); have n2_ := Aside0.mk ((by rw [hg]; exact (below_size (by repeat (first | (with_reducible first | exact HB.out | apply below_alloc | apply pw_below_drewN | apply below_drew1) | exact HB.out))) : w.heap.size ≤ gb123)); have n3_ := Aside0.mk ((by rw [hg]; exact (below_size (by repeat (first | (with_reducible first | exact HB.out | apply below_alloc | apply pw_below_drewN | apply below_drew1) | exact HB.out))) : w.heap.size ≤ gb123)); clear HB; have HB := n0_; have BK123 := n1_; have GW123 := n2_; have GE123 := n3_; clear n0_ n1_ n2_ n3_; clear hb hbox hg))
  go_loopg [7, 12] k (fun kq v7 v12 w' => ∃ (x7_1 : Int) (x12_1 : Int), v7 = .int .i64 x7_1 ∧ v12 = .int .i64 x12_1 ∧ Aside0 (comfitref08_led.l0 kq a2 x7_1 l1 (l1.length : Int) x12_1 l0_0 l0_1 = some r) ∧ Aside0 (kq ≤ k) ∧ Aside0 (w'.heap[gb123]? = some (.cells #[(.slice A0_0 l0_0.length c0_0), (.slice A0_1 l0_1.length c0_1)] 24 (0, 0))) ∧ Aside0 (Below w.heap.size w w'))
  case atStart => exact ⟨(0), (0), (by first | rfl | (simp; done) | (simp [*]; done)), (by first | rfl | (simp; done) | (simp [*]; done)), H', ⟨Nat.le_refl _⟩, ⟨by (with_reducible repeat (first | refine blk_drewN ?_ _ | refine blk_drew ?_ | refine blk_alloc ?_ _)); exact BK123.out⟩, ⟨by repeat (first | (with_reducible first | exact HB.out | apply below_alloc | apply pw_below_drewN | apply below_drew1 | refine below_set ?_ GE123.out) | exact HB.out)⟩⟩
  case round =>
    clear H'
    try clear c1
    try clear p2
    obtain ⟨x7_1, x12_1, rfl, rfl, HA, HK1, BK123, HB⟩ := hrel
    cases gk with
    | zero => exact absurd HA.out (by simp [comfitref08_led.l0])
    | succ k1 =>
      have H := HA.out
      clear HA
      simp only [comfitref08_led.l0] at H
      by_cases c5 : x12_1 < (l1.length : Int)
      · rw [if_pos c5] at H
        have c5b0 : decide (x12_1 < (l1.length : Int)) = true := decide_eq_true c5
        clear c5
        by_cases c6 : 0 ≤ x12_1
        · rw [if_pos c6] at H
          have c6b0 : decide (0 ≤ x12_1) = true := decide_eq_true c6
          clear c6
          by_cases c7 : x12_1 < (l1.length : Int)
          · rw [if_pos c7] at H
            have c7b0 : decide (x12_1 < (l1.length : Int)) = true := decide_eq_true c7
            clear c7
            by_cases c8 : 0 ≤ a2
            · rw [if_pos c8] at H
              have c8b0 : decide (0 ≤ a2) = true := decide_eq_true c8
              clear c8
              by_cases c9 : a2 < (l0_0.length : Int)
              · rw [if_pos c9] at H
                have c9b0 : decide (a2 < (l0_0.length : Int)) = true := decide_eq_true c9
                clear c9
                have c10b0 := eq_true (of_decide_eq_true (by first | (with_reducible assumption) | assumption) : 0 ≤ x12_1)
                obtain ⟨ji11, hji11⟩ : ∃ j_ : Int, (shr .i64 (rd l0_0 a2) x12_1) = j_ := ⟨_, rfl⟩
                replace H : (if (Go.bits .and .i64 (ji11) 1) = 1 then (if 0 ≤ (rd l1 x12_1) then (comfitref08_led.l0 k1 a2 (Go.bits .or .i64 x7_1 (shl .i64 1 (rd l1 x12_1))) l1 (l1.length : Int) (wrap64 (x12_1 + 1)) l0_0 l0_1) else (none)) else (comfitref08_led.l0 k1 a2 x7_1 l1 (l1.length : Int) (wrap64 (x12_1 + 1)) l0_0 l0_1)) = some r := by first | (rw [hji11] at H; exact H) | (simp only [hji11] at H ⊢; exact H)
                have hji11_ : ((rd l0_0 a2) / 2 ^ min x12_1.toNat 64) = ji11 := hji11
                have hji11z : x12_1 ≤ 64 → ((rd l0_0 a2) / 2 ^ x12_1.toNat) = ji11 := shr_small hji11
                by_cases c12 : (Go.bits .and .i64 (ji11) 1) = 1
                · rw [if_pos c12] at H
                  have c12b0 : ((Go.bits .and .i64 (ji11) 1) == 1) = true := beq_iff_eq.mpr c12
                  have c12b1 : ((Go.bits .and .i64 (ji11) 1) != 1) = false := bne_eq_false_iff_eq.mpr c12
                  clear c12
                  by_cases c13 : 0 ≤ (rd l1 x12_1)
                  · rw [if_pos c13] at H
                    have c13b0 := eq_true c13
                    have c13b1 : decide (0 ≤ (rd l1 x12_1)) = true := decide_eq_true c13
                    clear c13
                    obtain ⟨ji14, hji14⟩ : ∃ j_ : Int, (shl .i64 1 (rd l1 x12_1)) = j_ := ⟨_, rfl⟩
                    replace H : (comfitref08_led.l0 k1 a2 (Go.bits .or .i64 x7_1 (ji14)) l1 (l1.length : Int) (wrap64 (x12_1 + 1)) l0_0 l0_1) = some r := by first | (rw [hji14] at H; exact H) | (simp only [hji14] at H ⊢; exact H)
                    have hji14_ : (IntKind.i64.wrap (1 * 2 ^ min (rd l1 x12_1).toNat 64)) = ji14 := hji14
                    have hji14z : (rd l1 x12_1) ≤ 64 → (IntKind.i64.wrap (1 * 2 ^ (rd l1 x12_1).toNat)) = ji14 := shl_small hji14
                    have hji14u : (IntKind.i64.wrap (2 ^ min (rd l1 x12_1).toNat 64)) = ji14 := by have h_ := hji14_; rw [Int.one_mul] at h_; exact h_
                    have hji14v : (rd l1 x12_1) ≤ 64 → (IntKind.i64.wrap (2 ^ (rd l1 x12_1).toNat)) = ji14 := fun hle_ => by have h_ := hji14z hle_; rw [Int.one_mul] at h_; exact h_
                    have hji14y : (wrap64 (1 * 2 ^ min (rd l1 x12_1).toNat 64)) = ji14 := (i64_w _).symm.trans hji14_
                    have hji14x : (rd l1 x12_1) ≤ 64 → (wrap64 (1 * 2 ^ (rd l1 x12_1).toNat)) = ji14 := fun h_ => (i64_w _).symm.trans (hji14z h_)
                    have H' := Aside0.mk H
                    clear H
                    have p124 : 0 ≤ (x12_1 : Int) := of_decide_eq_true (by first | (with_reducible assumption) | assumption)
                    have q124 : x12_1 < (l1.length : Int) := of_decide_eq_true (by first | (with_reducible assumption) | assumption)
                    obtain ⟨ad124, e124, hx124_0⟩ := Kd.at_int HR1.out x12_1 p124 q124
                    cases e124
                    replace hx124_0 := (HB.out.cell (World.block_lt_of_cell? w _ hx124_0)).trans hx124_0
                    replace p124 := eq_true p124
                    replace q124 := eq_true q124
                    have hcz15_0 : wr.cell? ⟨gb123, 0, none⟩ = some (.slice A0_0 l0_0.length c0_0) := (blk_cell BK123.out 0).trans rfl
                    have hcz15_1 : wr.cell? ⟨gb123, 1, none⟩ = some (.slice A0_1 l0_1.length c0_1) := (blk_cell BK123.out 1).trans rfl
                    have hfz15_0 := blk_frozen BK123.out 0
                    have hfz15_1 := blk_frozen BK123.out 1
                    have p125 : 0 ≤ (a2 : Int) := of_decide_eq_true (by first | (with_reducible assumption) | assumption)
                    have q125 : a2 < (l0_0.length : Int) := of_decide_eq_true (by first | (with_reducible assumption) | assumption)
                    obtain ⟨ad125, e125, hx125_0⟩ := Kd.at_int HR0_0.out a2 p125 q125
                    cases e125
                    replace hx125_0 := (HB.out.cell (World.block_lt_of_cell? w _ hx125_0)).trans hx125_0
                    replace p125 := eq_true p125
                    replace q125 := eq_true q125
                    go_wp2
                    go_roundg k1
                    case measure => have := HK1.out; omega
                    case rel => exact ⟨(Go.bits .or .i64 x7_1 (ji14)), (wrap64 (x12_1 + 1)), (by first | rfl | (simp; done) | (simp only [← hji14] <;> (first | rfl | simp)) | (simp [*]; done)), (by first | rfl | (simp; done) | (simp [*]; done)), H', ⟨by have := HK1.out; omega⟩, ⟨by (with_reducible repeat (first | refine blk_drewN ?_ _ | refine blk_drew ?_ | refine blk_alloc ?_ _)); exact BK123.out⟩, ⟨by repeat (first | (with_reducible first | exact HB.out | apply below_alloc | apply pw_below_drewN | apply below_drew1 | refine below_set ?_ GE123.out) | exact HB.out)⟩⟩
                  · rw [if_neg c13] at H
                    exact absurd H (by simp)
                · rw [if_neg c12] at H
                  have c12b0 : ((Go.bits .and .i64 (ji11) 1) == 1) = false := beq_eq_false_iff_ne.mpr c12
                  have c12b1 : ((Go.bits .and .i64 (ji11) 1) != 1) = true := bne_iff_ne.mpr c12
                  have H' := Aside0.mk H
                  clear H
                  have p124 : 0 ≤ (x12_1 : Int) := of_decide_eq_true (by first | (with_reducible assumption) | assumption)
                  have q124 : x12_1 < (l1.length : Int) := of_decide_eq_true (by first | (with_reducible assumption) | assumption)
                  obtain ⟨ad124, e124, hx124_0⟩ := Kd.at_int HR1.out x12_1 p124 q124
                  cases e124
                  replace hx124_0 := (HB.out.cell (World.block_lt_of_cell? w _ hx124_0)).trans hx124_0
                  replace p124 := eq_true p124
                  replace q124 := eq_true q124
                  have hcz16_0 : wr.cell? ⟨gb123, 0, none⟩ = some (.slice A0_0 l0_0.length c0_0) := (blk_cell BK123.out 0).trans rfl
                  have hcz16_1 : wr.cell? ⟨gb123, 1, none⟩ = some (.slice A0_1 l0_1.length c0_1) := (blk_cell BK123.out 1).trans rfl
                  have hfz16_0 := blk_frozen BK123.out 0
                  have hfz16_1 := blk_frozen BK123.out 1
                  have p125 : 0 ≤ (a2 : Int) := of_decide_eq_true (by first | (with_reducible assumption) | assumption)
                  have q125 : a2 < (l0_0.length : Int) := of_decide_eq_true (by first | (with_reducible assumption) | assumption)
                  obtain ⟨ad125, e125, hx125_0⟩ := Kd.at_int HR0_0.out a2 p125 q125
                  cases e125
                  replace hx125_0 := (HB.out.cell (World.block_lt_of_cell? w _ hx125_0)).trans hx125_0
                  replace p125 := eq_true p125
                  replace q125 := eq_true q125
                  go_wp2
                  go_roundg k1
                  case measure => have := HK1.out; omega
                  case rel => exact ⟨(x7_1), (wrap64 (x12_1 + 1)), (by first | rfl | (simp; done) | (simp [*]; done)), (by first | rfl | (simp; done) | (simp [*]; done)), H', ⟨by have := HK1.out; omega⟩, ⟨by (with_reducible repeat (first | refine blk_drewN ?_ _ | refine blk_drew ?_ | refine blk_alloc ?_ _)); exact BK123.out⟩, ⟨by repeat (first | (with_reducible first | exact HB.out | apply below_alloc | apply pw_below_drewN | apply below_drew1 | refine below_set ?_ GE123.out) | exact HB.out)⟩⟩
              · rw [if_neg c9] at H
                exact absurd H (by simp)
            · rw [if_neg c8] at H
              exact absurd H (by simp)
          · rw [if_neg c7] at H
            exact absurd H (by simp)
        · rw [if_neg c6] at H
          exact absurd H (by simp)
      · rw [if_neg c5] at H
        have c5b0 : decide (x12_1 < (l1.length : Int)) = false := decide_eq_false c5
        clear c5
        obtain rfl := Option.some.inj H
        go_wp2
        go_ret
        exact ⟨by first | rfl | (simp [errW_none, errW_some] <;> rfl) | (simp [*, errW_none, errW_some] <;> rfl), by repeat (first | (with_reducible first | exact HB.out | apply below_alloc | apply pw_below_drewN | apply below_drew1 | refine below_set ?_ GE123.out) | exact HB.out)⟩
end Go.Proofs.Ytjffhhalmicodaa.PF
end
