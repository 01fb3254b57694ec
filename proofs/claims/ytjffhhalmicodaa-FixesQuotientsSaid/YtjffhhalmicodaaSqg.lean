/- Texts of this claim, merged by a program (wip/tools/shake.py); what nothing names is left out. -/
import Derived.RegionTactic
import Derived.ChangeAlike
import Derived.Test.YtjffhhalmicodaaProg
import Derived.Below
import Derived.Deep.Draws
import Derived.Deep.AppendLies
import Derived.Maps.AppendAt
import Derived.OwnWalk
import Derived.Laws.BytesArg
import Derived.Laws.MakeOwn
import Derived.Laws.OwnMore
import Derived.Deep.OwnRows
import Derived.Tactics
import Derived.Lib.ConvBytes
import Derived.Laws.Slices
import Derived.WalkKit
import Derived.KernelRfl
import Derived.RowKit3
import Derived.Deep.LoopGhost
import Derived.Deep.QuietTactic
import Derived.BigQuiet
import Derived.WideLaws
import Derived.Deep.DeepCutAuto
import Derived.Deep.CutBlock
import Derived.Deep.RegionHeld3
import Derived.Laws.Rows
import Derived.Lib.AppendStr
import Derived.ArgAppend
import Derived.Laws.IdiomCopy
import Derived.OrdersHeld
import Derived.Laws.BitsLemmas
import Derived.RowKit
import Derived.Test.YtjffhhalmicodaaSqf
section
namespace Go.Proofs.Ytjffhhalmicodaa.PF
open Go.RowKit Go.Proofs.YtjffhhalmicodaaW.PrintWords Go.Proofs.YtjffhhalmicodaaW.PrintLast Go.Proofs.YtjffhhalmicodaaW.PrintMore
attribute [local go_sem] max2_int min2_int max_two min_two max_three min_three max_four min_four
set_option linter.unusedVariables false
set_option linter.unusedSimpArgs false
mutual
def comfitref08_Classes.l0 : Nat → List Int → List Int → Int → Int → Option (List Int)
  | 0, _, _, _, _ => none
  | k + 1, x3, x4, x12, x13 => if x13 < x12 then (comfitref08_Classes.l1 k x3 x4 x13 0 x12 x13 x3 (x3.length : Int) 0) else (some x4)
def comfitref08_Classes.l1 : Nat → List Int → List Int → Int → Int → Int → Int → List Int → Int → Int → Option (List Int)
  | 0, _, _, _, _, _, _, _, _, _ => none
  | k + 1, x3, x4, x5, x6, x12, x13, x16, x17, x18 => if x18 < x17 then (if 0 ≤ x18 then (if x18 < (x16.length : Int) then (if (rd x16 x18) = x5 then (comfitref08_Classes.l1 k x3 x4 x5 (Go.bits .or .i64 x6 (shl .i64 1 x18)) x12 x13 x16 x17 (wrap64 (x18 + 1))) else (comfitref08_Classes.l1 k x3 x4 x5 x6 x12 x13 x16 x17 (wrap64 (x18 + 1)))) else (none)) else (none)) else (if x6 > 0 then (if x4.length < 17592186044416 then (comfitref08_Classes.l0 k x3 (x4 ++ [x6]) x12 (wrap64 (x13 + 1))) else (none)) else (comfitref08_Classes.l0 k x3 x4 x12 (wrap64 (x13 + 1))))
end
def comfitref08_Classes.f (k : Nat) (l0_0 : List Int) (l0_1 : List Int) : Option (List Int) := (comfitref08_Level.f k l0_0 l0_1 6).bind fun t143 => (comfitref08_Classes.l0 k t143 ([] : List Int) (t143.length : Int) 0)
set_option maxHeartbeats 8000000 in
set_option maxRecDepth 100000 in
theorem comfitref08_Classes.calls (k : Nat) (A0_0 : Option Addr) (c0_0 : Nat) (l0_0 : List Int) (A0_1 : Option Addr) (c0_1 : Nat) (l0_1 : List Int) (r : List Int) (w : World) (hr0_0 : Kd.C (Kd.int .i64) w A0_0 l0_0.length l0_0) (hc0_0 : l0_0.length ≤ c0_0) (hr0_1 : Kd.C (Kd.int .i64) w A0_1 l0_1.length l0_1) (hc0_1 : l0_1.length ≤ c0_1) (h : comfitref08_Classes.f k l0_0 l0_1 = some r) :
    Calls Try.prog 39 #[.agg #[.slice A0_0 l0_0.length c0_0, .slice A0_1 l0_1.length c0_1]] w fun e w' => ∃ v0_ : Value, e = .returned (v0_) ∧ Kd.R (Kd.int .i64) 3 w' w.heap.size (fun _ => True) v0_ r ∧ Below w.heap.size w w' := by
  have hu24 := Try.underlying24
  have HR0_0 := Aside0.mk hr0_0
  have HC0_0 := Aside0.mk hc0_0
  clear hr0_0 hc0_0
  have HR0_1 := Aside0.mk hr0_1
  have HC0_1 := Aside0.mk hc0_1
  clear hr0_1 hc0_1
  have HB := Aside0.mk (Below.refl w.heap.size w)
  have H : ((comfitref08_Level.f k l0_0 l0_1 6).bind fun t143 => (comfitref08_Classes.l0 k t143 ([] : List Int) (t143.length : Int) 0)) = some r := h
  clear h
  replace H := Option.bind_eq_some_iff.mp H
  obtain ⟨t143, A20, H⟩ := H
  replace H : (comfitref08_Classes.l0 k t143 ([] : List Int) (t143.length : Int) 0) = some r := H
  have A2 := Aside0.mk A20
  clear A20
  have H' := Aside0.mk H
  clear H
  go_enter Try.func39, Try.ntmps39
  go_wp2_with (first | ((with_reducible refine gate_dst (N := 1) rfl ?_); refine box_event ?hg (N := 1) ?hd (cs := #[.slice A0_0 l0_0.length c0_0, .slice A0_1 l0_1.length c0_1]) (t := 24) ?hr ?_; (case hd => rfl); (case hg => rfl); (case hr => first | (go_simp; done) | (go_simp; rfl)); intro gb142 hg w3 hbox hb; have n0_ := Aside0.mk (below_step (by repeat (first | (with_reducible first | exact HB.out | apply below_alloc | apply pw_below_drewN | apply below_drew1) | exact HB.out)) hb); have n1_ := Aside0.mk (hbox); have n2_ := Aside0.mk ((by rw [hg]; exact (below_size (by repeat (first | (with_reducible first | exact HB.out | apply below_alloc | apply pw_below_drewN | apply below_drew1) | exact HB.out))) : w.heap.size ≤ gb142)); have n3_ := Aside0.mk ((by rw [hg]; exact (below_size (by repeat (first | (with_reducible first | exact HB.out | apply below_alloc | apply pw_below_drewN | apply below_drew1) | exact HB.out))) : w.heap.size ≤ gb142)); clear HB; have HB := n0_; have BK142 := n1_; have GW142 := n2_; have GE142 := n3_; clear n0_ n1_ n2_ n3_; clear hb hbox hg; have hcz4_0 : w3.cell? ⟨gb142, 0, none⟩ = some (.slice A0_0 l0_0.length c0_0) := (blk_cell BK142.out 0).trans rfl; have hcz4_1 : w3.cell? ⟨gb142, 1, none⟩ = some (.slice A0_1 l0_1.length c0_1) := (blk_cell BK142.out 1).trans rfl; have hfz4_0 := blk_frozen BK142.out 0; have hfz4_1 := blk_frozen BK142.out 1) | ((with_reducible refine gate_callee (f := 65) rfl ?_); refine goesL_ (some 10) rfl rfl Try.func65 (by kernel_rfl) rfl #[.agg #[.slice A0_0 l0_0.length c0_0, .slice A0_1 l0_1.length c0_1], .int .i64 6] rfl (by (try simp only [List.map_toArray, List.map_cons, List.map_nil]); first | done | rfl | (simp only [List.length_drop, List.length_take]; rfl)) ?_; (with_reducible refine (comfitref08_Level.calls k _ _ l0_0 _ _ l0_1 6 t143 _ ?side1 ?side2 ?side3 ?side4 A2.out).mono ?_); (case side1 => repeat (first | exact (Kd.C_below HR0_0.out HB.out) | (with_reducible refine Kd.C_alloc ?_ _) | (with_reducible refine Kd.C_drewN ?_ _) | (with_reducible refine Kd.C_drew ?_))); (case side2 => exact HC0_0.out); (case side3 => repeat (first | exact (Kd.C_below HR0_1.out HB.out) | (with_reducible refine Kd.C_alloc ?_ _) | (with_reducible refine Kd.C_drewN ?_ _) | (with_reducible refine Kd.C_drew ?_))); (case side4 => exact HC0_1.out); rintro e w5 ⟨v144, rfl, ho0, hb⟩; refine ⟨_, rfl, ?_⟩; have n0_ := Aside0.mk (Kd.R_lower ho0 (below_size (by repeat (first | (with_reducible first | exact HB.out | apply below_alloc | apply pw_below_drewN | apply below_drew1 | refine below_set ?_ GE142.out) | exact HB.out)))); have n1_ := Aside0.mk (blk_below (g := gb142) (o := .cells #[.slice A0_0 l0_0.length c0_0, .slice A0_1 l0_1.length c0_1] 24 (0, 0)) (by (with_reducible repeat (first | refine blk_drewN ?_ _ | refine blk_drew ?_ | refine blk_alloc ?_ _)); exact BK142.out) hb); have n2_ := Aside0.mk (below_step (by repeat (first | (with_reducible first | exact HB.out | apply below_alloc | apply pw_below_drewN | apply below_drew1 | refine below_set ?_ GE142.out) | exact HB.out)) hb); clear BK142; clear HB; have HO145 := n0_; have BK142 := n1_; have HB := n2_; clear n0_ n1_ n2_; (try clear hb); (try clear hb2); (try clear hk); (try clear hi); (try clear ho0); obtain ⟨Ao6, co6, eo6⟩ := Kd.R_slice HO145.out; subst eo6))
  go_loopg [4, 13] k (fun kq v4 v13 w' => ∃ (x4_1 : List Int) (x13_1 : Int), v13 = .int .i64 x13_1 ∧ Aside0 (comfitref08_Classes.l0 kq t143 x4_1 (t143.length : Int) x13_1 = some r) ∧ Aside0 (kq ≤ k) ∧ Aside0 (Kd.R (Kd.int .i64) 3 w' w.heap.size (fun k_ => some k_ ≠ (v4 : Value).ownBlock) (.slice Ao6 t143.length co6) t143) ∧ Aside0 (Kd.R (Kd.int .i64) 3 w' w.heap.size (fun k_ => some k_ ≠ ((.slice Ao6 t143.length co6) : Value).ownBlock) v4 x4_1) ∧ Aside0 (w'.heap[gb142]? = some (.cells #[(.slice A0_0 l0_0.length c0_0), (.slice A0_1 l0_1.length c0_1)] 24 (0, 0))) ∧ Aside0 (Below w.heap.size w w'))
  case atStart => exact ⟨(([] : List Int)), (0), (by first | rfl | (simp; done) | (simp [*]; done)), H', ⟨Nat.le_refl _⟩, ⟨by (with_reducible repeat (first | apply Kd.R_alloc | apply Kd.R_drewN | apply Kd.R_drew)); exact Kd.R_mono HO145.out (fun _ hk => (by simp [Value.ownBlock]))⟩, ⟨by first | exact Kd.R_nil _ _ _ _ _ | exact Kd.N_nil _ _ _ _ _ | exact Kd.V_nil _ _ _ _ _ | exact Kd.Q_nil _ _ _ _ _ | exact Kd.S_nil _ _ _ _ _⟩, ⟨by (with_reducible repeat (first | refine blk_drewN ?_ _ | refine blk_drew ?_ | refine blk_alloc ?_ _)); exact BK142.out⟩, ⟨by repeat (first | (with_reducible first | exact HB.out | apply below_alloc | apply pw_below_drewN | apply below_drew1 | refine below_set ?_ GE142.out) | exact HB.out)⟩⟩
  case round =>
    clear H'
    try clear p2
    try clear c3
    try clear c6
    try clear hcz4_0
    try clear hcz4_1
    try clear hfz4_0
    try clear hfz4_1
    obtain ⟨x4_1, x13_1, rfl, HA, HK1, HO_3, HO_4, BK142, HB⟩ := hrel
    cases gk with
    | zero => exact absurd HA.out (by simp [comfitref08_Classes.l0])
    | succ k1 =>
      have H := HA.out
      clear HA
      simp only [comfitref08_Classes.l0] at H
      by_cases c7 : x13_1 < (t143.length : Int)
      · rw [if_pos c7] at H
        have c7b0 : decide (x13_1 < (t143.length : Int)) = true := decide_eq_true c7
        clear c7
        have H' := Aside0.mk H
        clear H
        go_wp2
        go_loopg [6, 18] k1 (fun kq v6 v18 w' => ∃ (x6_2 : Int) (x18_2 : Int), v6 = .int .i64 x6_2 ∧ v18 = .int .i64 x18_2 ∧ Aside0 (comfitref08_Classes.l1 kq t143 x4_1 x13_1 x6_2 (t143.length : Int) x13_1 t143 (t143.length : Int) x18_2 = some r) ∧ Aside0 (kq ≤ k1) ∧ Aside0 (Kd.R (Kd.int .i64) 3 w' w.heap.size (fun k_ => some k_ ≠ (u4 : Value).ownBlock) (.slice Ao6 t143.length co6) t143) ∧ Aside0 (Kd.R (Kd.int .i64) 3 w' w.heap.size (fun k_ => some k_ ≠ ((.slice Ao6 t143.length co6) : Value).ownBlock ∧ some k_ ≠ ((.slice Ao6 t143.length co6) : Value).ownBlock) u4 x4_1) ∧ Aside0 (Kd.R (Kd.int .i64) 3 w' w.heap.size (fun k_ => some k_ ≠ (u4 : Value).ownBlock) (.slice Ao6 t143.length co6) t143) ∧ Aside0 (w'.heap[gb142]? = some (.cells #[(.slice A0_0 l0_0.length c0_0), (.slice A0_1 l0_1.length c0_1)] 24 (0, 0))) ∧ Aside0 (Below w.heap.size w w'))
        case atStart => exact ⟨(0), (0), (by first | rfl | (simp; done) | (simp [*]; done)), (by first | rfl | (simp; done) | (simp [*]; done)), H', ⟨Nat.le_refl _⟩, ⟨by (with_reducible repeat (first | apply Kd.R_alloc | apply Kd.R_drewN | apply Kd.R_drew)); exact HO_3.out⟩, ⟨by (with_reducible repeat (first | apply Kd.R_alloc | apply Kd.R_drewN | apply Kd.R_drew)); exact Kd.R_mono HO_4.out (fun _ hk => ⟨hk, hk⟩)⟩, ⟨by (with_reducible repeat (first | apply Kd.R_alloc | apply Kd.R_drewN | apply Kd.R_drew)); exact HO_3.out⟩, ⟨by (with_reducible repeat (first | refine blk_drewN ?_ _ | refine blk_drew ?_ | refine blk_alloc ?_ _)); exact BK142.out⟩, ⟨by repeat (first | (with_reducible first | exact HB.out | apply below_alloc | apply pw_below_drewN | apply below_drew1 | refine below_set ?_ GE142.out) | exact HB.out)⟩⟩
        case round =>
          clear H'
          try clear p2
          try clear c3
          try clear c6
          try clear c7
          try clear c7b0
          try clear hcz4_0
          try clear hcz4_1
          try clear hfz4_0
          try clear hfz4_1
          try clear p2
          obtain ⟨x6_2, x18_2, rfl, rfl, HA, HK2, HO_3, HO_4, HO_16, BK142, HB⟩ := hrel
          cases gk with
          | zero => exact absurd HA.out (by simp [comfitref08_Classes.l1])
          | succ k2 =>
            have H := HA.out
            clear HA
            simp only [comfitref08_Classes.l1] at H
            by_cases c8 : x18_2 < (t143.length : Int)
            · rw [if_pos c8] at H
              have c8b0 : decide (x18_2 < (t143.length : Int)) = true := decide_eq_true c8
              clear c8
              by_cases c9 : 0 ≤ x18_2
              · rw [if_pos c9] at H
                have c9b0 : decide (0 ≤ x18_2) = true := decide_eq_true c9
                clear c9
                by_cases c10 : x18_2 < (t143.length : Int)
                · rw [if_pos c10] at H
                  have c10b0 : decide (x18_2 < (t143.length : Int)) = true := decide_eq_true c10
                  clear c10
                  by_cases c11 : (rd t143 x18_2) = x13_1
                  · rw [if_pos c11] at H
                    have c11b0 : ((rd t143 x18_2) == x13_1) = true := beq_iff_eq.mpr c11
                    have c11b1 : ((rd t143 x18_2) != x13_1) = false := bne_eq_false_iff_eq.mpr c11
                    clear c11
                    have c12b0 := eq_true (of_decide_eq_true (by first | (with_reducible assumption) | assumption) : 0 ≤ x18_2)
                    obtain ⟨ji13, hji13⟩ : ∃ j_ : Int, (shl .i64 1 x18_2) = j_ := ⟨_, rfl⟩
                    replace H : (comfitref08_Classes.l1 k2 t143 x4_1 x13_1 (Go.bits .or .i64 x6_2 (ji13)) (t143.length : Int) x13_1 t143 (t143.length : Int) (wrap64 (x18_2 + 1))) = some r := by first | (rw [hji13] at H; exact H) | (simp only [hji13] at H ⊢; exact H)
                    have hji13_ : (IntKind.i64.wrap (1 * 2 ^ min x18_2.toNat 64)) = ji13 := hji13
                    have hji13z : x18_2 ≤ 64 → (IntKind.i64.wrap (1 * 2 ^ x18_2.toNat)) = ji13 := shl_small hji13
                    have hji13u : (IntKind.i64.wrap (2 ^ min x18_2.toNat 64)) = ji13 := by have h_ := hji13_; rw [Int.one_mul] at h_; exact h_
                    have hji13v : x18_2 ≤ 64 → (IntKind.i64.wrap (2 ^ x18_2.toNat)) = ji13 := fun hle_ => by have h_ := hji13z hle_; rw [Int.one_mul] at h_; exact h_
                    have hji13y : (wrap64 (1 * 2 ^ min x18_2.toNat 64)) = ji13 := (i64_w _).symm.trans hji13_
                    have hji13x : x18_2 ≤ 64 → (wrap64 (1 * 2 ^ x18_2.toNat)) = ji13 := fun h_ => (i64_w _).symm.trans (hji13z h_)
                    have H' := Aside0.mk H
                    clear H
                    have p146 : 0 ≤ (x18_2 : Int) := of_decide_eq_true (by first | (with_reducible assumption) | assumption)
                    have q146 : x18_2 < (t143.length : Int) := of_decide_eq_true (by first | (with_reducible assumption) | assumption)
                    obtain ⟨ad146, e146, hx146_0⟩ := Kd.at_int (Kd.R_reads' HO_16.out).2.2 x18_2 p146 q146
                    cases e146
                    replace p146 := eq_true p146
                    replace q146 := eq_true q146
                    go_wp2
                    go_roundg k2
                    case measure => have := HK1.out; have := HK2.out; omega
                    case rel => exact ⟨(Go.bits .or .i64 x6_2 (ji13)), (wrap64 (x18_2 + 1)), (by first | rfl | (simp; done) | (simp only [← hji13] <;> (first | rfl | simp)) | (simp [*]; done)), (by first | rfl | (simp; done) | (simp [*]; done)), H', ⟨by have := HK1.out; have := HK2.out; omega⟩, ⟨by (with_reducible repeat (first | apply Kd.R_alloc | apply Kd.R_drewN | apply Kd.R_drew)); exact HO_3.out⟩, ⟨by (with_reducible repeat (first | apply Kd.R_alloc | apply Kd.R_drewN | apply Kd.R_drew)); exact HO_4.out⟩, ⟨by (with_reducible repeat (first | apply Kd.R_alloc | apply Kd.R_drewN | apply Kd.R_drew)); exact HO_16.out⟩, ⟨by (with_reducible repeat (first | refine blk_drewN ?_ _ | refine blk_drew ?_ | refine blk_alloc ?_ _)); exact BK142.out⟩, ⟨by repeat (first | (with_reducible first | exact HB.out | apply below_alloc | apply pw_below_drewN | apply below_drew1 | refine below_set ?_ GE142.out) | exact HB.out)⟩⟩
                  · rw [if_neg c11] at H
                    have c11b0 : ((rd t143 x18_2) == x13_1) = false := beq_eq_false_iff_ne.mpr c11
                    have c11b1 : ((rd t143 x18_2) != x13_1) = true := bne_iff_ne.mpr c11
                    have H' := Aside0.mk H
                    clear H
                    have p146 : 0 ≤ (x18_2 : Int) := of_decide_eq_true (by first | (with_reducible assumption) | assumption)
                    have q146 : x18_2 < (t143.length : Int) := of_decide_eq_true (by first | (with_reducible assumption) | assumption)
                    obtain ⟨ad146, e146, hx146_0⟩ := Kd.at_int (Kd.R_reads' HO_16.out).2.2 x18_2 p146 q146
                    cases e146
                    replace p146 := eq_true p146
                    replace q146 := eq_true q146
                    go_wp2
                    go_roundg k2
                    case measure => have := HK1.out; have := HK2.out; omega
                    case rel => exact ⟨(x6_2), (wrap64 (x18_2 + 1)), (by first | rfl | (simp; done) | (simp [*]; done)), (by first | rfl | (simp; done) | (simp [*]; done)), H', ⟨by have := HK1.out; have := HK2.out; omega⟩, ⟨by (with_reducible repeat (first | apply Kd.R_alloc | apply Kd.R_drewN | apply Kd.R_drew)); exact HO_3.out⟩, ⟨by (with_reducible repeat (first | apply Kd.R_alloc | apply Kd.R_drewN | apply Kd.R_drew)); exact HO_4.out⟩, ⟨by (with_reducible repeat (first | apply Kd.R_alloc | apply Kd.R_drewN | apply Kd.R_drew)); exact HO_16.out⟩, ⟨by (with_reducible repeat (first | refine blk_drewN ?_ _ | refine blk_drew ?_ | refine blk_alloc ?_ _)); exact BK142.out⟩, ⟨by repeat (first | (with_reducible first | exact HB.out | apply below_alloc | apply pw_below_drewN | apply below_drew1 | refine below_set ?_ GE142.out) | exact HB.out)⟩⟩
                · rw [if_neg c10] at H
                  exact absurd H (by simp)
              · rw [if_neg c9] at H
                exact absurd H (by simp)
            · rw [if_neg c8] at H
              have c8b0 : decide (x18_2 < (t143.length : Int)) = false := decide_eq_false c8
              clear c8
              by_cases c14 : x6_2 > 0
              · rw [if_pos c14] at H
                have c14b0 : decide (0 < x6_2) = true := decide_eq_true c14
                clear c14
                by_cases c15 : x4_1.length < 17592186044416
                · rw [if_pos c15] at H
                  have LMc15 := Aside0.mk c15
                  clear c15
                  obtain ⟨y147, hy147⟩ : ∃ y_ : List Int, y_ = (x4_1 ++ [x6_2]) := ⟨_, rfl⟩
                  replace H : (comfitref08_Classes.l0 k2 t143 y147 (t143.length : Int) (wrap64 (x13_1 + 1))) = some r := by first | (rw [hy147]; with_reducible exact H) | (have H2_ := (Option.bind_some _ _).symm.trans H; rw [hy147]; with_reducible exact H2_) | (have H2_ := (Option.bind_some _ _).symm.trans H; with_reducible exact H2_) | with_reducible exact H | (rw [hy147]; exact H) | exact H
                  have Ny147 := Aside0.mk hy147
                  clear hy147
                  have H' := Aside0.mk H
                  clear H
                  go_wp2_with (first | ((with_reducible refine gate_builtin (b := .append) (xs := #[.tmp 33, .tmp 35]) rfl ?_); at_builtin; refine Kd.R_append (Kd.int .i64) (w0 := w) w.heap.size rfl (.tmp 33) (.tmp 35) 22 3 (.int .i64 0) 8 rfl Try.underlying22 info3 rfl (by decide) (by omega) u4 x4_1 x6_2 [.int .i64 x6_2] (fun k_ => some k_ ≠ (.slice Ao6 t143.length co6 : Value).ownBlock ∧ some k_ ≠ (.slice Ao6 t143.length co6 : Value).ownBlock) (fun _ => False) rfl rfl ?aP (fun _ hk => hk.elim) ?aF ?aO ?aB ?aS ?aL ?_; (case aP => exact rfl); (case aB => exact (by repeat (first | (with_reducible first | exact HB.out | apply below_alloc | apply pw_below_drewN | apply below_drew1 | refine below_set ?_ GE142.out) | exact HB.out))); (case aF => exact (fun k_ hk => ⟨Kd.fresh' (Kd.R_lt (by (with_reducible repeat (first | apply Kd.R_alloc | apply Kd.R_drewN | apply Kd.R_drew)); exact HO_3.out)) k_ hk, Kd.fresh' (Kd.R_lt (by (with_reducible repeat (first | apply Kd.R_alloc | apply Kd.R_drewN | apply Kd.R_drew)); exact HO_16.out)) k_ hk⟩)); (case aO => exact (by (with_reducible repeat (first | apply Kd.R_alloc | apply Kd.R_drewN | apply Kd.R_drew)); exact HO_4.out)); (case aS => exact (below_size (by repeat (first | (with_reducible first | exact HB.out | apply below_alloc | apply pw_below_drewN | apply below_drew1 | refine below_set ?_ GE142.out) | exact HB.out)))); (case aL => have := LMc15.out; omega); intro v148 w16 ho hb hg hat; rw [← Ny147.out] at ho; have n0_ := Aside0.mk (Kd.R_after (ok := (fun _ => True)) (by (with_reducible repeat (first | apply Kd.R_alloc | apply Kd.R_drewN | apply Kd.R_drew)); exact Kd.R_mono HO_3.out (fun _ hk => ⟨trivial, hk⟩)) hg hat); have n1_ := Aside0.mk (Kd.R_after (ok := (fun _ => True)) (by (with_reducible repeat (first | apply Kd.R_alloc | apply Kd.R_drewN | apply Kd.R_drew)); exact Kd.R_mono HO_16.out (fun _ hk => ⟨trivial, hk⟩)) hg hat); have n2_ := Aside0.mk (blk_grown (g := gb142) (o := .cells #[.slice A0_0 l0_0.length c0_0, .slice A0_1 l0_1.length c0_1] 24 (0, 0)) (by (with_reducible repeat (first | refine blk_drewN ?_ _ | refine blk_drew ?_ | refine blk_alloc ?_ _)); exact BK142.out) hg (Kd.R_ne HO_4.out BK142.out (by decide))); have n3_ := Aside0.mk (hb); have n4_ := Aside0.mk (ho); clear HO_3; clear HO_16; clear BK142; clear HB; clear HO_4; have HO_3 := n0_; have HO_16 := n1_; have BK142 := n2_; have HB := n3_; have HO149 := n4_; clear n0_ n1_ n2_ n3_ n4_; clear ho hb hg hat))
                  go_roundg k2
                  case measure => have := HK1.out; have := HK2.out; omega
                  case rel => exact ⟨(y147), (wrap64 (x13_1 + 1)), (by first | rfl | (simp; done) | (simp [*]; done)), H', ⟨by have := HK1.out; have := HK2.out; omega⟩, ⟨by (with_reducible repeat (first | apply Kd.R_alloc | apply Kd.R_drewN | apply Kd.R_drew)); exact Kd.R_mono HO_3.out (fun _ hk => hk.2)⟩, ⟨by (with_reducible repeat (first | apply Kd.R_alloc | apply Kd.R_drewN | apply Kd.R_drew)); exact Kd.R_mono HO149.out (fun _ hk => hk.1)⟩, ⟨by (with_reducible repeat (first | refine blk_drewN ?_ _ | refine blk_drew ?_ | refine blk_alloc ?_ _)); exact BK142.out⟩, ⟨by repeat (first | (with_reducible first | exact HB.out | apply below_alloc | apply pw_below_drewN | apply below_drew1 | refine below_set ?_ GE142.out) | exact HB.out)⟩⟩
                · rw [if_neg c15] at H
                  exact absurd H (by simp)
              · rw [if_neg c14] at H
                have c14b0 : decide (0 < x6_2) = false := decide_eq_false c14
                clear c14
                have H' := Aside0.mk H
                clear H
                go_wp2
                go_roundg k2
                case measure => have := HK1.out; have := HK2.out; omega
                case rel => exact ⟨(x4_1), (wrap64 (x13_1 + 1)), (by first | rfl | (simp; done) | (simp [*]; done)), H', ⟨by have := HK1.out; have := HK2.out; omega⟩, ⟨by (with_reducible repeat (first | apply Kd.R_alloc | apply Kd.R_drewN | apply Kd.R_drew)); exact HO_3.out⟩, ⟨by (with_reducible repeat (first | apply Kd.R_alloc | apply Kd.R_drewN | apply Kd.R_drew)); exact Kd.R_mono HO_4.out (fun _ hk => hk.1)⟩, ⟨by (with_reducible repeat (first | refine blk_drewN ?_ _ | refine blk_drew ?_ | refine blk_alloc ?_ _)); exact BK142.out⟩, ⟨by repeat (first | (with_reducible first | exact HB.out | apply below_alloc | apply pw_below_drewN | apply below_drew1 | refine below_set ?_ GE142.out) | exact HB.out)⟩⟩
      · rw [if_neg c7] at H
        have c7b0 : decide (x13_1 < (t143.length : Int)) = false := decide_eq_false c7
        clear c7
        obtain rfl := Option.some.inj H
        go_wp2
        go_ret
        exact ⟨_, by first | rfl | (simp [errW_none, errW_some] <;> rfl) | (simp [*, errW_none, errW_some] <;> rfl), by (with_reducible repeat (first | apply Kd.R_alloc | apply Kd.R_drewN | apply Kd.R_drew)); exact Kd.R_mono HO_4.out (fun _ hk => trivial), by repeat (first | (with_reducible first | exact HB.out | apply below_alloc | apply pw_below_drewN | apply below_drew1 | refine below_set ?_ GE142.out) | exact HB.out)⟩
end Go.Proofs.Ytjffhhalmicodaa.PF
end

section
set_option linter.unusedVariables false
namespace Go.Proofs.Ytjffhhalmicodaa.L
open Go.RowKit Go.Proofs.YtjffhhalmicodaaW.PrintWords Go.Proofs.YtjffhhalmicodaaW.PrintLast Go.Proofs.YtjffhhalmicodaaW.PrintMore Go.Proofs.Ytjffhhalmicodaa.X Go.Proofs.Ytjffhhalmicodaa.PF
def levs (nx mk : List Int) (j : Nat) : List (List Int) := (List.range (j + 1)).map (lv nx mk)
theorem levs_last (nx mk : List Int) (j : Nat) : (levs nx mk j).getLastD [] = lv nx mk j := by
  unfold levs
  rw [List.range_succ, List.map_append]
  simp
theorem levs_succ (nx mk : List Int) (j : Nat) : levs nx mk (j + 1) = levs nx mk j ++ [lv nx mk (j + 1)] := by
  unfold levs
  rw [List.range_succ, List.map_append]
  rfl
theorem levs_len (nx mk : List Int) (j : Nat) : (levs nx mk j).length = j + 1 := by simp [levs]
theorem lev_loop {nx mk : List Int} {K : Nat} (hK : Last nx mk K) (h6 : K ≤ 100) : ∀ d j, j + d = K → Evr (fun k => levF nx k (levs nx mk j)) (levs nx mk K) := by
  intro d
  induction d with
  | zero =>
    intro j hj
    obtain rfl : j = K := by omega
    refine Evr.step (h := fun _ => some (levs nx mk j)) (fun k => ?_) (Evr.const _)
    rw [levF, if_pos (by rw [levs_len]; omega), levs_last, if_pos]
    exact hK.same
  | succ d ih =>
    intro j hj
    refine Evr.step (fun k => ?_) (ih (j + 1) (by omega))
    rw [levF, if_pos (by rw [levs_len]; omega), levs_last, if_neg, levs_succ]
    · rfl
    · exact hK.first j (by omega)
theorem levels_ev {nx mk : List Int} (hv : VW nx mk) {K : Nat} (hK : Last nx mk K) : Evr (fun k => fixes_levels.f k nx mk) (levs nx mk K) := by
  have h6 := hv.le
  have hl := hK.le hv
  refine Evr.congr (fun k => ?_) (lev_loop hK (by omega) K 0 (by omega))
  unfold fixes_levels.f
  rw [if_pos ⟨by omega, by rw [hv.len]; omega⟩]
  rfl
theorem classes_ev {nx mk : List Int} (hv : VW nx mk) {K : Nat} (hK : Last nx mk K) : Evr (fun k => fixes_classes.f k nx mk) (lv nx mk K) := by
  have hl := hK.le hv
  have h6 := hv.le
  refine Evr.bind (f := fun l _ => if l = [] ∨ 100000 < l.length then none else some (l.getLastD [])) (levels_ev hv hK) ?_
  refine Evr.of_all fun k => ?_
  rw [if_neg, levs_last]
  rintro (h | h)
  · have := levs_len nx mk K
    rw [h] at this
    simp at this
  · rw [levs_len] at h
    omega
def CL (nx mk : List Int) (K : Nat) : List Int := (List.range (nc nx mk K)).map fun (v : Nat) => whereTo (fun s => rd (lv nx mk K) s == (v : Int)) nx.length
theorem CL_len (nx mk : List Int) (K : Nat) : (CL nx mk K).length = nc nx mk K := by simp [CL]
theorem CL_rd {nx mk : List Int} {K v : Nat} (h : v < nc nx mk K) : rd (CL nx mk K) (v : Int) = whereTo (fun s => rd (lv nx mk K) s == (v : Int)) nx.length := by
  simp [rd, CL, List.getD_eq_getElem?_getD, h]
theorem CL_spec {nx mk : List Int} (hv : VW nx mk) {K v : Nat} (h : v < nc nx mk K) : InS nx.length (rd (CL nx mk K) (v : Int)) ∧ ∀ i, tb (rd (CL nx mk K) (v : Int)) i = (decide (i < nx.length) && (rd (lv nx mk K) i == (v : Int))) := by
  rw [CL_rd h]
  exact whereTo_spec _ _ (by have := hv.le; omega)
theorem max_lv {nx mk : List Int} (hv : VW nx mk) (K : Nat) : slices_Max.f (lv nx mk K) = some ((nc nx mk K : Int) - 1) := by
  have hp := hv.pos
  unfold slices_Max.f
  rw [lv_len, if_pos (by omega)]
  have h1 := nc_pos hv K
  have a : maxTo (lv nx mk K) (nx.length - 1) < (nc nx mk K : Int) := (maxTo_lt _).2 fun i hi => by
    rw [lv_rd _ _ _ _ (by omega)]
    exact (cls_range (lkey nx mk K) (by omega)).2
  have b : ¬ maxTo (lv nx mk K) (nx.length - 1) < (nc nx mk K : Int) - 1 := fun h => by
    have h2 := (maxTo_lt _).1 h
    obtain ⟨i, i1, i2, _⟩ := cls_has (lkey nx mk K) nx.length (nc nx mk K - 1) (by unfold nc at h1 ⊢; omega)
    have h3 := h2 i (by omega)
    rw [lv_rd _ _ _ _ i1, i2] at h3
    omega
  congr 1
  omega
theorem shl_pow {s : Nat} (h : s < 62) : shl .i64 1 (s : Int) = wrap64 (2 ^ min s 64) := by
  rw [shl1 h, pow_wrap h]
theorem E_six {nx mk : List Int} (hv : VW nx mk) {K : Nat} (hK : Last nx mk K) (s t : Nat) : E nx mk 6 s t ↔ E nx mk K s t := by
  have hl := hK.le hv
  have h6 := hv.le
  have e : lv nx mk 6 = lv nx mk K := by
    have := lv_stay hK.same (6 - K)
    rwa [show K + (6 - K) = 6 by omega] at this
  unfold E
  rw [e]
def repSet (l : List Int) (s : Nat) (n : Nat) : Int := whereTo (fun t => rd l t == (s : Int)) n
theorem RClasses_in {l : List Int} {n : Nat} (hl : l.length = n) (h6 : n ≤ 60) {r : List Int} (x4 : List Int) (s : Nat) (x12 x13 : Int)
    (hnext : Evr (fun k => if repSet l s n > 0 then (if x4.length < 17592186044416 then (comfitref08_Classes.l0 k l (x4 ++ [repSet l s n]) x12 (wrap64 (x13 + 1))) else (none)) else (comfitref08_Classes.l0 k l x4 x12 (wrap64 (x13 + 1)))) r) :
    ∀ d t : Nat, t + d = n → Evr (fun k => comfitref08_Classes.l1 k l x4 (s : Int) (whereTo (fun t => rd l t == (s : Int)) t) x12 x13 l (n : Int) (t : Int)) r := by
  intro d
  induction d with
  | zero =>
    intro t ht
    obtain rfl : t = n := by omega
    refine Evr.step (fun k => ?_) hnext
    simp only [comfitref08_Classes.l1]
    rw [if_neg (by omega)]
    rfl
  | succ d ih =>
    intro t ht
    refine Evr.step (fun k => ?_) (ih (t + 1) (by omega))
    simp only [comfitref08_Classes.l1]
    rw [if_pos (by omega), if_pos (by omega), if_pos (by omega), wsucc (by omega), whereTo]
    by_cases h : rd l (t : Int) = (s : Int)
    · rw [if_pos h, if_pos (by rw [h]; simp), shl_pow (by omega)]
    · rw [if_neg h, if_neg (by simpa using h)]
theorem repSet_zero {l : List Int} {s n : Nat} (hn : n ≤ 60) (h : ∀ t, t < n → rd l (t : Int) ≠ (s : Int)) : repSet l s n = 0 := by
  obtain ⟨a, b⟩ := whereTo_spec (fun t => rd l t == (s : Int)) n (by omega)
  refine inS_ext a (inS_zero n) fun i hi => ?_
  show tb (whereTo (fun t => rd l t == (s : Int)) n) i = _
  rw [b, tb_zero]
  have := h i hi
  simp [this]
theorem pos_of_tb {n : Nat} {a : Int} (h : InS n a) {i : Nat} (hi : tb a i = true) : 0 < a := by
  rcases Int.lt_or_le 0 a with q | q
  · exact q
  · obtain rfl : a = 0 := by have := h.1; omega
    rw [tb_zero] at hi
    cases hi
theorem RClasses_out {nx mk : List Int} (hv : VW nx mk) {K : Nat} (hK : Last nx mk K) {l : List Int} (hl : RepOk nx mk 6 l) : ∀ d s : Nat, s + d = nx.length →
    Evr (fun k => comfitref08_Classes.l0 k l ((CL nx mk K).take (cnt (lkey nx mk K) s)) (nx.length : Int) (s : Int)) (CL nx mk K) := by
  have h6 := hv.le
  intro d
  induction d with
  | zero =>
    intro s hs
    obtain rfl : s = nx.length := by omega
    refine Evr.step (h := fun _ => some (CL nx mk K)) (fun k => ?_) (Evr.const _)
    simp only [comfitref08_Classes.l0]
    rw [if_neg (by omega), List.take_of_length_le (by rw [CL_len]; exact Nat.le_refl _)]
  | succ d ih =>
    intro s hs
    have hsn : s < nx.length := by omega
    have hlen : ((CL nx mk K).take (cnt (lkey nx mk K) s)).length < 17592186044416 := by
      have := nc_le nx mk K
      have := CL_len nx mk K
      rw [List.length_take]
      omega
    have heq : ∀ t, t < nx.length → (rd l (t : Int) = (s : Int) ↔ (rep (E nx mk 6) t = s)) := fun t ht => by
      rw [hl.2 t ht]
      omega
    refine Evr.step (h := fun k => comfitref08_Classes.l1 k l ((CL nx mk K).take (cnt (lkey nx mk K) s)) (s : Int) (whereTo (fun t => rd l t == (s : Int)) 0) (nx.length : Int) (s : Int) l (nx.length : Int) ((0 : Nat) : Int)) (fun k => ?_) (RClasses_in hl.1 (by omega) _ s _ _ ?_ nx.length 0 (by omega))
    · simp only [comfitref08_Classes.l0]
      rw [if_pos (by omega), hl.1]
      rfl
    · rcases cnt_step (lkey nx mk K) s with ⟨e, j, hj, hk⟩ | ⟨e, e2, e3⟩
      ·
        have hz : repSet l s nx.length = 0 := repSet_zero (by omega) fun t ht q => by
          have hr := (heq t ht).1 q
          obtain ⟨r1, r2, r3⟩ := rep_spec (E_equi nx mk 6) ht
          rw [hr] at r2 r3
          have hjs : E nx mk 6 j s := (E_six hv hK j s).2 ((E_key (by omega) hsn).2 hk)
          exact r3 j hj (E.trans r2 hjs.symm)
        rw [hz, e.symm]
        have e' : cnt (lkey nx mk K) s = cnt (lkey nx mk K) (s + 1) := e.symm
        refine Evr.congr (fun k => ?_) (ih (s + 1) (by omega))
        rw [if_neg (by decide), wsucc (by omega)]
      · have hcn : cnt (lkey nx mk K) s < nc nx mk K := by
          have := cnt_mono (lkey nx mk K) (show s + 1 ≤ nx.length by omega)
          unfold nc
          omega
        have hset : repSet l s nx.length = rd (CL nx mk K) (cnt (lkey nx mk K) s : Int) := by
          obtain ⟨a, b⟩ := whereTo_spec (fun t => rd l t == (s : Int)) nx.length (by omega)
          obtain ⟨c1, c2⟩ := CL_spec hv hcn
          refine inS_ext a c1 fun i hi => ?_
          show tb (whereTo (fun t => rd l t == (s : Int)) nx.length) i = _
          rw [b, c2]
          congr 1
          rw [Bool.eq_iff_iff, beq_iff_eq, beq_iff_eq, heq i hi, lv_rd _ _ _ _ hi, ← e2, cls_eq, ← E_key hi hsn, ← E_six hv hK]
          obtain ⟨r1, r2, r3⟩ := rep_spec (E_equi nx mk 6) hi
          constructor
          · intro q; rw [q] at r2; exact r2
          · intro q
            have hss : rep (E nx mk 6) s = s := by
              obtain ⟨q1, q2, q3⟩ := rep_spec (E_equi nx mk 6) hsn
              rcases Nat.lt_or_ge (rep (E nx mk 6) s) s with z | z
              · exact absurd ((E_key (by omega) hsn).1 ((E_six hv hK _ _).1 q2).symm) (e3 _ z)
              · omega
            rw [(rep_eq (E_equi nx mk 6) hi hsn).2 q, hss]
        have hpos : repSet l s nx.length > 0 := by
          rw [hset]
          obtain ⟨c1, c2⟩ := CL_spec hv hcn
          refine pos_of_tb c1 (i := s) ?_
          rw [c2, lv_rd _ _ _ _ hsn, e2]
          simp [hsn]
        refine Evr.congr (fun k => ?_) (ih (s + 1) (by omega))
        rw [if_pos hpos, if_pos hlen, wsucc (by omega), e, hset]
        congr 1
        rw [List.take_succ_eq_append_getElem (by rw [CL_len]; exact hcn)]
        congr 2
        simp [rd, List.getD_eq_getElem?_getD, CL_len, hcn]
theorem RClasses_ev {nx mk : List Int} (hv : VW nx mk) {K : Nat} (hK : Last nx mk K) : Evr (fun k => comfitref08_Classes.f k nx mk) (CL nx mk K) := by
  obtain ⟨l, hl, hev⟩ := Level_ev hv 6 (by decide)
  refine Evr.bind hev ?_
  refine Evr.congr (fun k => ?_) (RClasses_out hv hK hl nx.length 0 (by omega))
  rw [hl.1]
  rfl
end Go.Proofs.Ytjffhhalmicodaa.L
end

section
set_option linter.unusedVariables false
namespace Go.Proofs.Ytjffhhalmicodaa.L
open Go.RowKit Go.Proofs.YtjffhhalmicodaaW.PrintWords Go.Proofs.YtjffhhalmicodaaW.PrintLast Go.Proofs.YtjffhhalmicodaaW.PrintMore Go.Proofs.Ytjffhhalmicodaa.X Go.Proofs.Ytjffhhalmicodaa.PF Go.Proofs.Ytjffhhalmicodaa.PA Go.Proofs.Ytjffhhalmicodaa.PB
theorem awake_ev : Evr (fun k => PB.comfitlaw08_awake.f k) true := Evr.of_mono (fun k => PB.comfitlaw08_awake.mono k) ⟨3, awake_at⟩
open Classical in
theorem Valid_ev (nx mk : List Int) : Evr (fun k => PB.comfitref08_Valid.f k nx mk) (decide (VW nx mk)) := Evr.of_mono (fun k => PB.comfitref08_Valid.mono nx mk k) (Valid_eq nx mk)
theorem Equal_ev (a b : List Int) (h : a.length ≤ 1000000) : Evr (fun k => PE.slices_Equal_int_int.f k a b) (decide (a = b)) := Evr.of_mono (fun k => PE.slices_Equal_int_int.mono a b k) (equal_eq a b h)
theorem vw_no {nx mk : List Int} (h : ¬ VW nx mk) : ¬ VW (nx.take 9) (mk.take 9) := fun q => h (VW_take.1 q)
def St (nx : List Int) (a : Int) : Prop := 0 ≤ a ∧ a < nx.length
instance (nx : List Int) (a : Int) : Decidable (St nx a) := inferInstanceAs (Decidable (_ ∧ _))
end Go.Proofs.Ytjffhhalmicodaa.L
end

section
set_option linter.unusedVariables false
set_option linter.unusedSimpArgs false
namespace Go.Proofs.Ytjffhhalmicodaa.X
open Go.RowKit Go.Proofs.YtjffhhalmicodaaW.PrintWords Go.Proofs.YtjffhhalmicodaaW.PrintLast Go.Proofs.YtjffhhalmicodaaW.PrintMore
def qIn (nx c : List Int) (s : Nat) : Nat → List Int → List Int
  | 0, N => N
  | t + 1, N => (qIn nx c s t N).set (rd c s).toNat (bits .or .i64 (rd (qIn nx c s t N) (rd c s)) (shl .i64 (bits .and .i64 (shr .i64 (rd nx s) (t : Int)) 1) (rd c (t : Int))))
def qOut (nx mk c : List Int) (m : Nat) : Nat → List Int × List Int
  | 0 => (List.replicate m 0, List.replicate m 0)
  | s + 1 => (qIn nx c s nx.length (qOut nx mk c m s).1, (qOut nx mk c m s).2.set (rd c s).toNat (rd mk s))
theorem made_zero (m : Nat) : madeCells #[.int .i64 0] m = Array.replicate m (.int .i64 0) := by
  apply Array.ext
  · simp [madeCells]
  · intro i h1 h2
    simp [madeCells, Nat.mod_one]
theorem run_mk22 (W : World) (m : Nat) (hm : m ≤ 1000) : (Instr.makeSlice 22 (.int .i64 (m : Int)) (.int .i64 (m : Int))).run Try.prog W = .ok (.slice (some ⟨W.heap.size, 0, none⟩) m m) (W.alloc (.cells (Array.replicate m (.int .i64 0)) 3)) := by
  obtain ⟨i0, hi, hz⟩ := Option.map_eq_some_iff.1 info3'
  simp only [Prod.mk.injEq] at hz
  obtain ⟨hz0, hz1, hz2⟩ := hz
  have := run_make (P := Try.prog) (w := W) 22 3 i0 (.int .i64 0) Try.underlying22 hi hz0 .i64 .i64 (m : Int) (m : Int) (by omega) (by omega) (by rw [hz2]; omega) (by omega)
  rw [this, hz1, Nat.mul_one, Int.toNat_natCast, show (Value.int .i64 0).cells = #[.int .i64 0] from rfl, made_zero]
theorem R_made {w : World} {base g m : Nat} {ok : Nat → Prop} (hb : base ≤ g) (hm : m ≤ 1000) (hh : w.heap[g]? = some (.cells (Array.replicate m (.int .i64 0)) 3 (0, 0))) (hok : ok g) : Kd.R (Kd.int .i64) 3 w base ok (.slice (some ⟨g, 0, none⟩) m m) (List.replicate m 0) := by
  refine Kd.R_of_own ?_ (fun k hk => ?_)
  · rw [List.length_replicate]
    refine ⟨by simp [encs], .inr ⟨g, m, _, rfl, hb, hh, Nat.le_refl _, by unfold maxLen; omega, by simp, ?_⟩⟩
    rw [Array.toList_replicate, List.take_of_length_le (by simp)]
    simp [encs]
  · have : g = k := by simpa [Value.ownBlock] using hk
    rw [← this]
    exact hok
theorem shl_any (x : Int) (y : Nat) : shl .i64 x (y : Int) = wrap64 (x * 2 ^ min y 64) := by
  unfold shl
  rw [Int.toNat_natCast, show min y IntKind.i64.bits = min y 64 from rfl, IntKind.wrap_i64]
  unfold wrap64
  omega
theorem qIn_succ {nx c N : List Int} {s t kc jc : Nat} (hk : rd c (s : Int) = kc) (hj : rd c (t : Int) = jc) (ht : t ≤ 62) : qIn nx c s (t + 1) N = (qIn nx c s t N).set kc (bits .or .i64 (rd (qIn nx c s t N) kc) (wrap64 (bits .and .i64 (rd nx s / 2 ^ t) 1 * 2 ^ min jc 64))) := by
  rw [qIn, hk, hj, Int.toNat_natCast, shr_at _ (by omega), shl_any]
theorem info28s : (Try.prog.info? 28).map (·.size) = some 2 := by kernel_rfl
structure QS (w : World) (gw gr g6 : Nat) (A0 A1 Ac : Option Addr) (c0 c1 cc : Nat) (nx mk c : List Int) (v0 v1 : Value) (N M : List Int) (wr : World) : Prop where
  below : Below w.heap.size w wr
  box : wr.heap[gw]? = some (.cells #[.slice A0 nx.length c0, .slice A1 mk.length c1] 28 (0, 0))
  res : wr.heap[gr]? = some (.cells #[.slice none 0 0, .slice none 0 0] 28 (0, 0))
  mid : wr.heap[g6]? = some (.cells #[v0, v1] 28 (0, 0))
  rowN : Kd.R (Kd.int .i64) 3 wr w.heap.size (fun k => some k ≠ v1.ownBlock ∧ some k ≠ (Value.slice Ac c.length cc).ownBlock) v0 N
  rowM : Kd.R (Kd.int .i64) 3 wr w.heap.size (fun k => some k ≠ v0.ownBlock ∧ some k ≠ (Value.slice Ac c.length cc).ownBlock) v1 M
  cls : Kd.R (Kd.int .i64) 3 wr w.heap.size (fun k => some k ≠ v0.ownBlock ∧ some k ≠ v1.ownBlock) (.slice Ac c.length cc) c
theorem three_at (w : World) (a b c : Obj) : (((w.alloc a).alloc b).alloc c).drew.heap[w.heap.size]? = some a ∧ (((w.alloc a).alloc b).alloc c).drew.heap[w.heap.size + 1]? = some b ∧ (((w.alloc a).alloc b).alloc c).drew.heap[w.heap.size + 1 + 1]? = some c ∧ Below w.heap.size w (((w.alloc a).alloc b).alloc c).drew := by
  have s1 : (w.alloc a).heap.size = w.heap.size + 1 := by simp
  have s2 : ((w.alloc a).alloc b).heap.size = w.heap.size + 1 + 1 := by simp
  have h1 : ((w.alloc a).alloc b).heap[w.heap.size]? = some a := blk_alloc (blk_new w a) b
  have h2 : ((w.alloc a).alloc b).heap[w.heap.size + 1]? = some b := by rw [← s1]; exact blk_new _ b
  refine ⟨blk_alloc h1 c, blk_alloc h2 c, ?_, ?_⟩
  · show (((w.alloc a).alloc b).alloc c).heap[w.heap.size + 1 + 1]? = some c
    rw [← s2]
    exact blk_new _ c
  · exact ((((Below.refl _ _).alloc (Nat.le_refl _) _).alloc (by simp) _).alloc (by simp; omega) _).drew
theorem QS.of3 {w w3 W : World} {gw gr g6 g0 g1 m : Nat} {A0 A1 Ac : Option Addr} {c0 c1 cc : Nat} {nx mk c : List Int} {Z : Array Value} (hm : m ≤ 1000) (hz : Array.replicate m (Value.int .i64 0) = Z) (hb3 : Below w.heap.size w w3) (hx : w3.heap[gw]? = some (.cells #[.slice A0 nx.length c0, .slice A1 mk.length c1] 28 (0, 0))) (hr : w3.heap[gr]? = some (.cells #[.slice none 0 0, .slice none 0 0] 28 (0, 0))) (hc : Kd.R (Kd.int .i64) 3 w3 w.heap.size (fun _ => True) (.slice Ac c.length cc) c)
    (hB : Below w3.heap.size w3 W) (h6 : W.heap[g6]? = some (.cells #[.slice (some ⟨g0, 0, none⟩) m m, .slice (some ⟨g1, 0, none⟩) m m] 28 (0, 0))) (h0 : W.heap[g0]? = some (.cells Z 3 (0, 0))) (h1 : W.heap[g1]? = some (.cells Z 3 (0, 0))) (ne : g0 ≠ g1) (l0 : w3.heap.size ≤ g0) (l1 : w3.heap.size ≤ g1) :
    QS w gw gr g6 A0 A1 Ac c0 c1 cc nx mk c (.slice (some ⟨g0, 0, none⟩) m m) (.slice (some ⟨g1, 0, none⟩) m m) (List.replicate m 0) (List.replicate m 0) W := by
  subst hz
  have hsz := hb3.size
  have hcb := Kd.R_bound hc
  have old : ∀ g, w3.heap.size ≤ g → some g ≠ (Value.slice Ac c.length cc).ownBlock := fun g hg e => by
    have := (hcb.1 g e.symm).2.2.1
    omega
  refine ⟨below_step hb3 hB, blk_below hx hB, blk_below hr hB, h6, R_made (by omega) hm h0 ⟨fun e => ne (Option.some.inj e), old g0 l0⟩, R_made (by omega) hm h1 ⟨fun e => ne (Option.some.inj e).symm, old g1 l1⟩, ?_⟩
  refine Kd.R_mono (Kd.R_below hcb hB) (fun k hk => ⟨fun e => ?_, fun e => ?_⟩)
  · have h2 := hk.2.2.1
    have h3 : k = g0 := Option.some.inj e
    omega
  · have h2 := hk.2.2.1
    have h3 : k = g1 := Option.some.inj e
    omega
theorem QS.setM {w W : World} {gw gr g6 g0 g1 m : Nat} {A0 A1 Ac : Option Addr} {c0 c1 cc : Nat} {nx mk c N M : List Int} (h : QS w gw gr g6 A0 A1 Ac c0 c1 cc nx mk c (.slice (some ⟨g0, 0, none⟩) m m) (.slice (some ⟨g1, 0, none⟩) m m) N M W) (hm : w.heap.size ≤ g1) (i : Nat) (x : Int) :
    QS w gw gr g6 A0 A1 Ac c0 c1 cc nx mk c (.slice (some ⟨g0, 0, none⟩) m m) (.slice (some ⟨g1, 0, none⟩) m m) N (M.set i x) (W.setCell ⟨g1, i, none⟩ (.int .i64 x)) := by
  have far : ∀ {g : Nat} {t : TypeId} {cs : Array Value}, W.heap[g]? = some (.cells cs t (0, 0)) → t ≠ 3 → (W.setCell ⟨g1, i, none⟩ (.int .i64 x)).heap[g]? = some (.cells cs t (0, 0)) := fun {g t cs} hb ht => by
    obtain ⟨_, inner, ho, _⟩ := h.rowM
    obtain ⟨cells, hc⟩ := own_typed ho g1 rfl
    refine (Below.heap_setCell W ⟨g1, i, none⟩ _ g (fun e => ?_)).trans hb
    have e2 : g = g1 := e
    rw [e2, hc] at hb
    injection hb with hb
    injection hb with _ hb
    exact ht hb.symm
  refine ⟨h.below.setCell hm _, far h.box (by decide), far h.res (by decide), far h.mid (by decide), ?_, ?_, ?_⟩
  · exact Kd.R_far (p := ⟨g1, i, none⟩) h.rowN (fun k hk e => hk.1 (by rw [e]; rfl)) _
  · have := Kd.R_putn h.rowM (i : Int) x
    rwa [Int.toNat_natCast] at this
  · exact Kd.R_far (p := ⟨g1, i, none⟩) h.cls (fun k hk e => hk.2 (by rw [e]; rfl)) _
theorem QS.setN {w W : World} {gw gr g6 g0 g1 m : Nat} {A0 A1 Ac : Option Addr} {c0 c1 cc : Nat} {nx mk c N M : List Int} (h : QS w gw gr g6 A0 A1 Ac c0 c1 cc nx mk c (.slice (some ⟨g0, 0, none⟩) m m) (.slice (some ⟨g1, 0, none⟩) m m) N M W) (hm : w.heap.size ≤ g0) (i : Nat) (x : Int) :
    QS w gw gr g6 A0 A1 Ac c0 c1 cc nx mk c (.slice (some ⟨g0, 0, none⟩) m m) (.slice (some ⟨g1, 0, none⟩) m m) (N.set i x) M (W.setCell ⟨g0, i, none⟩ (.int .i64 x)) := by
  have far : ∀ {g : Nat} {t : TypeId} {cs : Array Value}, W.heap[g]? = some (.cells cs t (0, 0)) → t ≠ 3 → (W.setCell ⟨g0, i, none⟩ (.int .i64 x)).heap[g]? = some (.cells cs t (0, 0)) := fun {g t cs} hb ht => by
    obtain ⟨_, inner, ho, _⟩ := h.rowN
    obtain ⟨cells, hc⟩ := own_typed ho g0 rfl
    refine (Below.heap_setCell W ⟨g0, i, none⟩ _ g (fun e => ?_)).trans hb
    have e2 : g = g0 := e
    rw [e2, hc] at hb
    injection hb with hb
    injection hb with _ hb
    exact ht hb.symm
  refine ⟨h.below.setCell hm _, far h.box (by decide), far h.res (by decide), far h.mid (by decide), ?_, ?_, ?_⟩
  · have := Kd.R_putn h.rowN (i : Int) x
    rwa [Int.toNat_natCast] at this
  · exact Kd.R_far (p := ⟨g0, i, none⟩) h.rowM (fun k hk e => hk.1 (by rw [e]; rfl)) _
  · exact Kd.R_far (p := ⟨g0, i, none⟩) h.cls (fun k hk e => hk.1 (by rw [e]; rfl)) _
theorem QS.drew {w W : World} {gw gr g6 : Nat} {v0 v1 : Value} {A0 A1 Ac : Option Addr} {c0 c1 cc : Nat} {nx mk c N M : List Int} (h : QS w gw gr g6 A0 A1 Ac c0 c1 cc nx mk c v0 v1 N M W) : QS w gw gr g6 A0 A1 Ac c0 c1 cc nx mk c v0 v1 N M W.drew :=
  ⟨h.below.drew, h.box, h.res, h.mid, h.rowN, h.rowM, h.cls⟩
theorem QS.reads {w W : World} {gw gr g6 g0 g1 m : Nat} {A0 A1 Ac : Option Addr} {c0 c1 cc : Nat} {nx mk c N M : List Int} (h : QS w gw gr g6 A0 A1 Ac c0 c1 cc nx mk c (.slice (some ⟨g0, 0, none⟩) m m) (.slice (some ⟨g1, 0, none⟩) m m) N M W) :
    N.length = m ∧ M.length = m ∧ w.heap.size ≤ g0 ∧ w.heap.size ≤ g1 ∧ (∀ i : Nat, i < m → W.cell? ⟨g0, i, none⟩ = some (.int .i64 (rd N i))) ∧ (∀ i : Nat, i < m → W.cell? ⟨g1, i, none⟩ = some (.int .i64 (rd M i))) ∧ (∀ i : Nat, W.frozen? ⟨g0, i, none⟩ = false) ∧ (∀ i : Nat, W.frozen? ⟨g1, i, none⟩ = false) ∧ W.cell? ⟨gw, 0, none⟩ = some (.slice A0 nx.length c0) ∧ W.cell? ⟨gw, 1, none⟩ = some (.slice A1 mk.length c1) ∧ W.cell? ⟨g6, 0, none⟩ = some (.slice (some ⟨g0, 0, none⟩) m m) ∧ W.cell? ⟨g6, 1, none⟩ = some (.slice (some ⟨g1, 0, none⟩) m m) := by
  obtain ⟨n1, n2, n3⟩ := Kd.R_reads' h.rowN
  obtain ⟨m1, m2, m3⟩ := Kd.R_reads' h.rowM
  obtain ⟨_, i0, ho0, _⟩ := h.rowN
  obtain ⟨_, i1, ho1, _⟩ := h.rowM
  obtain ⟨cs0, hc0⟩ := own_typed ho0 g0 rfl
  obtain ⟨cs1, hc1⟩ := own_typed ho1 g1 rfl
  have cellN : ∀ {g : Nat} {L : List Int}, Kd.C (Kd.int .i64) W (some ⟨g, 0, none⟩) L.length L → L.length = m → ∀ i : Nat, i < m → W.cell? ⟨g, i, none⟩ = some (.int .i64 (rd L i)) := fun {g L} hC hL i hi => by
    obtain ⟨b, off, e, _, hc⟩ := ints_at hC (by omega)
    injection e with e
    injection e with e1 e2
    subst e1
    subst e2
    have := hc i (by omega)
    rwa [Nat.zero_add] at this
  exact ⟨n1.symm, m1.symm, own_base ho0 g0 rfl, own_base ho1 g1 rfl, cellN n3 n1.symm, cellN m3 m1.symm, fun i => blk_frozen hc0 i, fun i => blk_frozen hc1 i, (blk_cell h.box 0).trans rfl, (blk_cell h.box 1).trans rfl, (blk_cell h.mid 0).trans rfl, (blk_cell h.mid 1).trans rfl⟩
set_option maxRecDepth 100000 in
set_option maxHeartbeats 2000000 in
theorem Quotient_yes (k : Nat) (A0 : Option Addr) (c0 : Nat) (nx : List Int) (A1 : Option Addr) (c1 : Nat) (mk : List Int) (c : List Int) (mx : Int) (m : Nat) (w : World) (hr0 : Kd.C (Kd.int .i64) w A0 nx.length nx) (hc0 : nx.length ≤ c0) (hr1 : Kd.C (Kd.int .i64) w A1 mk.length mk) (hc1 : mk.length ≤ c1)
    (hv : PA.fixes_Works_valid.f nx mk = some true) (hcl : fixes_classes.f k nx mk = some c) (hmx : slices_Max.f c = some mx) (hm : wrap64 (mx + 1) = (m : Int)) (hm1 : m ≤ 1000) (hl : c.length = nx.length) (hlm : nx.length ≤ mk.length) (h61 : nx.length ≤ 61) (hrg : ∀ i : Nat, i < nx.length → 0 ≤ rd c i ∧ rd c i < m) :
    Calls Try.prog 34 #[.agg #[.slice A0 nx.length c0, .slice A1 mk.length c1]] w fun e w' => ∃ v0_ v1_ : Value, e = .returned (.tuple #[.agg #[v0_, v1_], .int .i64 0]) ∧ Kd.R (Kd.int .i64) 3 w' w.heap.size (fun k_ => some k_ ≠ (v1_ : Value).ownBlock) v0_ (qOut nx mk c m nx.length).1 ∧ Kd.R (Kd.int .i64) 3 w' w.heap.size (fun k_ => some k_ ≠ (v0_ : Value).ownBlock) v1_ (qOut nx mk c m nx.length).2 ∧ Below w.heap.size w w' := by
  have hu := Try.underlying28
  have HR0 := Lib.hid hr0
  have HR1 := Lib.hid hr1
  have HV := Lib.hid hv
  have HCL := Lib.hid hcl
  have HMX := Lib.hid hmx
  have hmw : IntKind.i64.wrap (mx + 1) = (m : Int) := (i64_w _).trans hm
  have HMW := Lib.hid hmw
  have HMW2 := Lib.hid hm
  have HL := Lib.hid hl
  have HRG := Lib.hid hrg
  clear hr0 hr1 hv hcl hmx hm hl hrg hmw
  go_enter Try.func34, Try.ntmps34
  go_wp2_with (first | ((with_reducible refine gate_dst (N := 1) rfl ?_); refine box_event ?hg (N := 1) ?hd (cs := #[.slice A0 nx.length c0, .slice A1 mk.length c1]) (t := 28) ?hr ?_; (case hd => rfl); (case hg => rfl); (case hr => first | (go_simp; done) | (go_simp; rfl)); intro gw hgw wb hbw hbb; have HBX := Lib.hid hbw; have HB0 := Lib.hid (below_step (Below.refl w.heap.size w) hbb); have hw0 : wb.cell? ⟨gw, 0, none⟩ = some (.slice A0 nx.length c0) := (blk_cell hbw 0).trans rfl; have hw1 : wb.cell? ⟨gw, 1, none⟩ = some (.slice A1 mk.length c1) := (blk_cell hbw 1).trans rfl; clear hgw hbw hbb) | ((with_reducible refine gate_dst (N := 2) rfl ?_); refine box_event ?hg (N := 2) ?hd (cs := #[.slice none 0 0, .slice none 0 0]) (t := 28) ?hr ?_; (case hd => rfl); (case hg => rfl); (case hr => first | (go_simp; done) | (go_simp; rfl) | kernel_rfl); intro gr hgr wc hbw hbb; have HGR := Lib.hid (show w.heap.size ≤ gr by rw [hgr]; exact HB0.out.size); have HBR := Lib.hid hbw; have HB1 := Lib.hid (below_step HB0.out hbb); have HBX1 := Lib.hid (blk_below HBX.out hbb); have k0_ := pw_cell_below hbb hw0; have k1_ := pw_cell_below hbb hw1; clear hgr hbw hbb hw0 hw1 HB0 HBX; have hw0 := k0_; have hw1 := k1_; clear k0_ k1_) | fail)
  refine (PA.fixes_Works_valid.calls A0 c0 nx A1 c1 mk true wc (Kd.C_below HR0.out HB1.out) hc0 (Kd.C_below HR1.out HB1.out) hc1 HV.out).mono ?_
  rintro e w1 ⟨rfl, hb⟩
  have HB2 := Lib.hid (below_step HB1.out hb)
  have HBX2 := Lib.hid (blk_below HBX1.out hb)
  have HBR2 := Lib.hid (blk_below HBR.out hb)
  have k0 := pw_cell_below hb hw0
  have k1 := pw_cell_below hb hw1
  clear hb hw0 hw1 HB1 HBX1 HBR
  go_wp2_with fail
  refine (fixes_classes.calls k A0 c0 nx A1 c1 mk c w1 (Kd.C_below HR0.out HB2.out) hc0 (Kd.C_below HR1.out HB2.out) hc1 HCL.out).mono ?_
  rintro e w2 ⟨vc, rfl, hvc, hb⟩
  obtain ⟨Ac, cc, rfl⟩ := Kd.R_slice hvc
  obtain ⟨_, hcc, hrc⟩ := Kd.R_reads' hvc
  have HCC := Lib.hid hcc
  have HRC := Lib.hid hrc
  have HVC := Lib.hid (Kd.R_lower hvc HB2.out.size)
  have HB3 := Lib.hid (below_step HB2.out hb)
  have HBX3 := Lib.hid (blk_below HBX2.out hb)
  have HBR3 := Lib.hid (blk_below HBR2.out hb)
  clear hb k0 k1 HB2 HBX2 HBR2 hvc hcc hrc
  go_wp2_with fail
  refine (slices_Max.calls Ac cc c mx w2 HRC.out HCC.out HMX.out).mono ?_
  rintro e w3 ⟨rfl, hd⟩
  have hb : Below w2.heap.size w2 w3 := by
    obtain ⟨q, rfl⟩ := hd
    exact pw_below_drewN (Below.refl _ _) q
  have HB4 := Lib.hid (below_step HB3.out hb)
  have HBX4 := Lib.hid (blk_below HBX3.out hb)
  have HBR4 := Lib.hid (blk_below HBR3.out hb)
  have HVC4 := Lib.hid (Kd.R_below HVC.out hb)
  clear hb hd HB3 HBX3 HBR3 HVC HMX HCL HV HRC
  have hmw := HMW.out
  have hmw2 := HMW2.out
  go_upto_region 5 with (fail)
  clear hmw hmw2
  have hmk : ∀ W : World, (Instr.makeSlice 22 (.int .i64 (m : Int)) (.int .i64 (m : Int))).run Try.prog W = .ok (.slice (some ⟨W.heap.size, 0, none⟩) m m) (W.alloc (.cells (Array.replicate m (.int .i64 0)) 3)) := fun W => run_mk22 W m hm1
  have HMK := Lib.hid hmk
  clear hmk
  generalize hz : Array.replicate m (Value.int .i64 0) = Z at HMK
  have HZ := Lib.hid hz
  clear hz
  go_cut [6] from 20 to 24 (fun v6 wc => ∃ (g6 g0 g1 : Nat), v6 = .pointer (some ⟨g6, 0, none⟩) ∧ Hid (QS w gw gr g6 A0 A1 Ac c0 c1 cc nx mk c (.slice (some ⟨g0, 0, none⟩) m m) (.slice (some ⟨g1, 0, none⟩) m m) (List.replicate m 0) (List.replicate m 0) wc))
  case first =>
    have hmk := HMK.out
    go_region
    all_goals clear hmk
    all_goals (go_wp2_with fail)
    all_goals go_meet
    all_goals (case rel => exact ⟨_, _, _, rfl, Lib.hid (QS.of3 hm1 HZ.out HB4.out HBX4.out HBR4.out HVC4.out (three_at _ _ _ _).2.2.2 (by first | exact (three_at _ _ _ _).1 | exact (three_at _ _ _ _).2.1 | exact (three_at _ _ _ _).2.2.1) (by first | exact (three_at _ _ _ _).1 | exact (three_at _ _ _ _).2.1 | exact (three_at _ _ _ _).2.2.1) (by first | exact (three_at _ _ _ _).1 | exact (three_at _ _ _ _).2.1 | exact (three_at _ _ _ _).2.2.1) (by omega) (by omega) (by omega))⟩)
  case rest =>
    obtain ⟨g6, g0, g1, rfl, HQ⟩ := hcut
    clear HBX4 HBR4 HVC4 HB4 HZ HMK
    go_wp2_with fail
    go_loopw [27] (fun v27 wr => ∃ s : Nat, s ≤ c.length ∧ v27 = .int .i64 s ∧ Hid (QS w gw gr g6 A0 A1 Ac c0 c1 cc nx mk c (.slice (some ⟨g0, 0, none⟩) m m) (.slice (some ⟨g1, 0, none⟩) m m) (qOut nx mk c m s).1 (qOut nx mk c m s).2 wr)) (fun v27 _ => c.length - (intOf v27).toNat)
    case atStart => exact ⟨0, by omega, rfl, HQ⟩
    case round =>
      clear HQ
      obtain ⟨s, hs, rfl, HQ⟩ := hrel
      obtain ⟨wo, rfl⟩ : ∃ wo : World, wo = wr := ⟨_, rfl⟩
      by_cases hlt : s < c.length
      · obtain ⟨q1, q2, q3, q4, q5, q6, q7, q8, q9, q10, q11, q12⟩ := HQ.out.reads
        have hsn : s < nx.length := by rw [← HL.out]; exact hlt
        obtain ⟨kc, hkc⟩ := Int.eq_ofNat_of_zero_le (HRG.out s hsn).1
        have hkm : kc < m := by have := (HRG.out s hsn).2; omega
        obtain ⟨bc, oc, rfl, _, hcc⟩ := ints_at (Kd.R_reads' HQ.out.cls).2.2 (by omega)
        have hcs : wo.cell? ⟨bc, oc + s, none⟩ = some (.int .i64 (kc : Int)) := by rw [← hkc]; exact hcc s hlt
        obtain ⟨bm, om, rfl, _, hmm⟩ := ints_at (Kd.C_below HR1.out HQ.out.below) (by omega)
        have hms := hmm s (by omega)
        have hsm : s < mk.length := by omega
        have ht1 := q6 kc hkm
        have ht2 := q8 kc
        have HKC := Lib.hid hkc
        have Q1 := Lib.hid q1
        have Q2 := Lib.hid q2
        have Q3 := Lib.hid q3
        have Q4 := Lib.hid q4
        clear q1 q2 q3 q4 q5 q6 q7 q8 hcc hmm hkc q11
        go_wp2_with fail
        go_region
        go_wp2_with fail
        clear hcs hms ht1 ht2 q9 q10 q12
        go_loopw [43] (fun v43 wr2 => ∃ t : Nat, t ≤ c.length ∧ v43 = .int .i64 t ∧ Hid (QS w gw gr g6 A0 (some ⟨bm, om, none⟩) (some ⟨bc, oc, none⟩) c0 c1 cc nx mk c (.slice (some ⟨g0, 0, none⟩) m m) (.slice (some ⟨g1, 0, none⟩) m m) (qIn nx c s t (qOut nx mk c m s).1) ((qOut nx mk c m s).2.set kc (rd mk s)) wr2)) (fun v43 _ => c.length - (intOf v43).toNat)
        case atStart => exact ⟨0, by omega, rfl, Lib.hid (QS.drew (QS.setM HQ.out Q4.out kc (rd mk s)))⟩
        case round =>
          clear HQ
          obtain ⟨t, ht, rfl, HQ⟩ := hrel
          by_cases htl : t < c.length
          · obtain ⟨q1, q2, q3, q4, q5, q6, q7, q8, q9, q10, q11, q12⟩ := HQ.out.reads
            have htn : t < nx.length := by rw [← HL.out]; exact htl
            obtain ⟨jc, hjc⟩ := Int.eq_ofNat_of_zero_le (HRG.out t htn).1
            have hjm : jc < m := by have := (HRG.out t htn).2; omega
            obtain ⟨bc', oc', e', _, hcc⟩ := ints_at (Kd.R_reads' HQ.out.cls).2.2 (by omega)
            obtain ⟨rfl, rfl⟩ : bc = bc' ∧ oc = oc' := by injection e' with e'; injection e' with e1 e2; exact ⟨e1, e2⟩
            have hct : wr.cell? ⟨bc, oc + t, none⟩ = some (.int .i64 (jc : Int)) := by rw [← hjc]; exact hcc t htl
            obtain ⟨bn, on, rfl, _, hnn⟩ := ints_at (Kd.C_below HR0.out HQ.out.below) (by omega)
            have hns := hnn s hsn
            have ht1 := q5 kc hkm
            have ht2 := q7 kc
            have HJC := Lib.hid hjc
            have ht62 : t ≤ 62 := by omega
            clear q1 q2 q3 q4 q5 q6 q7 q8 hcc hnn hjc q12 e'
            go_wp2_with fail
            go_region
            clear hct hns ht1 ht2 q9 q10 q11
            go_wp2_with fail
            go_roundw
            case rel => exact ⟨t + 1, by omega, by go_num, Lib.hid (by rw [qIn_succ HKC.out HJC.out ht62]; exact QS.drew (QS.setN HQ.out Q3.out kc _))⟩
            case measure => simp [intOf]; omega
          · obtain rfl : t = c.length := by omega
            go_wp2_with fail
            go_roundw
            case rel => exact ⟨s + 1, by omega, by go_num, Lib.hid (by rw [qOut, HKC.out, Int.toNat_natCast, ← HL.out]; exact HQ.out)⟩
            case measure => simp [intOf]; omega
      · obtain rfl : s = c.length := by omega
        have hm0 : wo.cell? ⟨g6, 0, none⟩ = some (.slice (some ⟨g0, 0, none⟩) m m) := (blk_cell HQ.out.mid 0).trans rfl
        have hm1 : wo.cell? ⟨g6, 1, none⟩ = some (.slice (some ⟨g1, 0, none⟩) m m) := (blk_cell HQ.out.mid 1).trans rfl
        go_wp2_with (first | ((with_reducible refine gate_op (op := .store 28 (.tmp 2) (.tmp 67)) rfl ?_); refine whole_store_event rfl rfl 28 (.tmp 2) (.tmp 67) rfl (g := gr) (cur := #[.slice none 0 0, .slice none 0 0]) (.agg #[.slice (some ⟨g0, 0, none⟩) m m, .slice (some ⟨g1, 0, none⟩) m m]) [.slice (some ⟨g0, 0, none⟩) m m, .slice (some ⟨g1, 0, none⟩) m m] rfl rfl rfl info28s rfl (by simp [Value.oneCell']) HQ.out.res ?_; intro w5 hw5 hk5 hb5; have HB5 := Lib.hid (hb5 _ _ HQ.out.below HGR.out); have HK5 := Lib.hid hk5; have e0 : w5.cell? ⟨gr, 0, none⟩ = some (.slice (some ⟨g0, 0, none⟩) m m) := (blk_cell hw5 0).trans rfl; have e1 : w5.cell? ⟨gr, 1, none⟩ = some (.slice (some ⟨g1, 0, none⟩) m m) := (blk_cell hw5 1).trans rfl; clear hw5 hk5 hb5) | fail)
        refine bodyPost_ret (v := .tuple #[.agg #[.slice (some ⟨g0, 0, none⟩) m m, .slice (some ⟨g1, 0, none⟩) m m], .int .i64 0]) (by simp [results, Try.results34, go_sem, e0, e1, Result.andThen]) rfl ⟨_, _, rfl, ?_, ?_, HB5.out⟩
        · have := Kd.R_keep (Kd.R_types HQ.out.rowN HQ.out.res (by simp [Kd.int, Kd.scalar])) HK5.out (fun k hk => hk.2)
          rw [← HL.out]
          exact Kd.R_mono this (fun k hk => hk.1.1)
        · have := Kd.R_keep (Kd.R_types HQ.out.rowM HQ.out.res (by simp [Kd.int, Kd.scalar])) HK5.out (fun k hk => hk.2)
          rw [← HL.out]
          exact Kd.R_mono this (fun k hk => hk.1.1)
end Go.Proofs.Ytjffhhalmicodaa.X
end

section
set_option linter.unusedVariables false
set_option linter.unusedSimpArgs false
namespace Go.Proofs.Ytjffhhalmicodaa.X
open Go.RowKit Go.Proofs.YtjffhhalmicodaaW.PrintWords Go.Proofs.YtjffhhalmicodaaW.PrintLast Go.Proofs.YtjffhhalmicodaaW.PrintMore
set_option maxRecDepth 100000 in
set_option maxHeartbeats 2000000 in
theorem Quotient_no (A0 : Option Addr) (c0 : Nat) (nx : List Int) (A1 : Option Addr) (c1 : Nat) (mk : List Int) (w : World) (hr0 : Kd.C (Kd.int .i64) w A0 nx.length nx) (hc0 : nx.length ≤ c0) (hr1 : Kd.C (Kd.int .i64) w A1 mk.length mk) (hc1 : mk.length ≤ c1)
    (hv : PA.fixes_Works_valid.f nx mk = some false) :
    Calls Try.prog 34 #[.agg #[.slice A0 nx.length c0, .slice A1 mk.length c1]] w fun e w' => e = .returned (.tuple #[.agg #[.slice none 0 0, .slice none 0 0], .int .i64 2]) ∧ Below w.heap.size w w' := by
  have hu := Try.underlying28
  have HR0 := Lib.hid hr0
  have HR1 := Lib.hid hr1
  have HV := Lib.hid hv
  have hbd : ∀ w, (Instr.build 28 #[]).run Try.prog w = .ok (.agg #[.slice none 0 0, .slice none 0 0]) w := fun _ => by kernel_rfl
  have HBD := Lib.hid hbd
  clear hr0 hr1 hv hbd
  go_enter Try.func34, Try.ntmps34
  go_wp2_with (first | ((with_reducible refine gate_dst (N := 1) rfl ?_); refine box_event ?hg (N := 1) ?hd (cs := #[.slice A0 nx.length c0, .slice A1 mk.length c1]) (t := 28) ?hr ?_; (case hd => rfl); (case hg => rfl); (case hr => first | (go_simp; done) | (go_simp; rfl)); intro gw hgw wb hbw hbb; have HBX := Lib.hid hbw; have HB0 := Lib.hid (below_step (Below.refl w.heap.size w) hbb); have hw0 : wb.cell? ⟨gw, 0, none⟩ = some (.slice A0 nx.length c0) := (blk_cell hbw 0).trans rfl; have hw1 : wb.cell? ⟨gw, 1, none⟩ = some (.slice A1 mk.length c1) := (blk_cell hbw 1).trans rfl; clear hgw hbw hbb) | ((with_reducible refine gate_dst (N := 2) rfl ?_); refine box_event ?hg (N := 2) ?hd (cs := #[.slice none 0 0, .slice none 0 0]) (t := 28) ?hr ?_; (case hd => rfl); (case hg => rfl); (case hr => first | (go_simp; done) | (go_simp; rfl) | kernel_rfl); intro gr hgr wc hbw hbb; have HGR := Lib.hid (show w.heap.size ≤ gr by rw [hgr]; exact HB0.out.size); have HBR := Lib.hid hbw; have HB1 := Lib.hid (below_step HB0.out hbb); have HBX1 := Lib.hid (blk_below HBX.out hbb); have k0_ := pw_cell_below hbb hw0; have k1_ := pw_cell_below hbb hw1; clear hgr hbw hbb hw0 hw1 HB0 HBX; have hw0 := k0_; have hw1 := k1_; clear k0_ k1_) | fail)
  refine (PA.fixes_Works_valid.calls A0 c0 nx A1 c1 mk false wc (Kd.C_below HR0.out HB1.out) hc0 (Kd.C_below HR1.out HB1.out) hc1 HV.out).mono ?_
  rintro e w1 ⟨rfl, hb⟩
  have HB2 := Lib.hid (below_step HB1.out hb)
  have HBR2 := Lib.hid (blk_below HBR.out hb)
  clear hb hw0 hw1 HB1 HBX1 HBR
  have hbd := HBD.out
  go_wp2_with (first | ((with_reducible refine gate_op (op := .store 28 (.tmp 2) (.tmp 14)) rfl ?_); refine whole_store_event rfl rfl 28 (.tmp 2) (.tmp 14) rfl (g := gr) (cur := #[.slice none 0 0, .slice none 0 0]) (.agg #[.slice none 0 0, .slice none 0 0]) [.slice none 0 0, .slice none 0 0] rfl rfl rfl info28s rfl (by simp [Value.oneCell']) HBR2.out ?_; intro w5 hw5 hk5 hb5; have HB5 := Lib.hid (hb5 _ _ HB2.out HGR.out); have e0 : w5.cell? ⟨gr, 0, none⟩ = some (.slice none 0 0) := (blk_cell hw5 0).trans rfl; have e1 : w5.cell? ⟨gr, 1, none⟩ = some (.slice none 0 0) := (blk_cell hw5 1).trans rfl; clear hw5 hk5 hb5) | fail)
  exact bodyPost_ret (v := .tuple #[.agg #[.slice none 0 0, .slice none 0 0], .int .i64 2]) (by simp [results, Try.results34, go_sem, e0, e1, Result.andThen]) rfl ⟨rfl, HB5.out⟩
def fixes_Quotient.f (k : Nat) (l0_0 l0_1 : List Int) : Option (List Int × List Int × Int) := (PA.fixes_Works_valid.f l0_0 l0_1).bind fun b => if b = true then ((fixes_classes.f k l0_0 l0_1).bind fun c => (slices_Max.f c).bind fun mx =>
  if (0 ≤ wrap64 (mx + 1) ∧ wrap64 (mx + 1) ≤ 1000) ∧ c.length = l0_0.length ∧ l0_0.length ≤ l0_1.length ∧ l0_0.length ≤ 61 ∧ (∀ i, i < l0_0.length → 0 ≤ rd c (i : Int) ∧ rd c (i : Int) < wrap64 (mx + 1)) then
    some ((qOut l0_0 l0_1 c (wrap64 (mx + 1)).toNat l0_0.length).1, (qOut l0_0 l0_1 c (wrap64 (mx + 1)).toNat l0_0.length).2, 0) else none) else some ([], [], 2)
theorem fixes_Quotient.calls (k : Nat) (A0_0 : Option Addr) (c0_0 : Nat) (l0_0 : List Int) (A0_1 : Option Addr) (c0_1 : Nat) (l0_1 : List Int) (r1 : List Int) (r2 : List Int) (r3 : Int) (w : World) (hr0_0 : Kd.C (Kd.int .i64) w A0_0 l0_0.length l0_0) (hc0_0 : l0_0.length ≤ c0_0) (hr0_1 : Kd.C (Kd.int .i64) w A0_1 l0_1.length l0_1) (hc0_1 : l0_1.length ≤ c0_1) (h : fixes_Quotient.f k l0_0 l0_1 = some (r1, r2, r3)) :
    Calls Try.prog 34 #[.agg #[.slice A0_0 l0_0.length c0_0, .slice A0_1 l0_1.length c0_1]] w fun e w' => ∃ v0_ v1_ : Value, e = .returned (.tuple #[.agg #[v0_, v1_], .int .i64 r3]) ∧ Kd.R (Kd.int .i64) 3 w' w.heap.size (fun k_ => some k_ ≠ (v1_ : Value).ownBlock) v0_ r1 ∧ Kd.R (Kd.int .i64) 3 w' w.heap.size (fun k_ => some k_ ≠ (v0_ : Value).ownBlock) v1_ r2 ∧ Below w.heap.size w w' := by
  unfold fixes_Quotient.f at h
  obtain ⟨b, hb, h⟩ := Option.bind_eq_some_iff.mp h
  cases b
  · simp only [Bool.false_eq_true, if_false, Option.some.injEq, Prod.mk.injEq] at h
    obtain ⟨rfl, rfl, rfl⟩ := h
    refine (Quotient_no A0_0 c0_0 l0_0 A0_1 c0_1 l0_1 w hr0_0 hc0_0 hr0_1 hc0_1 hb).mono ?_
    rintro e w' ⟨rfl, hB⟩
    exact ⟨_, _, rfl, Kd.R_nil _ _ _ _ _, Kd.R_nil _ _ _ _ _, hB⟩
  · simp only [if_true] at h
    obtain ⟨c, hc, h⟩ := Option.bind_eq_some_iff.mp h
    obtain ⟨mx, hmx, h⟩ := Option.bind_eq_some_iff.mp h
    split at h
    · rename_i hcond
      obtain ⟨⟨h0, h1⟩, h2, h3, h4, h5⟩ := hcond
      obtain ⟨m, hm⟩ := Int.eq_ofNat_of_zero_le h0
      rw [hm, Int.toNat_natCast] at h
      simp only [Option.some.injEq, Prod.mk.injEq] at h
      obtain ⟨rfl, rfl, rfl⟩ := h
      rw [hm] at h1 h5
      exact Quotient_yes k A0_0 c0_0 l0_0 A0_1 c0_1 l0_1 c mx m w hr0_0 hc0_0 hr0_1 hc0_1 hb hc hmx hm (by omega) h2 h3 h4 h5
    · cases h
end Go.Proofs.Ytjffhhalmicodaa.X
end

section
namespace Go.Proofs.Ytjffhhalmicodaa.PF
open Go.RowKit Go.Proofs.YtjffhhalmicodaaW.PrintWords Go.Proofs.YtjffhhalmicodaaW.PrintLast Go.Proofs.YtjffhhalmicodaaW.PrintMore
attribute [local go_sem] max2_int min2_int max_two min_two max_three min_three max_four min_four
set_option linter.unusedVariables false
set_option linter.unusedSimpArgs false
mutual
def comfitref08_Quotient.l0 : Nat → List Int → List Int → Int → Int → List Int → List Int → List Int → List Int → Option (List Int × List Int)
  | 0, _, _, _, _, _, _, _, _ => none
  | k + 1, x4, x13, x14, x15, x208000, x208001, x210000, x210001 => if x15 < x14 then (if 0 ≤ x15 then (if x15 < (x13.length : Int) then (comfitref08_Quotient.l1 k x4 (rd x13 x15) 0 x13 x14 x15 x208000 x208001 x210000 x210001) else (none)) else (none)) else (some (x210000, x210001))
def comfitref08_Quotient.l1 : Nat → List Int → Int → Int → List Int → Int → Int → List Int → List Int → List Int → List Int → Option (List Int × List Int)
  | 0, _, _, _, _, _, _, _, _, _, _ => none
  | k + 1, x4, x6, x7, x13, x14, x15, x208000, x208001, x210000, x210001 => if 0 ≤ x7 then (if (Go.bits .and .i64 (shr .i64 x6 x7) 1) = 0 then (comfitref08_Quotient.l1 k x4 x6 (wrap64 (x7 + 1)) x13 x14 x15 x208000 x208001 x210000 x210001) else (comfitref08_Quotient.l2 k x4 x7 0 x13 x14 x15 x4 (x4.length : Int) 0 x208000 x208001 x210000 x210001)) else (none)
def comfitref08_Quotient.l2 : Nat → List Int → Int → Int → List Int → Int → Int → List Int → Int → Int → List Int → List Int → List Int → List Int → Option (List Int × List Int)
  | 0, _, _, _, _, _, _, _, _, _, _, _, _, _ => none
  | k + 1, x4, x7, x8, x13, x14, x15, x26, x27, x28, x208000, x208001, x210000, x210001 => if x28 < x27 then (if 0 ≤ x28 then (if x28 < (x26.length : Int) then (if 0 ≤ x7 then (if x7 < (x208000.length : Int) then (if (Go.bits .and .i64 (rd x208000 x7) (rd x26 x28)) = 0 then (comfitref08_Quotient.l2 k x4 x7 x8 x13 x14 x15 x26 x27 (wrap64 (x28 + 1)) x208000 x208001 x210000 x210001) else (comfitref08_Quotient.l2 k x4 x7 (Go.bits .or .i64 x8 (shl .i64 1 x28)) x13 x14 x15 x26 x27 (wrap64 (x28 + 1)) x208000 x208001 x210000 x210001)) else (none)) else (none)) else (none)) else (none)) else (if x210000.length < 17592186044416 then (if 0 ≤ x7 then (if x7 < (x208001.length : Int) then (if x210001.length < 17592186044416 then (comfitref08_Quotient.l0 k x4 x13 x14 (wrap64 (x15 + 1)) x208000 x208001 (x210000 ++ [x8]) (x210001 ++ [rd x208001 x7])) else (none)) else (none)) else (none)) else (none))
end
def comfitref08_Quotient.f (k : Nat) (l0_0 : List Int) (l0_1 : List Int) : Option (List Int × List Int) := (comfitref08_Classes.f k l0_0 l0_1).bind fun t210 => (comfitref08_Quotient.l0 k t210 t210 (t210.length : Int) 0 l0_0 l0_1 ([] : List Int) ([] : List Int))
def comfitref08_Quotient.T17 : Bool × List (List Nat × List Nat) := (true, [([], []), ([0], [0]), ([], []), ([2], [2]), ([], []), ([3, 4], [3, 4]), ([5], [5]), ([6], [6]), ([1, 7], [1, 7]), ([0, 1, 2, 3, 4, 5, 6, 7, 8], []), ([9, 8, 8, 0, 1, 2, 3, 4, 5, 6, 7, 8], [8, 9])])
def comfitref08_Quotient.B17 : List Nat := [0, 1, 0, 4, 0, 28, 60, 124, 255, 511, 1023]
theorem comfitref08_Quotient.tab17 : rtab .any (opsOf Try.f35 17) = comfitref08_Quotient.T17 := by kernel_rfl
theorem comfitref08_Quotient.bits17 : waitsOk comfitref08_Quotient.T17.2 comfitref08_Quotient.B17 = true := by kernel_rfl
set_option maxHeartbeats 8000000 in
set_option maxRecDepth 100000 in
theorem comfitref08_Quotient.calls (k : Nat) (A0_0 : Option Addr) (c0_0 : Nat) (l0_0 : List Int) (A0_1 : Option Addr) (c0_1 : Nat) (l0_1 : List Int) (r1 : List Int) (r2 : List Int) (w : World) (hr0_0 : Kd.C (Kd.int .i64) w A0_0 l0_0.length l0_0) (hc0_0 : l0_0.length ≤ c0_0) (hr0_1 : Kd.C (Kd.int .i64) w A0_1 l0_1.length l0_1) (hc0_1 : l0_1.length ≤ c0_1) (h : comfitref08_Quotient.f k l0_0 l0_1 = some (r1, r2)) :
    Calls Try.prog 35 #[.agg #[.slice A0_0 l0_0.length c0_0, .slice A0_1 l0_1.length c0_1]] w fun e w' => ∃ v0_ v1_ : Value, e = .returned (.agg #[v0_, v1_]) ∧ Kd.R (Kd.int .i64) 3 w' w.heap.size (fun k_ => some k_ ≠ (v1_ : Value).ownBlock) v0_ r1 ∧ Kd.R (Kd.int .i64) 3 w' w.heap.size (fun k_ => some k_ ≠ (v0_ : Value).ownBlock) v1_ r2 ∧ Below w.heap.size w w' := by
  have hu24 := Try.underlying24
  have HR0_0 := Aside0.mk hr0_0
  have HC0_0 := Aside0.mk hc0_0
  clear hr0_0 hc0_0
  have HR0_1 := Aside0.mk hr0_1
  have HC0_1 := Aside0.mk hc0_1
  clear hr0_1 hc0_1
  have HB := Aside0.mk (Below.refl w.heap.size w)
  have H : ((comfitref08_Classes.f k l0_0 l0_1).bind fun t210 => (comfitref08_Quotient.l0 k t210 t210 (t210.length : Int) 0 l0_0 l0_1 ([] : List Int) ([] : List Int))) = some (r1, r2) := h
  clear h
  replace H := Option.bind_eq_some_iff.mp H
  obtain ⟨t210, A20, H⟩ := H
  replace H : (comfitref08_Quotient.l0 k t210 t210 (t210.length : Int) 0 l0_0 l0_1 ([] : List Int) ([] : List Int)) = some (r1, r2) := H
  have A2 := Aside0.mk A20
  clear A20
  have H' := Aside0.mk H
  clear H
  go_enter Try.func35, Try.ntmps35
  go_wp2_with (first | ((with_reducible refine gate_dst (N := 1) rfl ?_); refine box_event ?hg (N := 1) ?hd (cs := #[.slice A0_0 l0_0.length c0_0, .slice A0_1 l0_1.length c0_1]) (t := 24) ?hr ?_; (case hd => rfl); (case hg => rfl); (case hr => first | (go_simp; done) | (go_simp; rfl)); intro gb207 hg w3 hbox hb; have n0_ := Aside0.mk (below_step (by repeat (first | (with_reducible first | exact HB.out | apply below_alloc | apply pw_below_drewN | apply below_drew1) | exact HB.out)) hb); have n1_ := Aside0.mk (hbox); have n2_ := Aside0.mk ((by rw [hg]; exact (below_size (by repeat (first | (with_reducible first | exact HB.out | apply below_alloc | apply pw_below_drewN | apply below_drew1) | exact HB.out))) : w.heap.size ≤ gb207)); have n3_ := Aside0.mk ((by rw [hg]; exact (below_size (by repeat (first | (with_reducible first | exact HB.out | apply below_alloc | apply pw_below_drewN | apply below_drew1) | exact HB.out))) : w.heap.size ≤ gb207)); clear HB; have HB := n0_; have BK207 := n1_; have GW207 := n2_; have GE207 := n3_; clear n0_ n1_ n2_ n3_; clear hb hbox hg) | ((with_reducible refine gate_dst (N := 2) rfl ?_); refine box_event ?hg (N := 2) ?hd (cs := #[.slice none 0 0, .slice none 0 0]) (t := 24) ?hr ?_; (case hd => rfl); (case hg => rfl); (case hr => first | (go_simp; done) | (go_simp; rfl)); intro gb208 hg w4 hbox hb; have n0_ := Aside0.mk (blk_below (g := gb207) (o := .cells #[.slice A0_0 l0_0.length c0_0, .slice A0_1 l0_1.length c0_1] 24 (0, 0)) (by (with_reducible repeat (first | refine blk_drewN ?_ _ | refine blk_drew ?_ | refine blk_alloc ?_ _)); exact BK207.out) hb); have n1_ := Aside0.mk (below_step (by repeat (first | (with_reducible first | exact HB.out | apply below_alloc | apply pw_below_drewN | apply below_drew1 | refine below_set ?_ GE207.out) | exact HB.out)) hb); have n2_ := Aside0.mk (hbox); have n3_ := Aside0.mk ((by rw [hg]; exact (below_size (by repeat (first | (with_reducible first | exact HB.out | apply below_alloc | apply pw_below_drewN | apply below_drew1 | refine below_set ?_ GE207.out) | exact HB.out))) : w.heap.size ≤ gb208)); have n4_ := Aside0.mk ((by rw [hg]; exact (below_size (by repeat (first | (with_reducible first | exact HB.out | apply below_alloc | apply pw_below_drewN | apply below_drew1 | refine below_set ?_ GE207.out) | exact HB.out))) : w.heap.size ≤ gb208)); have n5_ := Aside0.mk ((by rw [hg]; exact Nat.ne_of_lt (blk_lt (g := gb207) (o := .cells #[.slice A0_0 l0_0.length c0_0, .slice A0_1 l0_1.length c0_1] 24 (0, 0)) (by (with_reducible repeat (first | refine blk_drewN ?_ _ | refine blk_drew ?_ | refine blk_alloc ?_ _)); exact BK207.out)) : gb207 ≠ gb208)); have n6_ := Aside0.mk ((by rw [hg]; exact Nat.ne_of_gt (blk_lt (g := gb207) (o := .cells #[.slice A0_0 l0_0.length c0_0, .slice A0_1 l0_1.length c0_1] 24 (0, 0)) (by (with_reducible repeat (first | refine blk_drewN ?_ _ | refine blk_drew ?_ | refine blk_alloc ?_ _)); exact BK207.out)) : gb208 ≠ gb207)); clear BK207; clear HB; have BK207 := n0_; have HB := n1_; have BK208 := n2_; have GW208 := n3_; have GE208 := n4_; have NB207_208 := n5_; have NB208_207 := n6_; clear n0_ n1_ n2_ n3_ n4_ n5_ n6_; clear hb hbox hg) | ((with_reducible refine gate_dst (N := 3) rfl ?_); refine box_event ?hg (N := 3) ?hd (cs := #[.slice none 0 0, .slice none 0 0]) (t := 24) ?hr ?_; (case hd => rfl); (case hg => rfl); (case hr => first | (go_simp; done) | (go_simp; rfl)); intro gb209 hg w5 hbox hb; have n0_ := Aside0.mk (blk_below (g := gb207) (o := .cells #[.slice A0_0 l0_0.length c0_0, .slice A0_1 l0_1.length c0_1] 24 (0, 0)) (by (with_reducible repeat (first | refine blk_drewN ?_ _ | refine blk_drew ?_ | refine blk_alloc ?_ _)); exact BK207.out) hb); have n1_ := Aside0.mk (blk_below (g := gb208) (o := .cells #[.slice none 0 0, .slice none 0 0] 24 (0, 0)) (by (with_reducible repeat (first | refine blk_drewN ?_ _ | refine blk_drew ?_ | refine blk_alloc ?_ _)); exact BK208.out) hb); have n2_ := Aside0.mk (below_step (by repeat (first | (with_reducible first | exact HB.out | apply below_alloc | apply pw_below_drewN | apply below_drew1 | refine below_set ?_ GE207.out | refine below_set ?_ GE208.out) | exact HB.out)) hb); have n3_ := Aside0.mk (hbox); have n4_ := Aside0.mk ((by rw [hg]; exact (below_size (by repeat (first | (with_reducible first | exact HB.out | apply below_alloc | apply pw_below_drewN | apply below_drew1 | refine below_set ?_ GE207.out | refine below_set ?_ GE208.out) | exact HB.out))) : w.heap.size ≤ gb209)); have n5_ := Aside0.mk ((by rw [hg]; exact (below_size (by repeat (first | (with_reducible first | exact HB.out | apply below_alloc | apply pw_below_drewN | apply below_drew1 | refine below_set ?_ GE207.out | refine below_set ?_ GE208.out) | exact HB.out))) : w.heap.size ≤ gb209)); have n6_ := Aside0.mk ((by rw [hg]; exact Nat.ne_of_lt (blk_lt (g := gb207) (o := .cells #[.slice A0_0 l0_0.length c0_0, .slice A0_1 l0_1.length c0_1] 24 (0, 0)) (by (with_reducible repeat (first | refine blk_drewN ?_ _ | refine blk_drew ?_ | refine blk_alloc ?_ _)); exact BK207.out)) : gb207 ≠ gb209)); have n7_ := Aside0.mk ((by rw [hg]; exact Nat.ne_of_gt (blk_lt (g := gb207) (o := .cells #[.slice A0_0 l0_0.length c0_0, .slice A0_1 l0_1.length c0_1] 24 (0, 0)) (by (with_reducible repeat (first | refine blk_drewN ?_ _ | refine blk_drew ?_ | refine blk_alloc ?_ _)); exact BK207.out)) : gb209 ≠ gb207)); have n8_ := Aside0.mk ((by rw [hg]; exact Nat.ne_of_lt (blk_lt (g := gb208) (o := .cells #[.slice none 0 0, .slice none 0 0] 24 (0, 0)) (by (with_reducible repeat (first | refine blk_drewN ?_ _ | refine blk_drew ?_ | refine blk_alloc ?_ _)); exact BK208.out)) : gb208 ≠ gb209)); have n9_ := Aside0.mk ((by rw [hg]; exact Nat.ne_of_gt (blk_lt (g := gb208) (o := .cells #[.slice none 0 0, .slice none 0 0] 24 (0, 0)) (by (with_reducible repeat (first | refine blk_drewN ?_ _ | refine blk_drew ?_ | refine blk_alloc ?_ _)); exact BK208.out)) : gb209 ≠ gb208)); clear BK207; clear BK208; clear HB; have BK207 := n0_; have BK208 := n1_; have HB := n2_; have BK209 := n3_; have GW209 := n4_; have GE209 := n5_; have NB207_209 := n6_; have NB209_207 := n7_; have NB208_209 := n8_; have NB209_208 := n9_; clear n0_ n1_ n2_ n3_ n4_ n5_ n6_ n7_ n8_ n9_; clear hb hbox hg; have hnb6 := NB207_208.out; have hnc6 := NB208_207.out; have hnb7 := NB207_209.out; have hnc7 := NB209_207.out; have hcz8_0 : w5.cell? ⟨gb207, 0, none⟩ = some (.slice A0_0 l0_0.length c0_0) := (blk_cell BK207.out 0).trans rfl; have hcz8_1 : w5.cell? ⟨gb207, 1, none⟩ = some (.slice A0_1 l0_1.length c0_1) := (blk_cell BK207.out 1).trans rfl; have hfz8_0 := blk_frozen BK207.out 0; have hfz8_1 := blk_frozen BK207.out 1) | ((with_reducible refine gate_callee (f := 39) rfl ?_); refine goesL_ (some 12) rfl rfl Try.func39 (by kernel_rfl) rfl #[.agg #[.slice A0_0 l0_0.length c0_0, .slice A0_1 l0_1.length c0_1]] rfl (by (try simp only [List.map_toArray, List.map_cons, List.map_nil]); first | done | rfl | (simp only [List.length_drop, List.length_take]; rfl)) ?_; (with_reducible refine (comfitref08_Classes.calls k _ _ l0_0 _ _ l0_1 t210 _ ?side1 ?side2 ?side3 ?side4 A2.out).mono ?_); (case side1 => repeat (first | exact (Kd.C_below HR0_0.out HB.out) | (with_reducible refine Kd.C_alloc ?_ _) | (with_reducible refine Kd.C_drewN ?_ _) | (with_reducible refine Kd.C_drew ?_))); (case side2 => exact HC0_0.out); (case side3 => repeat (first | exact (Kd.C_below HR0_1.out HB.out) | (with_reducible refine Kd.C_alloc ?_ _) | (with_reducible refine Kd.C_drewN ?_ _) | (with_reducible refine Kd.C_drew ?_))); (case side4 => exact HC0_1.out); rintro e w9 ⟨v211, rfl, ho0, hb⟩; refine ⟨_, rfl, ?_⟩; have n0_ := Aside0.mk (Kd.R_lower ho0 (below_size (by repeat (first | (with_reducible first | exact HB.out | apply below_alloc | apply pw_below_drewN | apply below_drew1 | refine below_set ?_ GE207.out | refine below_set ?_ GE208.out | refine below_set ?_ GE209.out) | exact HB.out)))); have n1_ := Aside0.mk (blk_below (g := gb207) (o := .cells #[.slice A0_0 l0_0.length c0_0, .slice A0_1 l0_1.length c0_1] 24 (0, 0)) (by (with_reducible repeat (first | refine blk_drewN ?_ _ | refine blk_drew ?_ | refine blk_alloc ?_ _)); exact BK207.out) hb); have n2_ := Aside0.mk (blk_below (g := gb208) (o := .cells #[.slice none 0 0, .slice none 0 0] 24 (0, 0)) (by (with_reducible repeat (first | refine blk_drewN ?_ _ | refine blk_drew ?_ | refine blk_alloc ?_ _)); exact BK208.out) hb); have n3_ := Aside0.mk (blk_below (g := gb209) (o := .cells #[.slice none 0 0, .slice none 0 0] 24 (0, 0)) (by (with_reducible repeat (first | refine blk_drewN ?_ _ | refine blk_drew ?_ | refine blk_alloc ?_ _)); exact BK209.out) hb); have n4_ := Aside0.mk (below_step (by repeat (first | (with_reducible first | exact HB.out | apply below_alloc | apply pw_below_drewN | apply below_drew1 | refine below_set ?_ GE207.out | refine below_set ?_ GE208.out | refine below_set ?_ GE209.out) | exact HB.out)) hb); clear BK207; clear BK208; clear BK209; clear HB; have HO212 := n0_; have BK207 := n1_; have BK208 := n2_; have BK209 := n3_; have HB := n4_; clear n0_ n1_ n2_ n3_ n4_; (try clear hb); (try clear hb2); (try clear hk); (try clear hi); (try clear ho0); obtain ⟨Ao10, co10, eo10⟩ := Kd.R_slice HO212.out; subst eo10))
  go_loopg [15] k (fun kq v15 w' => ∃ (x15_1 : Int) (x210000_1 : List Int) (x210001_1 : List Int) (u210000 : Value) (u210001 : Value), v15 = .int .i64 x15_1 ∧ Aside0 (comfitref08_Quotient.l0 kq t210 t210 (t210.length : Int) x15_1 l0_0 l0_1 x210000_1 x210001_1 = some (r1, r2)) ∧ Aside0 (kq ≤ k) ∧ Aside0 (Kd.R (Kd.int .i64) 3 w' w.heap.size (fun k_ => some k_ ≠ (u210000 : Value).ownBlock ∧ some k_ ≠ (u210001 : Value).ownBlock) (.slice Ao10 t210.length co10) t210) ∧ Aside0 (Kd.R (Kd.int .i64) 3 w' w.heap.size (fun k_ => some k_ ≠ (u210000 : Value).ownBlock ∧ some k_ ≠ (u210001 : Value).ownBlock) (.slice Ao10 t210.length co10) t210) ∧ Aside0 (Kd.R (Kd.int .i64) 3 w' w.heap.size (fun k_ => some k_ ≠ ((.slice Ao10 t210.length co10) : Value).ownBlock ∧ some k_ ≠ ((.slice Ao10 t210.length co10) : Value).ownBlock ∧ some k_ ≠ (u210001 : Value).ownBlock) u210000 x210000_1) ∧ Aside0 (Kd.R (Kd.int .i64) 3 w' w.heap.size (fun k_ => some k_ ≠ ((.slice Ao10 t210.length co10) : Value).ownBlock ∧ some k_ ≠ ((.slice Ao10 t210.length co10) : Value).ownBlock ∧ some k_ ≠ (u210000 : Value).ownBlock) u210001 x210001_1) ∧ Aside0 (w'.heap[gb207]? = some (.cells #[(.slice A0_0 l0_0.length c0_0), (.slice A0_1 l0_1.length c0_1)] 24 (0, 0))) ∧ Aside0 (w'.heap[gb208]? = some (.cells #[(.slice none 0 0), (.slice none 0 0)] 24 (0, 0))) ∧ Aside0 (w'.heap[gb209]? = some (.cells #[u210000, u210001] 24 (0, 0))) ∧ Aside0 (Below w.heap.size w w'))
  case atStart => exact ⟨(0), (([] : List Int)), (([] : List Int)), (.slice none 0 0), (.slice none 0 0), (by first | rfl | (simp; done) | (simp [*]; done)), H', ⟨Nat.le_refl _⟩, ⟨by (with_reducible repeat (first | apply Kd.R_alloc | apply Kd.R_drewN | apply Kd.R_drew)); exact Kd.R_mono HO212.out (fun _ hk => ⟨(by simp [Value.ownBlock]), (by simp [Value.ownBlock])⟩)⟩, ⟨by (with_reducible repeat (first | apply Kd.R_alloc | apply Kd.R_drewN | apply Kd.R_drew)); exact Kd.R_mono HO212.out (fun _ hk => ⟨(by simp [Value.ownBlock]), (by simp [Value.ownBlock])⟩)⟩, ⟨by first | exact Kd.R_nil _ _ _ _ _ | exact Kd.N_nil _ _ _ _ _ | exact Kd.V_nil _ _ _ _ _ | exact Kd.Q_nil _ _ _ _ _ | exact Kd.S_nil _ _ _ _ _⟩, ⟨by first | exact Kd.R_nil _ _ _ _ _ | exact Kd.N_nil _ _ _ _ _ | exact Kd.V_nil _ _ _ _ _ | exact Kd.Q_nil _ _ _ _ _ | exact Kd.S_nil _ _ _ _ _⟩, ⟨by (with_reducible repeat (first | refine blk_drewN ?_ _ | refine blk_drew ?_ | refine blk_alloc ?_ _)); exact BK207.out⟩, ⟨by (with_reducible repeat (first | refine blk_drewN ?_ _ | refine blk_drew ?_ | refine blk_alloc ?_ _)); exact BK208.out⟩, ⟨by (with_reducible repeat (first | refine blk_drewN ?_ _ | refine blk_drew ?_ | refine blk_alloc ?_ _)); exact BK209.out⟩, ⟨by repeat (first | (with_reducible first | exact HB.out | apply below_alloc | apply pw_below_drewN | apply below_drew1 | refine below_set ?_ GE207.out | refine below_set ?_ GE208.out | refine below_set ?_ GE209.out) | exact HB.out)⟩⟩
  case round =>
    clear H'
    try clear p2
    try clear c3
    try clear c6
    try clear c7
    try clear hcz8_0
    try clear hcz8_1
    try clear hfz8_0
    try clear hfz8_1
    obtain ⟨x15_1, x210000_1, x210001_1, u210000, u210001, rfl, HA, HK1, HO_4, HO_13, HO_210000, HO_210001, BK207, BK208, BK209, HB⟩ := hrel
    cases gk with
    | zero => exact absurd HA.out (by simp [comfitref08_Quotient.l0])
    | succ k1 =>
      have H := HA.out
      clear HA
      simp only [comfitref08_Quotient.l0] at H
      by_cases c11 : x15_1 < (t210.length : Int)
      · rw [if_pos c11] at H
        have c11b0 : decide (x15_1 < (t210.length : Int)) = true := decide_eq_true c11
        clear c11
        by_cases c12 : 0 ≤ x15_1
        · rw [if_pos c12] at H
          have c12b0 : decide (0 ≤ x15_1) = true := decide_eq_true c12
          clear c12
          by_cases c13 : x15_1 < (t210.length : Int)
          · rw [if_pos c13] at H
            have c13b0 : decide (x15_1 < (t210.length : Int)) = true := decide_eq_true c13
            clear c13
            have H' := Aside0.mk H
            clear H
            have p213 : 0 ≤ (x15_1 : Int) := of_decide_eq_true (by first | (with_reducible assumption) | assumption)
            have q213 : x15_1 < (t210.length : Int) := of_decide_eq_true (by first | (with_reducible assumption) | assumption)
            obtain ⟨ad213, e213, hx213_0⟩ := Kd.at_int (Kd.R_reads' HO_13.out).2.2 x15_1 p213 q213
            cases e213
            replace p213 := eq_true p213
            replace q213 := eq_true q213
            go_wp2
            go_loopg [7] k1 (fun kq v7 w' => ∃ (x7_2 : Int), v7 = .int .i64 x7_2 ∧ Aside0 (comfitref08_Quotient.l1 kq t210 (rd t210 x15_1) x7_2 t210 (t210.length : Int) x15_1 l0_0 l0_1 x210000_1 x210001_1 = some (r1, r2)) ∧ Aside0 (kq ≤ k1) ∧ Aside0 (Kd.R (Kd.int .i64) 3 w' w.heap.size (fun k_ => some k_ ≠ (u210000 : Value).ownBlock ∧ some k_ ≠ (u210001 : Value).ownBlock) (.slice (some ad213) t210.length co10) t210) ∧ Aside0 (Kd.R (Kd.int .i64) 3 w' w.heap.size (fun k_ => some k_ ≠ (u210000 : Value).ownBlock ∧ some k_ ≠ (u210001 : Value).ownBlock) (.slice (some ad213) t210.length co10) t210) ∧ Aside0 (Kd.R (Kd.int .i64) 3 w' w.heap.size (fun k_ => some k_ ≠ ((.slice (some ad213) t210.length co10) : Value).ownBlock ∧ some k_ ≠ ((.slice (some ad213) t210.length co10) : Value).ownBlock ∧ some k_ ≠ (u210001 : Value).ownBlock) u210000 x210000_1) ∧ Aside0 (Kd.R (Kd.int .i64) 3 w' w.heap.size (fun k_ => some k_ ≠ ((.slice (some ad213) t210.length co10) : Value).ownBlock ∧ some k_ ≠ ((.slice (some ad213) t210.length co10) : Value).ownBlock ∧ some k_ ≠ (u210000 : Value).ownBlock) u210001 x210001_1) ∧ Aside0 (w'.heap[gb207]? = some (.cells #[(.slice A0_0 l0_0.length c0_0), (.slice A0_1 l0_1.length c0_1)] 24 (0, 0))) ∧ Aside0 (w'.heap[gb208]? = some (.cells #[(.slice none 0 0), (.slice none 0 0)] 24 (0, 0))) ∧ Aside0 (w'.heap[gb209]? = some (.cells #[u210000, u210001] 24 (0, 0))) ∧ Aside0 (Below w.heap.size w w'))
            case atStart => exact ⟨(0), (by first | rfl | (simp; done) | (simp [*]; done)), H', ⟨Nat.le_refl _⟩, ⟨by (with_reducible repeat (first | apply Kd.R_alloc | apply Kd.R_drewN | apply Kd.R_drew)); exact HO_4.out⟩, ⟨by (with_reducible repeat (first | apply Kd.R_alloc | apply Kd.R_drewN | apply Kd.R_drew)); exact HO_13.out⟩, ⟨by (with_reducible repeat (first | apply Kd.R_alloc | apply Kd.R_drewN | apply Kd.R_drew)); exact HO_210000.out⟩, ⟨by (with_reducible repeat (first | apply Kd.R_alloc | apply Kd.R_drewN | apply Kd.R_drew)); exact HO_210001.out⟩, ⟨by (with_reducible repeat (first | refine blk_drewN ?_ _ | refine blk_drew ?_ | refine blk_alloc ?_ _)); exact BK207.out⟩, ⟨by (with_reducible repeat (first | refine blk_drewN ?_ _ | refine blk_drew ?_ | refine blk_alloc ?_ _)); exact BK208.out⟩, ⟨by (with_reducible repeat (first | refine blk_drewN ?_ _ | refine blk_drew ?_ | refine blk_alloc ?_ _)); exact BK209.out⟩, ⟨by repeat (first | (with_reducible first | exact HB.out | apply below_alloc | apply pw_below_drewN | apply below_drew1 | refine below_set ?_ GE207.out | refine below_set ?_ GE208.out | refine below_set ?_ GE209.out) | exact HB.out)⟩⟩
            case round =>
              clear H'
              try clear c1
              try clear p2
              try clear q2
              try clear hx2
              try clear c3
              try clear c6
              try clear c7
              try clear c11
              try clear c11b0
              try clear c12
              try clear c12b0
              try clear c13
              try clear c13b0
              try clear hcz8_0
              try clear hcz8_1
              try clear hfz8_0
              try clear hfz8_1
              try clear hx213_0
              try clear p2
              try clear p213
              try clear q213
              obtain ⟨x7_2, rfl, HA, HK2, HO_4, HO_13, HO_210000, HO_210001, BK207, BK208, BK209, HB⟩ := hrel
              cases gk with
              | zero => exact absurd HA.out (by simp [comfitref08_Quotient.l1])
              | succ k2 =>
                have H := HA.out
                clear HA
                simp only [comfitref08_Quotient.l1] at H
                by_cases c14 : 0 ≤ x7_2
                · rw [if_pos c14] at H
                  have c14b0 := eq_true c14
                  have c14b1 : decide (0 ≤ x7_2) = true := decide_eq_true c14
                  clear c14
                  obtain ⟨ji15, hji15⟩ : ∃ j_ : Int, (shr .i64 (rd t210 x15_1) x7_2) = j_ := ⟨_, rfl⟩
                  replace H : (if (Go.bits .and .i64 (ji15) 1) = 0 then (comfitref08_Quotient.l1 k2 t210 (rd t210 x15_1) (wrap64 (x7_2 + 1)) t210 (t210.length : Int) x15_1 l0_0 l0_1 x210000_1 x210001_1) else (comfitref08_Quotient.l2 k2 t210 x7_2 0 t210 (t210.length : Int) x15_1 t210 (t210.length : Int) 0 l0_0 l0_1 x210000_1 x210001_1)) = some (r1, r2) := by first | (rw [hji15] at H; exact H) | (simp only [hji15] at H ⊢; exact H)
                  have hji15_ : ((rd t210 x15_1) / 2 ^ min x7_2.toNat 64) = ji15 := hji15
                  have hji15z : x7_2 ≤ 64 → ((rd t210 x15_1) / 2 ^ x7_2.toNat) = ji15 := shr_small hji15
                  by_cases c16 : (Go.bits .and .i64 (ji15) 1) = 0
                  · rw [if_pos c16] at H
                    have c16b0 : ((Go.bits .and .i64 (ji15) 1) == 0) = true := beq_iff_eq.mpr c16
                    have c16b1 : ((Go.bits .and .i64 (ji15) 1) != 0) = false := bne_eq_false_iff_eq.mpr c16
                    clear c16
                    have H' := Aside0.mk H
                    clear H
                    go_wp2
                    go_roundg k2
                    case measure => have := HK1.out; have := HK2.out; omega
                    case rel => exact ⟨(wrap64 (x7_2 + 1)), (by first | rfl | (simp; done) | (simp [*]; done)), H', ⟨by have := HK1.out; have := HK2.out; omega⟩, ⟨by (with_reducible repeat (first | apply Kd.R_alloc | apply Kd.R_drewN | apply Kd.R_drew)); exact HO_4.out⟩, ⟨by (with_reducible repeat (first | apply Kd.R_alloc | apply Kd.R_drewN | apply Kd.R_drew)); exact HO_13.out⟩, ⟨by (with_reducible repeat (first | apply Kd.R_alloc | apply Kd.R_drewN | apply Kd.R_drew)); exact HO_210000.out⟩, ⟨by (with_reducible repeat (first | apply Kd.R_alloc | apply Kd.R_drewN | apply Kd.R_drew)); exact HO_210001.out⟩, ⟨by (with_reducible repeat (first | refine blk_drewN ?_ _ | refine blk_drew ?_ | refine blk_alloc ?_ _)); exact BK207.out⟩, ⟨by (with_reducible repeat (first | refine blk_drewN ?_ _ | refine blk_drew ?_ | refine blk_alloc ?_ _)); exact BK208.out⟩, ⟨by (with_reducible repeat (first | refine blk_drewN ?_ _ | refine blk_drew ?_ | refine blk_alloc ?_ _)); exact BK209.out⟩, ⟨by repeat (first | (with_reducible first | exact HB.out | apply below_alloc | apply pw_below_drewN | apply below_drew1 | refine below_set ?_ GE207.out | refine below_set ?_ GE208.out | refine below_set ?_ GE209.out) | exact HB.out)⟩⟩
                  · rw [if_neg c16] at H
                    have c16b0 : ((Go.bits .and .i64 (ji15) 1) == 0) = false := beq_eq_false_iff_ne.mpr c16
                    have c16b1 : ((Go.bits .and .i64 (ji15) 1) != 0) = true := bne_iff_ne.mpr c16
                    have H' := Aside0.mk H
                    clear H
                    go_wp2
                    go_loopg [8, 28] k2 (fun kq v8 v28 w' => ∃ (x8_3 : Int) (x28_3 : Int), v8 = .int .i64 x8_3 ∧ v28 = .int .i64 x28_3 ∧ Aside0 (comfitref08_Quotient.l2 kq t210 x7_2 x8_3 t210 (t210.length : Int) x15_1 t210 (t210.length : Int) x28_3 l0_0 l0_1 x210000_1 x210001_1 = some (r1, r2)) ∧ Aside0 (kq ≤ k2) ∧ Aside0 (Kd.R (Kd.int .i64) 3 w' w.heap.size (fun k_ => some k_ ≠ (u210000 : Value).ownBlock ∧ some k_ ≠ (u210001 : Value).ownBlock) (.slice (some ad213) t210.length co10) t210) ∧ Aside0 (Kd.R (Kd.int .i64) 3 w' w.heap.size (fun k_ => some k_ ≠ (u210000 : Value).ownBlock ∧ some k_ ≠ (u210001 : Value).ownBlock) (.slice (some ad213) t210.length co10) t210) ∧ Aside0 (Kd.R (Kd.int .i64) 3 w' w.heap.size (fun k_ => some k_ ≠ (u210000 : Value).ownBlock ∧ some k_ ≠ (u210001 : Value).ownBlock) (.slice (some ad213) t210.length co10) t210) ∧ Aside0 (Kd.R (Kd.int .i64) 3 w' w.heap.size (fun k_ => some k_ ≠ ((.slice (some ad213) t210.length co10) : Value).ownBlock ∧ some k_ ≠ ((.slice (some ad213) t210.length co10) : Value).ownBlock ∧ some k_ ≠ ((.slice (some ad213) t210.length co10) : Value).ownBlock ∧ some k_ ≠ (u210001 : Value).ownBlock) u210000 x210000_1) ∧ Aside0 (Kd.R (Kd.int .i64) 3 w' w.heap.size (fun k_ => some k_ ≠ ((.slice (some ad213) t210.length co10) : Value).ownBlock ∧ some k_ ≠ ((.slice (some ad213) t210.length co10) : Value).ownBlock ∧ some k_ ≠ ((.slice (some ad213) t210.length co10) : Value).ownBlock ∧ some k_ ≠ (u210000 : Value).ownBlock) u210001 x210001_1) ∧ Aside0 (w'.heap[gb207]? = some (.cells #[(.slice A0_0 l0_0.length c0_0), (.slice A0_1 l0_1.length c0_1)] 24 (0, 0))) ∧ Aside0 (w'.heap[gb208]? = some (.cells #[(.slice none 0 0), (.slice none 0 0)] 24 (0, 0))) ∧ Aside0 (w'.heap[gb209]? = some (.cells #[u210000, u210001] 24 (0, 0))) ∧ Aside0 (Below w.heap.size w w'))
                    case atStart => exact ⟨(0), (0), (by first | rfl | (simp; done) | (simp [*]; done)), (by first | rfl | (simp; done) | (simp [*]; done)), H', ⟨Nat.le_refl _⟩, ⟨by (with_reducible repeat (first | apply Kd.R_alloc | apply Kd.R_drewN | apply Kd.R_drew)); exact HO_4.out⟩, ⟨by (with_reducible repeat (first | apply Kd.R_alloc | apply Kd.R_drewN | apply Kd.R_drew)); exact HO_13.out⟩, ⟨by (with_reducible repeat (first | apply Kd.R_alloc | apply Kd.R_drewN | apply Kd.R_drew)); exact HO_4.out⟩, ⟨by (with_reducible repeat (first | apply Kd.R_alloc | apply Kd.R_drewN | apply Kd.R_drew)); exact Kd.R_mono HO_210000.out (fun _ hk => ⟨hk.1, ⟨hk.2.1, ⟨hk.1, hk.2.2⟩⟩⟩)⟩, ⟨by (with_reducible repeat (first | apply Kd.R_alloc | apply Kd.R_drewN | apply Kd.R_drew)); exact Kd.R_mono HO_210001.out (fun _ hk => ⟨hk.1, ⟨hk.2.1, ⟨hk.1, hk.2.2⟩⟩⟩)⟩, ⟨by (with_reducible repeat (first | refine blk_drewN ?_ _ | refine blk_drew ?_ | refine blk_alloc ?_ _)); exact BK207.out⟩, ⟨by (with_reducible repeat (first | refine blk_drewN ?_ _ | refine blk_drew ?_ | refine blk_alloc ?_ _)); exact BK208.out⟩, ⟨by (with_reducible repeat (first | refine blk_drewN ?_ _ | refine blk_drew ?_ | refine blk_alloc ?_ _)); exact BK209.out⟩, ⟨by repeat (first | (with_reducible first | exact HB.out | apply below_alloc | apply pw_below_drewN | apply below_drew1 | refine below_set ?_ GE207.out | refine below_set ?_ GE208.out | refine below_set ?_ GE209.out) | exact HB.out)⟩⟩
                    case round =>
                      clear H'
                      try clear c1
                      try clear p2
                      try clear q2
                      try clear hx2
                      try clear c3
                      try clear c6
                      try clear p6
                      try clear c7
                      try clear c11
                      try clear c11b0
                      try clear c12
                      try clear c12b0
                      try clear c13
                      try clear c13b0
                      try clear c14
                      try clear c14b0
                      try clear c14b1
                      try clear c16
                      try clear c16b0
                      try clear c16b1
                      try clear hcz8_0
                      try clear hcz8_1
                      try clear hfz8_0
                      try clear hfz8_1
                      try clear hx213_0
                      try clear p2
                      try clear p213
                      try clear q2
                      try clear q213
                      obtain ⟨x8_3, x28_3, rfl, rfl, HA, HK3, HO_4, HO_13, HO_26, HO_210000, HO_210001, BK207, BK208, BK209, HB⟩ := hrel
                      cases gk with
                      | zero => exact absurd HA.out (by simp [comfitref08_Quotient.l2])
                      | succ k3 =>
                        have H := HA.out
                        clear HA
                        simp only [comfitref08_Quotient.l2] at H
                        by_cases c17 : x28_3 < (t210.length : Int)
                        · rw [if_pos c17] at H
                          have c17b0 : decide (x28_3 < (t210.length : Int)) = true := decide_eq_true c17
                          clear c17
                          by_cases c18 : 0 ≤ x28_3
                          · rw [if_pos c18] at H
                            have c18b0 : decide (0 ≤ x28_3) = true := decide_eq_true c18
                            clear c18
                            by_cases c19 : x28_3 < (t210.length : Int)
                            · rw [if_pos c19] at H
                              have c19b0 : decide (x28_3 < (t210.length : Int)) = true := decide_eq_true c19
                              clear c19
                              by_cases c20 : 0 ≤ x7_2
                              · rw [if_pos c20] at H
                                have c20b0 : decide (0 ≤ x7_2) = true := decide_eq_true c20
                                clear c20
                                by_cases c21 : x7_2 < (l0_0.length : Int)
                                · rw [if_pos c21] at H
                                  have c21b0 : decide (x7_2 < (l0_0.length : Int)) = true := decide_eq_true c21
                                  clear c21
                                  by_cases c22 : (Go.bits .and .i64 (rd l0_0 x7_2) (rd t210 x28_3)) = 0
                                  · rw [if_pos c22] at H
                                    have c22b0 : ((Go.bits .and .i64 (rd l0_0 x7_2) (rd t210 x28_3)) == 0) = true := beq_iff_eq.mpr c22
                                    have c22b1 : ((Go.bits .and .i64 (rd l0_0 x7_2) (rd t210 x28_3)) != 0) = false := bne_eq_false_iff_eq.mpr c22
                                    clear c22
                                    have H' := Aside0.mk H
                                    clear H
                                    have p214 : 0 ≤ (x28_3 : Int) := of_decide_eq_true (by first | (with_reducible assumption) | assumption)
                                    have q214 : x28_3 < (t210.length : Int) := of_decide_eq_true (by first | (with_reducible assumption) | assumption)
                                    obtain ⟨ad214, e214, hx214_0⟩ := Kd.at_int (Kd.R_reads' HO_26.out).2.2 x28_3 p214 q214
                                    obtain rfl : ad213 = ad214 := (by injection e214)
                                    replace p214 := eq_true p214
                                    replace q214 := eq_true q214
                                    have hnb23 := NB207_208.out
                                    have hnc23 := NB208_207.out
                                    have hnb24 := NB207_209.out
                                    have hnc24 := NB209_207.out
                                    have hcz25_0 : wr.cell? ⟨gb207, 0, none⟩ = some (.slice A0_0 l0_0.length c0_0) := (blk_cell BK207.out 0).trans rfl
                                    have hcz25_1 : wr.cell? ⟨gb207, 1, none⟩ = some (.slice A0_1 l0_1.length c0_1) := (blk_cell BK207.out 1).trans rfl
                                    have hfz25_0 := blk_frozen BK207.out 0
                                    have hfz25_1 := blk_frozen BK207.out 1
                                    have p215 : 0 ≤ (x7_2 : Int) := of_decide_eq_true (by first | (with_reducible assumption) | assumption)
                                    have q215 : x7_2 < (l0_0.length : Int) := of_decide_eq_true (by first | (with_reducible assumption) | assumption)
                                    obtain ⟨ad215, e215, hx215_0⟩ := Kd.at_int HR0_0.out x7_2 p215 q215
                                    cases e215
                                    replace hx215_0 := (HB.out.cell (World.block_lt_of_cell? w _ hx215_0)).trans hx215_0
                                    replace p215 := eq_true p215
                                    replace q215 := eq_true q215
                                    go_wp2
                                    go_roundg k3
                                    case measure => have := HK1.out; have := HK2.out; have := HK3.out; omega
                                    case rel => exact ⟨(x8_3), (wrap64 (x28_3 + 1)), (by first | rfl | (simp; done) | (simp [*]; done)), (by first | rfl | (simp; done) | (simp [*]; done)), H', ⟨by have := HK1.out; have := HK2.out; have := HK3.out; omega⟩, ⟨by (with_reducible repeat (first | apply Kd.R_alloc | apply Kd.R_drewN | apply Kd.R_drew)); exact HO_4.out⟩, ⟨by (with_reducible repeat (first | apply Kd.R_alloc | apply Kd.R_drewN | apply Kd.R_drew)); exact HO_13.out⟩, ⟨by (with_reducible repeat (first | apply Kd.R_alloc | apply Kd.R_drewN | apply Kd.R_drew)); exact HO_26.out⟩, ⟨by (with_reducible repeat (first | apply Kd.R_alloc | apply Kd.R_drewN | apply Kd.R_drew)); exact HO_210000.out⟩, ⟨by (with_reducible repeat (first | apply Kd.R_alloc | apply Kd.R_drewN | apply Kd.R_drew)); exact HO_210001.out⟩, ⟨by (with_reducible repeat (first | refine blk_drewN ?_ _ | refine blk_drew ?_ | refine blk_alloc ?_ _)); exact BK207.out⟩, ⟨by (with_reducible repeat (first | refine blk_drewN ?_ _ | refine blk_drew ?_ | refine blk_alloc ?_ _)); exact BK208.out⟩, ⟨by (with_reducible repeat (first | refine blk_drewN ?_ _ | refine blk_drew ?_ | refine blk_alloc ?_ _)); exact BK209.out⟩, ⟨by repeat (first | (with_reducible first | exact HB.out | apply below_alloc | apply pw_below_drewN | apply below_drew1 | refine below_set ?_ GE207.out | refine below_set ?_ GE208.out | refine below_set ?_ GE209.out) | exact HB.out)⟩⟩
                                  · rw [if_neg c22] at H
                                    have c22b0 : ((Go.bits .and .i64 (rd l0_0 x7_2) (rd t210 x28_3)) == 0) = false := beq_eq_false_iff_ne.mpr c22
                                    have c22b1 : ((Go.bits .and .i64 (rd l0_0 x7_2) (rd t210 x28_3)) != 0) = true := bne_iff_ne.mpr c22
                                    have c26b0 := eq_true (of_decide_eq_true (by first | (with_reducible assumption) | assumption) : 0 ≤ x28_3)
                                    obtain ⟨ji27, hji27⟩ : ∃ j_ : Int, (shl .i64 1 x28_3) = j_ := ⟨_, rfl⟩
                                    replace H : (comfitref08_Quotient.l2 k3 t210 x7_2 (Go.bits .or .i64 x8_3 (ji27)) t210 (t210.length : Int) x15_1 t210 (t210.length : Int) (wrap64 (x28_3 + 1)) l0_0 l0_1 x210000_1 x210001_1) = some (r1, r2) := by first | (rw [hji27] at H; exact H) | (simp only [hji27] at H ⊢; exact H)
                                    have hji27_ : (IntKind.i64.wrap (1 * 2 ^ min x28_3.toNat 64)) = ji27 := hji27
                                    have hji27z : x28_3 ≤ 64 → (IntKind.i64.wrap (1 * 2 ^ x28_3.toNat)) = ji27 := shl_small hji27
                                    have hji27u : (IntKind.i64.wrap (2 ^ min x28_3.toNat 64)) = ji27 := by have h_ := hji27_; rw [Int.one_mul] at h_; exact h_
                                    have hji27v : x28_3 ≤ 64 → (IntKind.i64.wrap (2 ^ x28_3.toNat)) = ji27 := fun hle_ => by have h_ := hji27z hle_; rw [Int.one_mul] at h_; exact h_
                                    have hji27y : (wrap64 (1 * 2 ^ min x28_3.toNat 64)) = ji27 := (i64_w _).symm.trans hji27_
                                    have hji27x : x28_3 ≤ 64 → (wrap64 (1 * 2 ^ x28_3.toNat)) = ji27 := fun h_ => (i64_w _).symm.trans (hji27z h_)
                                    have H' := Aside0.mk H
                                    clear H
                                    have p214 : 0 ≤ (x28_3 : Int) := of_decide_eq_true (by first | (with_reducible assumption) | assumption)
                                    have q214 : x28_3 < (t210.length : Int) := of_decide_eq_true (by first | (with_reducible assumption) | assumption)
                                    obtain ⟨ad214, e214, hx214_0⟩ := Kd.at_int (Kd.R_reads' HO_26.out).2.2 x28_3 p214 q214
                                    obtain rfl : ad213 = ad214 := (by injection e214)
                                    replace p214 := eq_true p214
                                    replace q214 := eq_true q214
                                    have hnb28 := NB207_208.out
                                    have hnc28 := NB208_207.out
                                    have hnb29 := NB207_209.out
                                    have hnc29 := NB209_207.out
                                    have hcz30_0 : wr.cell? ⟨gb207, 0, none⟩ = some (.slice A0_0 l0_0.length c0_0) := (blk_cell BK207.out 0).trans rfl
                                    have hcz30_1 : wr.cell? ⟨gb207, 1, none⟩ = some (.slice A0_1 l0_1.length c0_1) := (blk_cell BK207.out 1).trans rfl
                                    have hfz30_0 := blk_frozen BK207.out 0
                                    have hfz30_1 := blk_frozen BK207.out 1
                                    have p215 : 0 ≤ (x7_2 : Int) := of_decide_eq_true (by first | (with_reducible assumption) | assumption)
                                    have q215 : x7_2 < (l0_0.length : Int) := of_decide_eq_true (by first | (with_reducible assumption) | assumption)
                                    obtain ⟨ad215, e215, hx215_0⟩ := Kd.at_int HR0_0.out x7_2 p215 q215
                                    cases e215
                                    replace hx215_0 := (HB.out.cell (World.block_lt_of_cell? w _ hx215_0)).trans hx215_0
                                    replace p215 := eq_true p215
                                    replace q215 := eq_true q215
                                    go_wp2
                                    go_roundg k3
                                    case measure => have := HK1.out; have := HK2.out; have := HK3.out; omega
                                    case rel => exact ⟨(Go.bits .or .i64 x8_3 (ji27)), (wrap64 (x28_3 + 1)), (by first | rfl | (simp; done) | (simp only [← hji27] <;> (first | rfl | simp)) | (simp [*]; done)), (by first | rfl | (simp; done) | (simp [*]; done)), H', ⟨by have := HK1.out; have := HK2.out; have := HK3.out; omega⟩, ⟨by (with_reducible repeat (first | apply Kd.R_alloc | apply Kd.R_drewN | apply Kd.R_drew)); exact HO_4.out⟩, ⟨by (with_reducible repeat (first | apply Kd.R_alloc | apply Kd.R_drewN | apply Kd.R_drew)); exact HO_13.out⟩, ⟨by (with_reducible repeat (first | apply Kd.R_alloc | apply Kd.R_drewN | apply Kd.R_drew)); exact HO_26.out⟩, ⟨by (with_reducible repeat (first | apply Kd.R_alloc | apply Kd.R_drewN | apply Kd.R_drew)); exact HO_210000.out⟩, ⟨by (with_reducible repeat (first | apply Kd.R_alloc | apply Kd.R_drewN | apply Kd.R_drew)); exact HO_210001.out⟩, ⟨by (with_reducible repeat (first | refine blk_drewN ?_ _ | refine blk_drew ?_ | refine blk_alloc ?_ _)); exact BK207.out⟩, ⟨by (with_reducible repeat (first | refine blk_drewN ?_ _ | refine blk_drew ?_ | refine blk_alloc ?_ _)); exact BK208.out⟩, ⟨by (with_reducible repeat (first | refine blk_drewN ?_ _ | refine blk_drew ?_ | refine blk_alloc ?_ _)); exact BK209.out⟩, ⟨by repeat (first | (with_reducible first | exact HB.out | apply below_alloc | apply pw_below_drewN | apply below_drew1 | refine below_set ?_ GE207.out | refine below_set ?_ GE208.out | refine below_set ?_ GE209.out) | exact HB.out)⟩⟩
                                · rw [if_neg c21] at H
                                  exact absurd H (by simp)
                              · rw [if_neg c20] at H
                                exact absurd H (by simp)
                            · rw [if_neg c19] at H
                              exact absurd H (by simp)
                          · rw [if_neg c18] at H
                            exact absurd H (by simp)
                        · rw [if_neg c17] at H
                          have c17b0 : decide (x28_3 < (t210.length : Int)) = false := decide_eq_false c17
                          clear c17
                          by_cases c31 : x210000_1.length < 17592186044416
                          · rw [if_pos c31] at H
                            have LMc31 := Aside0.mk c31
                            clear c31
                            obtain ⟨y216, hy216⟩ : ∃ y_ : List Int, y_ = (x210000_1 ++ [x8_3]) := ⟨_, rfl⟩
                            replace H : (if 0 ≤ x7_2 then (if x7_2 < (l0_1.length : Int) then (if x210001_1.length < 17592186044416 then (comfitref08_Quotient.l0 k3 t210 t210 (t210.length : Int) (wrap64 (x15_1 + 1)) l0_0 l0_1 y216 (x210001_1 ++ [rd l0_1 x7_2])) else (none)) else (none)) else (none)) = some (r1, r2) := by first | (rw [hy216]; with_reducible exact H) | (have H2_ := (Option.bind_some _ _).symm.trans H; rw [hy216]; with_reducible exact H2_) | (have H2_ := (Option.bind_some _ _).symm.trans H; with_reducible exact H2_) | with_reducible exact H | (rw [hy216]; exact H) | exact H
                            have Ny216 := Aside0.mk hy216
                            clear hy216
                            by_cases c32 : 0 ≤ x7_2
                            · rw [if_pos c32] at H
                              have c32b0 : decide (0 ≤ x7_2) = true := decide_eq_true c32
                              clear c32
                              by_cases c33 : x7_2 < (l0_1.length : Int)
                              · rw [if_pos c33] at H
                                have c33b0 : decide (x7_2 < (l0_1.length : Int)) = true := decide_eq_true c33
                                clear c33
                                by_cases c34 : x210001_1.length < 17592186044416
                                · rw [if_pos c34] at H
                                  have LMc34 := Aside0.mk c34
                                  clear c34
                                  obtain ⟨y220, hy220⟩ : ∃ y_ : List Int, y_ = (x210001_1 ++ [rd l0_1 x7_2]) := ⟨_, rfl⟩
                                  replace H : (comfitref08_Quotient.l0 k3 t210 t210 (t210.length : Int) (wrap64 (x15_1 + 1)) l0_0 l0_1 y216 y220) = some (r1, r2) := by first | (rw [hy220]; with_reducible exact H) | (have H2_ := (Option.bind_some _ _).symm.trans H; rw [hy220]; with_reducible exact H2_) | (have H2_ := (Option.bind_some _ _).symm.trans H; with_reducible exact H2_) | with_reducible exact H | (rw [hy220]; exact H) | exact H
                                  have Ny220 := Aside0.mk hy220
                                  clear hy220
                                  have H' := Aside0.mk H
                                  clear H
                                  have hnb35 := NB209_207.out
                                  have hnc35 := NB207_209.out
                                  have hnb36 := NB209_208.out
                                  have hnc36 := NB208_209.out
                                  have hcz37_0 : wr.cell? ⟨gb209, 0, none⟩ = some (u210000) := (blk_cell BK209.out 0).trans rfl
                                  have hcz37_1 : wr.cell? ⟨gb209, 1, none⟩ = some (u210001) := (blk_cell BK209.out 1).trans rfl
                                  have hfz37_0 := blk_frozen BK209.out 0
                                  have hfz37_1 := blk_frozen BK209.out 1
                                  try go_wp2_with (first | ((with_reducible refine gate_builtin (b := .append) (xs := #[.tmp 47, .tmp 49]) rfl ?_); at_builtin; refine Kd.R_append (Kd.int .i64) (w0 := w) w.heap.size rfl (.tmp 47) (.tmp 49) 22 3 (.int .i64 0) 8 rfl Try.underlying22 info3 rfl (by decide) (by omega) u210000 x210000_1 x8_3 [.int .i64 x8_3] (fun k_ => some k_ ≠ (.slice (some ad213) t210.length co10 : Value).ownBlock ∧ some k_ ≠ (.slice (some ad213) t210.length co10 : Value).ownBlock ∧ some k_ ≠ (.slice (some ad213) t210.length co10 : Value).ownBlock ∧ some k_ ≠ (u210001 : Value).ownBlock) (fun _ => False) rfl rfl ?aP (fun _ hk => hk.elim) ?aF ?aO ?aB ?aS ?aL ?_; (case aP => exact rfl); (case aB => exact (by repeat (first | (with_reducible first | exact HB.out | apply below_alloc | apply pw_below_drewN | apply below_drew1 | refine below_set ?_ GE207.out | refine below_set ?_ GE208.out | refine below_set ?_ GE209.out) | exact HB.out))); (case aF => exact (fun k_ hk => ⟨Kd.fresh' (Kd.R_lt (by (with_reducible repeat (first | apply Kd.R_alloc | apply Kd.R_drewN | apply Kd.R_drew)); exact HO_4.out)) k_ hk, Kd.fresh' (Kd.R_lt (by (with_reducible repeat (first | apply Kd.R_alloc | apply Kd.R_drewN | apply Kd.R_drew)); exact HO_13.out)) k_ hk, Kd.fresh' (Kd.R_lt (by (with_reducible repeat (first | apply Kd.R_alloc | apply Kd.R_drewN | apply Kd.R_drew)); exact HO_26.out)) k_ hk, Kd.fresh' (Kd.R_lt (by (with_reducible repeat (first | apply Kd.R_alloc | apply Kd.R_drewN | apply Kd.R_drew)); exact HO_210001.out)) k_ hk⟩)); (case aO => exact (by (with_reducible repeat (first | apply Kd.R_alloc | apply Kd.R_drewN | apply Kd.R_drew)); exact HO_210000.out)); (case aS => exact (below_size (by repeat (first | (with_reducible first | exact HB.out | apply below_alloc | apply pw_below_drewN | apply below_drew1 | refine below_set ?_ GE207.out | refine below_set ?_ GE208.out | refine below_set ?_ GE209.out) | exact HB.out)))); (case aL => have := LMc31.out; omega); intro v217 w38 ho hb hg hat; rw [← Ny216.out] at ho; have n0_ := Aside0.mk (Kd.R_after (ok := (fun k_ => some k_ ≠ (u210001 : Value).ownBlock)) (by (with_reducible repeat (first | apply Kd.R_alloc | apply Kd.R_drewN | apply Kd.R_drew)); exact Kd.R_mono HO_4.out (fun _ hk => ⟨hk.2, hk.1⟩)) hg hat); have n1_ := Aside0.mk (Kd.R_after (ok := (fun k_ => some k_ ≠ (u210001 : Value).ownBlock)) (by (with_reducible repeat (first | apply Kd.R_alloc | apply Kd.R_drewN | apply Kd.R_drew)); exact Kd.R_mono HO_13.out (fun _ hk => ⟨hk.2, hk.1⟩)) hg hat); have n2_ := Aside0.mk (Kd.R_after (ok := (fun k_ => some k_ ≠ (u210001 : Value).ownBlock)) (by (with_reducible repeat (first | apply Kd.R_alloc | apply Kd.R_drewN | apply Kd.R_drew)); exact Kd.R_mono HO_26.out (fun _ hk => ⟨hk.2, hk.1⟩)) hg hat); have n3_ := Aside0.mk (Kd.R_after (ok := (fun k_ => some k_ ≠ (.slice (some ad213) t210.length co10 : Value).ownBlock ∧ some k_ ≠ (.slice (some ad213) t210.length co10 : Value).ownBlock ∧ some k_ ≠ (.slice (some ad213) t210.length co10 : Value).ownBlock)) (by (with_reducible repeat (first | apply Kd.R_alloc | apply Kd.R_drewN | apply Kd.R_drew)); exact Kd.R_mono HO_210001.out (fun _ hk => ⟨⟨hk.1, ⟨hk.2.1, hk.2.2.1⟩⟩, hk.2.2.2⟩)) hg hat); have n4_ := Aside0.mk (blk_grown (g := gb207) (o := .cells #[.slice A0_0 l0_0.length c0_0, .slice A0_1 l0_1.length c0_1] 24 (0, 0)) (by (with_reducible repeat (first | refine blk_drewN ?_ _ | refine blk_drew ?_ | refine blk_alloc ?_ _)); exact BK207.out) hg (Kd.R_ne HO_210000.out BK207.out (by decide))); have n5_ := Aside0.mk (blk_grown (g := gb208) (o := .cells #[.slice none 0 0, .slice none 0 0] 24 (0, 0)) (by (with_reducible repeat (first | refine blk_drewN ?_ _ | refine blk_drew ?_ | refine blk_alloc ?_ _)); exact BK208.out) hg (Kd.R_ne HO_210000.out BK208.out (by decide))); have n6_ := Aside0.mk (blk_grown (g := gb209) (o := .cells #[u210000, u210001] 24 (0, 0)) (by (with_reducible repeat (first | refine blk_drewN ?_ _ | refine blk_drew ?_ | refine blk_alloc ?_ _)); exact BK209.out) hg (Kd.R_ne HO_210000.out BK209.out (by decide))); have n7_ := Aside0.mk (hb); have n8_ := Aside0.mk (ho); clear HO_4; clear HO_13; clear HO_26; clear HO_210001; clear BK207; clear BK208; clear BK209; clear HB; clear HO_210000; have HO_4 := n0_; have HO_13 := n1_; have HO_26 := n2_; have HO_210001 := n3_; have BK207 := n4_; have BK208 := n5_; have BK209 := n6_; have HB := n7_; have HO218 := n8_; clear n0_ n1_ n2_ n3_ n4_ n5_ n6_ n7_ n8_; clear ho hb hg hat; obtain ⟨Ao39, co39, eo39⟩ := Kd.R_slice HO218.out; subst eo39; have hcz40_0 : w38.cell? ⟨gb209, 0, none⟩ = some (u210000) := (blk_cell BK209.out 0).trans rfl; have hcz40_1 : w38.cell? ⟨gb209, 1, none⟩ = some (u210001) := (blk_cell BK209.out 1).trans rfl; have hfz40_0 := blk_frozen BK209.out 0; have hfz40_1 := blk_frozen BK209.out 1))
                                  have n0_ : Aside0 (Kd.R (Kd.int .i64) 3 (w38.setCell ⟨gb209, 0, none⟩ (.slice Ao39 y216.length co39)) w.heap.size (fun k_ => some k_ ≠ (u210001 : Value).ownBlock ∧ some k_ ≠ (.slice Ao39 y216.length co39 : Value).ownBlock) (.slice (some ad213) t210.length co10) t210) := ⟨by (with_reducible repeat (first | apply Kd.R_alloc | apply Kd.R_drewN | apply Kd.R_drew)); exact Kd.R_mono (Kd.R_far (p := ⟨gb209, 0, none⟩) (Kd.R_types HO_4.out BK209.out (by decide)) (fun _ hk => hk.2) (.slice Ao39 y216.length co39)) (fun _ hk => ⟨hk.1.1, hk.1.2⟩)⟩
                                  have n1_ : Aside0 (Kd.R (Kd.int .i64) 3 (w38.setCell ⟨gb209, 0, none⟩ (.slice Ao39 y216.length co39)) w.heap.size (fun k_ => some k_ ≠ (u210001 : Value).ownBlock ∧ some k_ ≠ (.slice Ao39 y216.length co39 : Value).ownBlock) (.slice (some ad213) t210.length co10) t210) := ⟨by (with_reducible repeat (first | apply Kd.R_alloc | apply Kd.R_drewN | apply Kd.R_drew)); exact Kd.R_mono (Kd.R_far (p := ⟨gb209, 0, none⟩) (Kd.R_types HO_13.out BK209.out (by decide)) (fun _ hk => hk.2) (.slice Ao39 y216.length co39)) (fun _ hk => ⟨hk.1.1, hk.1.2⟩)⟩
                                  have n2_ : Aside0 (Kd.R (Kd.int .i64) 3 (w38.setCell ⟨gb209, 0, none⟩ (.slice Ao39 y216.length co39)) w.heap.size (fun k_ => some k_ ≠ (u210001 : Value).ownBlock ∧ some k_ ≠ (.slice Ao39 y216.length co39 : Value).ownBlock) (.slice (some ad213) t210.length co10) t210) := ⟨by (with_reducible repeat (first | apply Kd.R_alloc | apply Kd.R_drewN | apply Kd.R_drew)); exact Kd.R_mono (Kd.R_far (p := ⟨gb209, 0, none⟩) (Kd.R_types HO_26.out BK209.out (by decide)) (fun _ hk => hk.2) (.slice Ao39 y216.length co39)) (fun _ hk => ⟨hk.1.1, hk.1.2⟩)⟩
                                  have n3_ : Aside0 (Kd.R (Kd.int .i64) 3 (w38.setCell ⟨gb209, 0, none⟩ (.slice Ao39 y216.length co39)) w.heap.size (fun k_ => some k_ ≠ (.slice (some ad213) t210.length co10 : Value).ownBlock ∧ some k_ ≠ (.slice (some ad213) t210.length co10 : Value).ownBlock ∧ some k_ ≠ (.slice (some ad213) t210.length co10 : Value).ownBlock ∧ some k_ ≠ (.slice Ao39 y216.length co39 : Value).ownBlock) u210001 x210001_1) := ⟨by (with_reducible repeat (first | apply Kd.R_alloc | apply Kd.R_drewN | apply Kd.R_drew)); exact Kd.R_mono (Kd.R_far (p := ⟨gb209, 0, none⟩) (Kd.R_types HO_210001.out BK209.out (by decide)) (fun _ hk => hk.2) (.slice Ao39 y216.length co39)) (fun _ hk => ⟨hk.1.1.1, ⟨hk.1.1.2.1, ⟨hk.1.1.2.2, hk.1.2⟩⟩⟩)⟩
                                  have n4_ : Aside0 (Kd.R (Kd.int .i64) 3 (w38.setCell ⟨gb209, 0, none⟩ (.slice Ao39 y216.length co39)) w.heap.size (fun k_ => some k_ ≠ (.slice (some ad213) t210.length co10 : Value).ownBlock ∧ some k_ ≠ (.slice (some ad213) t210.length co10 : Value).ownBlock ∧ some k_ ≠ (.slice (some ad213) t210.length co10 : Value).ownBlock ∧ some k_ ≠ (u210001 : Value).ownBlock) (.slice Ao39 y216.length co39) y216) := ⟨by (with_reducible repeat (first | apply Kd.R_alloc | apply Kd.R_drewN | apply Kd.R_drew)); exact Kd.R_mono (Kd.R_far (p := ⟨gb209, 0, none⟩) (Kd.R_types HO218.out BK209.out (by decide)) (fun _ hk => hk.2) (.slice Ao39 y216.length co39)) (fun _ hk => ⟨hk.1.1, ⟨hk.1.2.1, ⟨hk.1.2.2.1, hk.1.2.2.2⟩⟩⟩)⟩
                                  have n5_ : Aside0 ((w38.setCell ⟨gb209, 0, none⟩ (.slice Ao39 y216.length co39)).heap[gb207]? = some (.cells #[.slice A0_0 l0_0.length c0_0, .slice A0_1 l0_1.length c0_1] 24 (0, 0))) := ⟨by (with_reducible repeat (first | refine blk_drewN ?_ _ | refine blk_drew ?_ | refine blk_alloc ?_ _)); refine blk_far ?_ NB207_209.out _; (with_reducible repeat (first | refine blk_drewN ?_ _ | refine blk_drew ?_ | refine blk_alloc ?_ _)); exact BK207.out⟩
                                  have n6_ : Aside0 ((w38.setCell ⟨gb209, 0, none⟩ (.slice Ao39 y216.length co39)).heap[gb208]? = some (.cells #[.slice none 0 0, .slice none 0 0] 24 (0, 0))) := ⟨by (with_reducible repeat (first | refine blk_drewN ?_ _ | refine blk_drew ?_ | refine blk_alloc ?_ _)); refine blk_far ?_ NB208_209.out _; (with_reducible repeat (first | refine blk_drewN ?_ _ | refine blk_drew ?_ | refine blk_alloc ?_ _)); exact BK208.out⟩
                                  have n7_ : Aside0 ((w38.setCell ⟨gb209, 0, none⟩ (.slice Ao39 y216.length co39)).heap[gb209]? = some (.cells #[.slice Ao39 y216.length co39, u210001] 24 (0, 0))) := ⟨by (with_reducible repeat (first | refine blk_drewN ?_ _ | refine blk_drew ?_ | refine blk_alloc ?_ _)); refine blk_put (cs := #[u210000, u210001]) ?_ 0 _ rfl; (with_reducible repeat (first | refine blk_drewN ?_ _ | refine blk_drew ?_ | refine blk_alloc ?_ _)); exact BK209.out⟩
                                  have n8_ : Aside0 (Below w.heap.size w (w38.setCell ⟨gb209, 0, none⟩ (.slice Ao39 y216.length co39))) := ⟨by repeat (first | (with_reducible first | exact HB.out | apply below_alloc | apply pw_below_drewN | apply below_drew1 | refine below_set ?_ GE207.out | refine below_set ?_ GE208.out | refine below_set ?_ GE209.out) | exact HB.out)⟩
                                  (try clear HO_4)
                                  (try clear HO_13)
                                  (try clear HO_26)
                                  (try clear HO_210001)
                                  (try clear HO218)
                                  (try clear BK207)
                                  (try clear BK208)
                                  (try clear BK209)
                                  (try clear HB)
                                  generalize (w38.setCell ⟨gb209, 0, none⟩ (.slice Ao39 y216.length co39)) = w41 at n0_ n1_ n2_ n3_ n4_ n5_ n6_ n7_ n8_ ⊢
                                  have HO_4 := n0_
                                  have HO_13 := n1_
                                  have HO_26 := n2_
                                  have HO_210001 := n3_
                                  have HO218 := n4_
                                  have BK207 := n5_
                                  have BK208 := n6_
                                  have BK209 := n7_
                                  have HB := n8_
                                  clear n0_ n1_ n2_ n3_ n4_ n5_ n6_ n7_ n8_
                                  have n0_ := Aside0.mk (Kd.R_drew HO_4.out)
                                  have n1_ := Aside0.mk (Kd.R_drew HO_13.out)
                                  have n2_ := Aside0.mk (Kd.R_drew HO_26.out)
                                  have n3_ := Aside0.mk (Kd.R_drew HO_210001.out)
                                  have n4_ := Aside0.mk (Kd.R_drew HO218.out)
                                  have n5_ := Aside0.mk (blk_drew BK207.out)
                                  have n6_ := Aside0.mk (blk_drew BK208.out)
                                  have n7_ := Aside0.mk (blk_drew BK209.out)
                                  have n8_ := Aside0.mk (below_drew1 HB.out)
                                  clear HO_4
                                  clear HO_13
                                  clear HO_26
                                  clear HO_210001
                                  clear HO218
                                  clear BK207
                                  clear BK208
                                  clear BK209
                                  clear HB
                                  have HO_4 := n0_
                                  have HO_13 := n1_
                                  have HO_26 := n2_
                                  have HO_210001 := n3_
                                  have HO218 := n4_
                                  have BK207 := n5_
                                  have BK208 := n6_
                                  have BK209 := n7_
                                  have HB := n8_
                                  clear n0_ n1_ n2_ n3_ n4_ n5_ n6_ n7_ n8_
                                  have p219 : 0 ≤ (x7_2 : Int) := of_decide_eq_true (by first | (with_reducible assumption) | assumption)
                                  have q219 : x7_2 < (l0_1.length : Int) := of_decide_eq_true (by first | (with_reducible assumption) | assumption)
                                  obtain ⟨ad219, e219, hx219_0⟩ := Kd.at_int HR0_1.out x7_2 p219 q219
                                  have hw219_0 := hx219_0
                                  cases e219
                                  replace hx219_0 := (HB.out.cell (World.block_lt_of_cell? w _ hx219_0)).trans hx219_0
                                  replace p219 := eq_true p219
                                  replace q219 := eq_true q219
                                  refine start_ (n := 11) (S := fun w' => w'.cell? ⟨gb209, 0, none⟩ = some (.slice Ao39 y216.length co39) ∧ w'.cell? ⟨gb209, 1, none⟩ = some (u210001) ∧ w'.cell? ⟨gb207, 0, none⟩ = some (.slice A0_0 l0_0.length c0_0) ∧ w'.cell? ⟨gb207, 1, none⟩ = some (.slice (some ad219) l0_1.length c0_1) ∧ w'.cell? (ad219.add (x7_2).toNat) = some (.int .i64 (rd l0_1 x7_2))) (ds := [10]) #[false, false, false, false, false, false, false, false, false, false, false] (by kernel_rfl) rfl rfl ⟨(blk_cell BK209.out 0).trans rfl, (blk_cell BK209.out 1).trans rfl, (blk_cell BK207.out 0).trans rfl, (blk_cell BK207.out 1).trans rfl, ((HB.out.cell (World.block_lt_of_cell? w _ hw219_0)).trans hw219_0)⟩ (fun hHeld => ?_); refine with_tabW comfitref08_Quotient.tab17 comfitref08_Quotient.bits17 (fun HT_ HW_ => ?_)
                                  generalize w41.drew = w42 at HO_4 HO_13 HO_26 HO_210001 HO218 BK207 BK208 BK209 HB hx219_0 hHeld ⊢
                                  refine pure_ (i := 0) (N := some 52) (v := ?_) (a' := ?_) #[true, false, false, false, false, false, false, false, false, false, false] rfl rfl (any_of HT_.out (by kernel_rfl)) (fun _ _ _ h => h) (Or.inl ⟨by rfl, ?_⟩) ?_ ?_
                                  rotate_left
                                  · intro w'
                                    go_simp
                                    with_reducible rfl
                                  rotate_left
                                  · simp only [Act.put, List.setIfInBounds_toArray, List.set_cons_zero, List.set_cons_succ, i64_w, i32_w]
                                    rfl
                                  refine pure_ (i := 2) (N := some 54) (v := ?_) (a' := ?_) #[true, false, true, false, false, false, false, false, false, false, false] rfl rfl (any_of HT_.out (by kernel_rfl)) (fun _ _ _ h => h) (Or.inl ⟨by rfl, ?_⟩) ?_ ?_
                                  rotate_left
                                  · intro w'
                                    go_simp
                                    with_reducible rfl
                                  rotate_left
                                  · simp only [Act.put, List.setIfInBounds_toArray, List.set_cons_zero, List.set_cons_succ, i64_w, i32_w]
                                    rfl
                                  refine pure_ (i := 4) (N := some 56) (v := ?_) (a' := ?_) #[true, false, true, false, true, false, false, false, false, false, false] rfl rfl (any_of HT_.out (by kernel_rfl)) (fun _ _ _ h => h) (Or.inl ⟨by rfl, ?_⟩) ?_ ?_
                                  rotate_left
                                  · intro w'
                                    go_simp
                                    with_reducible rfl
                                  rotate_left
                                  · simp only [Act.put, List.setIfInBounds_toArray, List.set_cons_zero, List.set_cons_succ, i64_w, i32_w]
                                    rfl
                                  refine take_ (i := 1) (N := some 53) (v := ?_) (a' := ?_) #[true, true, true, false, true, false, false, false, false, false, false] rfl rfl (take_ofW HT_.out HW_.out (by kernel_rfl)) (fun _ _ _ h => h) (Or.inl ⟨by rfl, ?_⟩) hHeld ?_ ?_
                                  rotate_left
                                  · rintro w' ⟨s0, s1, s2, s3, s4⟩
                                    go_simp
                                    with_reducible rfl
                                  rotate_left
                                  · simp only [Act.put, List.setIfInBounds_toArray, List.set_cons_zero, List.set_cons_succ, i64_w, i32_w]
                                    rfl
                                  refine take_ (i := 3) (N := some 55) (v := ?_) (a' := ?_) #[true, true, true, true, true, false, false, false, false, false, false] rfl rfl (take_ofW HT_.out HW_.out (by kernel_rfl)) (fun _ _ _ h => h) (Or.inl ⟨by rfl, ?_⟩) hHeld ?_ ?_
                                  rotate_left
                                  · rintro w' ⟨s0, s1, s2, s3, s4⟩
                                    go_simp
                                    with_reducible rfl
                                  rotate_left
                                  · simp only [Act.put, List.setIfInBounds_toArray, List.set_cons_zero, List.set_cons_succ, i64_w, i32_w]
                                    rfl
                                  refine pure_ (i := 5) (N := some 57) (v := ?_) (a' := ?_) #[true, true, true, true, true, true, false, false, false, false, false] rfl rfl (any_of HT_.out (by kernel_rfl)) (fun _ _ _ h => h) (Or.inl ⟨by rfl, ?_⟩) ?_ ?_
                                  rotate_left
                                  · intro w'
                                    go_simp
                                    with_reducible rfl
                                  rotate_left
                                  · simp only [Act.put, List.setIfInBounds_toArray, List.set_cons_zero, List.set_cons_succ, i64_w, i32_w]
                                    rfl
                                  refine take_ (i := 6) (N := some 58) (v := ?_) (a' := ?_) #[true, true, true, true, true, true, true, false, false, false, false] rfl rfl (take_ofW HT_.out HW_.out (by kernel_rfl)) (fun _ _ _ h => h) (Or.inl ⟨by rfl, ?_⟩) hHeld ?_ ?_
                                  rotate_left
                                  · rintro w' ⟨s0, s1, s2, s3, s4⟩
                                    go_simp
                                    with_reducible rfl
                                  rotate_left
                                  · simp only [Act.put, List.setIfInBounds_toArray, List.set_cons_zero, List.set_cons_succ, i64_w, i32_w]
                                    rfl
                                  refine one_ (i := 7) (N := some 59) #[true, true, true, true, true, true, true, true, false, false, false] rfl rfl (one_of HT_.out (by kernel_rfl)) (by decide) (fun K hK => ?_)
                                  refine value_ (w1 := ?_) (v := ?_) (by rfl) rfl ?_ ?_
                                  rotate_left 2
                                  · go_simp
                                    constructor
                                    · rfl
                                    · rfl
                                  refine hK.out _ _ ⟨(blk_cell (blk_alloc BK209.out _) 0).trans rfl, (blk_cell (blk_alloc BK209.out _) 1).trans rfl, (blk_cell (blk_alloc BK207.out _) 0).trans rfl, (blk_cell (blk_alloc BK207.out _) 1).trans rfl, (World.cell?_alloc_lt _ _ _ (World.block_lt_of_cell? _ _ (((HB.out.cell (World.block_lt_of_cell? w _ hw219_0)).trans hw219_0)))).trans (((HB.out.cell (World.block_lt_of_cell? w _ hw219_0)).trans hw219_0))⟩ (fun hHeld => ?_)
                                  clear hK K
                                  refine norm_ (a' := ?_) ?_ ?_
                                  rotate_left
                                  · show Act.put _ (some 59) _ = _
                                    simp only [Act.put, List.setIfInBounds_toArray, List.set_cons_zero, List.set_cons_succ, i64_w, i32_w]
                                    rfl
                                  refine one_ (i := 8) (N := some 60) #[true, true, true, true, true, true, true, true, true, false, false] rfl rfl (one_of HT_.out (by kernel_rfl)) (by decide) (fun K hK => ?_)
                                  refine Kd.R_append_step (Kd.int .i64) (w0 := w) w.heap.size (by rfl) (.tmp 53) (.tmp 59) 22 3 (.int .i64 0) 8 rfl Try.underlying22 info3 rfl (by decide) (by omega) u210001 x210001_1 (rd l0_1 x7_2) [.int .i64 (rd l0_1 x7_2)] (fun k_ => some k_ ≠ (.slice (some ad213) t210.length co10 : Value).ownBlock ∧ some k_ ≠ (.slice (some ad213) t210.length co10 : Value).ownBlock ∧ some k_ ≠ (.slice (some ad213) t210.length co10 : Value).ownBlock ∧ some k_ ≠ (.slice Ao39 y216.length co39 : Value).ownBlock) (fun _ => False) rfl rfl ?aP (fun _ hk => hk.elim) ?aF ?aO ?aB ?aS ?aL ?_
                                  (case aP => exact rfl)
                                  (case aB => exact (by repeat (first | (with_reducible first | exact HB.out | apply below_alloc | apply pw_below_drewN | apply below_drew1 | refine below_set ?_ GE207.out | refine below_set ?_ GE208.out | refine below_set ?_ GE209.out) | exact HB.out)))
                                  (case aF => exact (fun k_ hk => ⟨Kd.fresh' (Kd.R_lt (by (with_reducible repeat (first | apply Kd.R_alloc | apply Kd.R_drewN | apply Kd.R_drew)); exact HO_4.out)) k_ hk, Kd.fresh' (Kd.R_lt (by (with_reducible repeat (first | apply Kd.R_alloc | apply Kd.R_drewN | apply Kd.R_drew)); exact HO_13.out)) k_ hk, Kd.fresh' (Kd.R_lt (by (with_reducible repeat (first | apply Kd.R_alloc | apply Kd.R_drewN | apply Kd.R_drew)); exact HO_26.out)) k_ hk, Kd.fresh' (Kd.R_lt (by (with_reducible repeat (first | apply Kd.R_alloc | apply Kd.R_drewN | apply Kd.R_drew)); exact HO218.out)) k_ hk⟩))
                                  (case aO => exact (by (with_reducible repeat (first | apply Kd.R_alloc | apply Kd.R_drewN | apply Kd.R_drew)); exact HO_210001.out))
                                  (case aS => exact (below_size (by repeat (first | (with_reducible first | exact HB.out | apply below_alloc | apply pw_below_drewN | apply below_drew1 | refine below_set ?_ GE207.out | refine below_set ?_ GE208.out | refine below_set ?_ GE209.out) | exact HB.out))))
                                  (case aL => have := LMc34.out; omega)
                                  intro v221 w43 ho hb hg hat
                                  rw [← Ny220.out] at ho
                                  have n0_ := Aside0.mk (Kd.R_after (ok := (fun k_ => some k_ ≠ (.slice Ao39 y216.length co39 : Value).ownBlock)) (by (with_reducible repeat (first | apply Kd.R_alloc | apply Kd.R_drewN | apply Kd.R_drew)); exact Kd.R_mono HO_4.out (fun _ hk => ⟨hk.2, hk.1⟩)) hg hat)
                                  have n1_ := Aside0.mk (Kd.R_after (ok := (fun k_ => some k_ ≠ (.slice Ao39 y216.length co39 : Value).ownBlock)) (by (with_reducible repeat (first | apply Kd.R_alloc | apply Kd.R_drewN | apply Kd.R_drew)); exact Kd.R_mono HO_13.out (fun _ hk => ⟨hk.2, hk.1⟩)) hg hat)
                                  have n2_ := Aside0.mk (Kd.R_after (ok := (fun k_ => some k_ ≠ (.slice Ao39 y216.length co39 : Value).ownBlock)) (by (with_reducible repeat (first | apply Kd.R_alloc | apply Kd.R_drewN | apply Kd.R_drew)); exact Kd.R_mono HO_26.out (fun _ hk => ⟨hk.2, hk.1⟩)) hg hat)
                                  have n3_ := Aside0.mk (blk_grown (g := gb207) (o := .cells #[.slice A0_0 l0_0.length c0_0, .slice (some ad219) l0_1.length c0_1] 24 (0, 0)) (by (with_reducible repeat (first | refine blk_drewN ?_ _ | refine blk_drew ?_ | refine blk_alloc ?_ _)); exact BK207.out) hg (Kd.R_ne HO_210001.out BK207.out (by decide)))
                                  have n4_ := Aside0.mk (blk_grown (g := gb208) (o := .cells #[.slice none 0 0, .slice none 0 0] 24 (0, 0)) (by (with_reducible repeat (first | refine blk_drewN ?_ _ | refine blk_drew ?_ | refine blk_alloc ?_ _)); exact BK208.out) hg (Kd.R_ne HO_210001.out BK208.out (by decide)))
                                  have n5_ := Aside0.mk (blk_grown (g := gb209) (o := .cells #[.slice Ao39 y216.length co39, u210001] 24 (0, 0)) (by (with_reducible repeat (first | refine blk_drewN ?_ _ | refine blk_drew ?_ | refine blk_alloc ?_ _)); exact BK209.out) hg (Kd.R_ne HO_210001.out BK209.out (by decide)))
                                  have n6_ := Aside0.mk (Kd.R_after (ok := (fun k_ => some k_ ≠ (.slice (some ad213) t210.length co10 : Value).ownBlock ∧ some k_ ≠ (.slice (some ad213) t210.length co10 : Value).ownBlock ∧ some k_ ≠ (.slice (some ad213) t210.length co10 : Value).ownBlock)) (by (with_reducible repeat (first | apply Kd.R_alloc | apply Kd.R_drewN | apply Kd.R_drew)); exact Kd.R_mono HO218.out (fun _ hk => ⟨⟨hk.1, ⟨hk.2.1, hk.2.2.1⟩⟩, hk.2.2.2⟩)) hg hat)
                                  have n7_ := Aside0.mk (hb)
                                  have n8_ := Aside0.mk (ho)
                                  clear HO_4
                                  clear HO_13
                                  clear HO_26
                                  clear BK207
                                  clear BK208
                                  clear BK209
                                  clear HO218
                                  clear HB
                                  clear HO_210001
                                  have HO_4 := n0_
                                  have HO_13 := n1_
                                  have HO_26 := n2_
                                  have BK207 := n3_
                                  have BK208 := n4_
                                  have BK209 := n5_
                                  have HO218 := n6_
                                  have HB := n7_
                                  have HO222 := n8_
                                  clear n0_ n1_ n2_ n3_ n4_ n5_ n6_ n7_ n8_
                                  clear ho hb hg hat
                                  obtain ⟨Ao44, co44, eo44⟩ := Kd.R_slice HO222.out
                                  (first | subst eo44 | (injection eo44 with f1_ f2_ f3_; have f4_ := f1_.symm; have f5_ := f3_.symm; clear f1_ f2_ f3_; subst f4_; subst f5_))
                                  refine hK.out _ _ ⟨(blk_cell BK209.out 0).trans rfl, (blk_cell BK209.out 1).trans rfl, (blk_cell BK207.out 0).trans rfl, (blk_cell BK207.out 1).trans rfl, ((HB.out.cell (World.block_lt_of_cell? w _ hw219_0)).trans hw219_0)⟩ (fun hHeld => ?_)
                                  clear hK K
                                  refine norm_ (a' := ?_) ?_ ?_
                                  rotate_left
                                  · show Act.put _ (some 60) _ = _
                                    simp only [Act.put, List.setIfInBounds_toArray, List.set_cons_zero, List.set_cons_succ, i64_w, i32_w]
                                    rfl
                                  refine pure_ (i := 9) (N := some 61) (v := ?_) (a' := ?_) #[true, true, true, true, true, true, true, true, true, true, false] rfl rfl (any_of HT_.out (by kernel_rfl)) (fun _ _ _ h => h) (Or.inl ⟨by rfl, ?_⟩) ?_ ?_
                                  rotate_left
                                  · intro w'
                                    go_simp
                                    with_reducible rfl
                                  rotate_left
                                  · simp only [Act.put, List.setIfInBounds_toArray, List.set_cons_zero, List.set_cons_succ, i64_w, i32_w]
                                    rfl
                                  refine last_ (i := 10) (N := none) #[true, true, true, true, true, true, true, true, true, true, true] rfl rfl (one_of HT_.out (by kernel_rfl)) (by decide) (fun K hK => ?_)
                                  have hs45 : w43.cell? ⟨gb209, 1, none⟩ = some (u210001) := (blk_cell BK209.out 1).trans rfl
                                  have hfs45 := blk_frozen BK209.out 1
                                  have hns45_0 := NB207_209.out
                                  have hns45_1 := NB208_209.out
                                  have hms45_0 := NB209_207.out
                                  have hms45_1 := NB209_208.out
                                  refine skip_ (w1 := ?_) (by rfl) rfl ?_ ?_
                                  rotate_left
                                  · go_simp
                                    rfl
                                  refine hK.out _ _ ?_
                                  clear hK K
                                  refine done_ (done_of HT_.out (by kernel_rfl)) ?_
                                  try go_wp2
                                  go_roundg k3
                                  case measure => have := HK1.out; have := HK2.out; have := HK3.out; omega
                                  case rel => exact ⟨(wrap64 (x15_1 + 1)), (y216), (y220), (.slice Ao39 y216.length co39), (.slice Ao44 y220.length co44), (by first | rfl | (simp; done) | (simp [*]; done)), H', ⟨by have := HK1.out; have := HK2.out; have := HK3.out; omega⟩, ⟨by (with_reducible repeat (first | apply Kd.R_alloc | apply Kd.R_drewN | apply Kd.R_drew)); exact Kd.R_mono (Kd.R_far (p := ⟨gb209, 1, none⟩) (Kd.R_types HO_4.out BK209.out (by decide)) (fun _ hk => hk.2) (.slice Ao44 y220.length co44)) (fun _ hk => ⟨hk.1.1, hk.1.2⟩)⟩, ⟨by (with_reducible repeat (first | apply Kd.R_alloc | apply Kd.R_drewN | apply Kd.R_drew)); exact Kd.R_mono (Kd.R_far (p := ⟨gb209, 1, none⟩) (Kd.R_types HO_13.out BK209.out (by decide)) (fun _ hk => hk.2) (.slice Ao44 y220.length co44)) (fun _ hk => ⟨hk.1.1, hk.1.2⟩)⟩, ⟨by (with_reducible repeat (first | apply Kd.R_alloc | apply Kd.R_drewN | apply Kd.R_drew)); exact Kd.R_mono (Kd.R_far (p := ⟨gb209, 1, none⟩) (Kd.R_types HO218.out BK209.out (by decide)) (fun _ hk => hk.2) (.slice Ao44 y220.length co44)) (fun _ hk => ⟨hk.1.1.1, ⟨hk.1.1.2.1, hk.1.2⟩⟩)⟩, ⟨by (with_reducible repeat (first | apply Kd.R_alloc | apply Kd.R_drewN | apply Kd.R_drew)); exact Kd.R_mono (Kd.R_far (p := ⟨gb209, 1, none⟩) (Kd.R_types HO222.out BK209.out (by decide)) (fun _ hk => hk.2) (.slice Ao44 y220.length co44)) (fun _ hk => ⟨hk.1.1, ⟨hk.1.2.1, hk.1.2.2.2⟩⟩)⟩, ⟨by (with_reducible repeat (first | refine blk_drewN ?_ _ | refine blk_drew ?_ | refine blk_alloc ?_ _)); refine blk_far ?_ NB207_209.out _; (with_reducible repeat (first | refine blk_drewN ?_ _ | refine blk_drew ?_ | refine blk_alloc ?_ _)); exact BK207.out⟩, ⟨by (with_reducible repeat (first | refine blk_drewN ?_ _ | refine blk_drew ?_ | refine blk_alloc ?_ _)); refine blk_far ?_ NB208_209.out _; (with_reducible repeat (first | refine blk_drewN ?_ _ | refine blk_drew ?_ | refine blk_alloc ?_ _)); exact BK208.out⟩, ⟨by (with_reducible repeat (first | refine blk_drewN ?_ _ | refine blk_drew ?_ | refine blk_alloc ?_ _)); refine blk_put (cs := #[.slice Ao39 y216.length co39, u210001]) ?_ 1 _ rfl; (with_reducible repeat (first | refine blk_drewN ?_ _ | refine blk_drew ?_ | refine blk_alloc ?_ _)); exact BK209.out⟩, ⟨by repeat (first | (with_reducible first | exact HB.out | apply below_alloc | apply pw_below_drewN | apply below_drew1 | refine below_set ?_ GE207.out | refine below_set ?_ GE208.out | refine below_set ?_ GE209.out) | exact HB.out)⟩⟩
                                · rw [if_neg c34] at H
                                  exact absurd H (by simp)
                              · rw [if_neg c33] at H
                                exact absurd H (by simp)
                            · rw [if_neg c32] at H
                              exact absurd H (by simp)
                          · rw [if_neg c31] at H
                            exact absurd H (by simp)
                · rw [if_neg c14] at H
                  exact absurd H (by simp)
          · rw [if_neg c13] at H
            exact absurd H (by simp)
        · rw [if_neg c12] at H
          exact absurd H (by simp)
      · rw [if_neg c11] at H
        have c11b0 : decide (x15_1 < (t210.length : Int)) = false := decide_eq_false c11
        clear c11
        simp only [Option.some.injEq, Prod.mk.injEq] at H
        obtain ⟨rfl, rfl⟩ := H
        have hnb46 := NB209_207.out
        have hnc46 := NB207_209.out
        have hnb47 := NB209_208.out
        have hnc47 := NB208_209.out
        have hcz48_0 : wr.cell? ⟨gb209, 0, none⟩ = some (u210000) := (blk_cell BK209.out 0).trans rfl
        have hcz48_1 : wr.cell? ⟨gb209, 1, none⟩ = some (u210001) := (blk_cell BK209.out 1).trans rfl
        have hfz48_0 := blk_frozen BK209.out 0
        have hfz48_1 := blk_frozen BK209.out 1
        obtain ⟨Ao49, co49, eo49⟩ := Kd.R_slice HO_210000.out
        subst eo49
        have hnb50 := NB208_207.out
        have hnc50 := NB207_208.out
        have hcz51_0 : wr.cell? ⟨gb208, 0, none⟩ = some (.slice none 0 0) := (blk_cell BK208.out 0).trans rfl
        have hcz51_1 : wr.cell? ⟨gb208, 1, none⟩ = some (.slice none 0 0) := (blk_cell BK208.out 1).trans rfl
        have hfz51_0 := blk_frozen BK208.out 0
        have hfz51_1 := blk_frozen BK208.out 1
        obtain ⟨Ao52, co52, eo52⟩ := Kd.R_slice HO_210001.out
        subst eo52
        go_wp2
        refine bodyPost_ret (results_cell_row rfl _ _ gb208 24 #[.slice Ao49 x210000_1.length co49, .slice Ao52 x210001_1.length co52] (0, 0) _ rfl (by (with_reducible repeat (first | refine blk_drewN ?_ _ | refine blk_drew ?_ | refine blk_alloc ?_ _)); refine blk_put (cs := #[.slice Ao49 x210000_1.length co49, .slice none 0 0]) ?_ 1 _ rfl; (with_reducible repeat (first | refine blk_drewN ?_ _ | refine blk_drew ?_ | refine blk_alloc ?_ _)); refine blk_put (cs := #[.slice none 0 0, .slice none 0 0]) ?_ 0 _ rfl; (with_reducible repeat (first | refine blk_drewN ?_ _ | refine blk_drew ?_ | refine blk_alloc ?_ _)); exact BK208.out) Try.underlying24 rfl (by kernel_rfl)) rfl ?_
        exact ⟨_, _, by first | rfl | (simp [errW_none, errW_some] <;> rfl) | (simp [*, errW_none, errW_some] <;> rfl), by (with_reducible repeat (first | apply Kd.R_alloc | apply Kd.R_drewN | apply Kd.R_drew)); exact Kd.R_mono (Kd.R_far (p := ⟨gb208, 1, none⟩) (Kd.R_far (p := ⟨gb208, 0, none⟩) (Kd.R_types HO_210000.out BK208.out (by decide)) (fun _ hk => hk.2) (.slice Ao49 x210000_1.length co49)) (fun _ hk => hk.2) (.slice Ao52 x210001_1.length co52)) (fun _ hk => hk.1.2.2), by (with_reducible repeat (first | apply Kd.R_alloc | apply Kd.R_drewN | apply Kd.R_drew)); exact Kd.R_mono (Kd.R_far (p := ⟨gb208, 1, none⟩) (Kd.R_far (p := ⟨gb208, 0, none⟩) (Kd.R_types HO_210001.out BK208.out (by decide)) (fun _ hk => hk.2) (.slice Ao49 x210000_1.length co49)) (fun _ hk => hk.2) (.slice Ao52 x210001_1.length co52)) (fun _ hk => hk.1.2.2), by repeat (first | (with_reducible first | exact HB.out | apply below_alloc | apply pw_below_drewN | apply below_drew1 | refine below_set ?_ GE207.out | refine below_set ?_ GE208.out | refine below_set ?_ GE209.out) | exact HB.out)⟩
end Go.Proofs.Ytjffhhalmicodaa.PF
end

section
namespace Go.Proofs.Ytjffhhalmicodaa.PG
open Go.RowKit Go.Proofs.YtjffhhalmicodaaW.PrintWords Go.Proofs.YtjffhhalmicodaaW.PrintLast Go.Proofs.YtjffhhalmicodaaW.PrintMore
attribute [local go_sem] max2_int min2_int max_two min_two max_three min_three max_four min_four
set_option linter.unusedVariables false
set_option linter.unusedSimpArgs false
def errW : Option Int → Value
  | none => .nilIface
  | some c => .iface 0 (.int .i64 c)
theorem errW_none : errW none = .nilIface := rfl
theorem errW_some (c : Int) : errW (some c) = .iface 0 (.int .i64 c) := rfl
end Go.Proofs.Ytjffhhalmicodaa.PG
end
