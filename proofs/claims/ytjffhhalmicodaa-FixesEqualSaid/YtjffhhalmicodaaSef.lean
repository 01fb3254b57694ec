/- Texts of this claim, merged by a program (wip/tools/shake.py); what nothing names is left out. -/
import Derived.KernelRfl
import Derived.Test.YtjffhhalmicodaaSee
section
namespace Go.Proofs.Ytjffhhalmicodaa.PF
open Go.RowKit Go.Proofs.YtjffhhalmicodaaW.PrintWords Go.Proofs.YtjffhhalmicodaaW.PrintLast Go.Proofs.YtjffhhalmicodaaW.PrintMore
attribute [local go_sem] max2_int min2_int max_two min_two max_three min_three max_four min_four
set_option linter.unusedVariables false
set_option linter.unusedSimpArgs false
def fixes_Classes.l0 : Nat → List Int → List Int → Int → Int → Option (List Int × Int)
  | 0, _, _, _, _ => none
  | k + 1, x5, x17, x18, x19 => if x19 < x18 then (if 0 ≤ x19 then (if x19 < (x17.length : Int) then (if 0 ≤ (rd x17 x19) then (if (rd x17 x19) < (x5.length : Int) then (fixes_Classes.l0 k (x5.set ((rd x17 x19) : Int).toNat (Go.bits .or .i64 (rd x5 (rd x17 x19)) (shl .i64 1 x19))) x17 x18 (wrap64 (x19 + 1))) else (none)) else (none)) else (none)) else (none)) else (some (x5, 0))
def fixes_Classes.f (k : Nat) (l0_0 : List Int) (l0_1 : List Int) : Option (List Int × Int) := (Go.Proofs.Ytjffhhalmicodaa.PA.fixes_Works_valid.f l0_0 l0_1).bind fun t102 => (if t102 = true then ((Go.Proofs.Ytjffhhalmicodaa.X.fixes_classes.f k l0_0 l0_1).bind fun t103 => ((Go.Proofs.Ytjffhhalmicodaa.X.slices_Max.f t103).bind fun t106 => (if 0 ≤ (wrap64 (t106 + 1)) then (if (wrap64 (t106 + 1) : Int).toNat ≤ 35184372088832 then (fixes_Classes.l0 k (List.replicate (wrap64 (t106 + 1) : Int).toNat 0) t103 (t103.length : Int) 0) else (none)) else (none)))) else (some (([] : List Int), 2)))
def fixes_Classes.T8 : Bool × List (List Nat × List Nat) := (true, [([], []), ([], []), ([0, 1], [0, 1]), ([2], [2]), ([], []), ([4], [4]), ([3, 5], [3, 5]), ([0, 1, 0, 1, 2, 3, 4, 5, 6], [0, 1]), ([7, 6, 0, 1, 2, 3, 4, 5, 6], [6, 7])])
def fixes_Classes.B8 : List Nat := [0, 0, 3, 7, 0, 16, 63, 127, 255]
theorem fixes_Classes.tab8 : rtab .any (opsOf Try.f33 8) = fixes_Classes.T8 := by kernel_rfl
theorem fixes_Classes.bits8 : waitsOk fixes_Classes.T8.2 fixes_Classes.B8 = true := by kernel_rfl
set_option maxHeartbeats 8000000 in
set_option maxRecDepth 100000 in
theorem fixes_Classes.calls (k : Nat) (A0_0 : Option Addr) (c0_0 : Nat) (l0_0 : List Int) (A0_1 : Option Addr) (c0_1 : Nat) (l0_1 : List Int) (r1 : List Int) (r2 : Int) (w : World) (hr0_0 : Kd.C (Kd.int .i64) w A0_0 l0_0.length l0_0) (hc0_0 : l0_0.length ≤ c0_0) (hr0_1 : Kd.C (Kd.int .i64) w A0_1 l0_1.length l0_1) (hc0_1 : l0_1.length ≤ c0_1) (h : fixes_Classes.f k l0_0 l0_1 = some (r1, r2)) :
    Calls Try.prog 33 #[.agg #[.slice A0_0 l0_0.length c0_0, .slice A0_1 l0_1.length c0_1]] w fun e w' => ∃ v0_ : Value, e = .returned (.tuple #[v0_, .int .i64 r2]) ∧ Kd.R (Kd.int .i64) 3 w' w.heap.size (fun _ => True) v0_ r1 ∧ Below w.heap.size w w' := by
  have hu28 := Try.underlying28
  have HR0_0 := Aside0.mk hr0_0
  have HC0_0 := Aside0.mk hc0_0
  clear hr0_0 hc0_0
  have HR0_1 := Aside0.mk hr0_1
  have HC0_1 := Aside0.mk hc0_1
  clear hr0_1 hc0_1
  have HB := Aside0.mk (Below.refl w.heap.size w)
  have H : ((Go.Proofs.Ytjffhhalmicodaa.PA.fixes_Works_valid.f l0_0 l0_1).bind fun t102 => (if t102 = true then ((Go.Proofs.Ytjffhhalmicodaa.X.fixes_classes.f k l0_0 l0_1).bind fun t103 => ((Go.Proofs.Ytjffhhalmicodaa.X.slices_Max.f t103).bind fun t106 => (if 0 ≤ (wrap64 (t106 + 1)) then (if (wrap64 (t106 + 1) : Int).toNat ≤ 35184372088832 then (fixes_Classes.l0 k (List.replicate (wrap64 (t106 + 1) : Int).toNat 0) t103 (t103.length : Int) 0) else (none)) else (none)))) else (some (([] : List Int), 2)))) = some (r1, r2) := h
  clear h
  replace H := Option.bind_eq_some_iff.mp H
  obtain ⟨t102, A20, H⟩ := H
  replace H : (if t102 = true then ((Go.Proofs.Ytjffhhalmicodaa.X.fixes_classes.f k l0_0 l0_1).bind fun t103 => ((Go.Proofs.Ytjffhhalmicodaa.X.slices_Max.f t103).bind fun t106 => (if 0 ≤ (wrap64 (t106 + 1)) then (if (wrap64 (t106 + 1) : Int).toNat ≤ 35184372088832 then (fixes_Classes.l0 k (List.replicate (wrap64 (t106 + 1) : Int).toNat 0) t103 (t103.length : Int) 0) else (none)) else (none)))) else (some (([] : List Int), 2))) = some (r1, r2) := H
  have A2 := Aside0.mk A20
  clear A20
  by_cases c3 : t102 = true
  · subst c3
    have H1 : ((Go.Proofs.Ytjffhhalmicodaa.X.fixes_classes.f k l0_0 l0_1).bind fun t103 => ((Go.Proofs.Ytjffhhalmicodaa.X.slices_Max.f t103).bind fun t106 => (if 0 ≤ (wrap64 (t106 + 1)) then (if (wrap64 (t106 + 1) : Int).toNat ≤ 35184372088832 then (fixes_Classes.l0 k (List.replicate (wrap64 (t106 + 1) : Int).toNat 0) t103 (t103.length : Int) 0) else (none)) else (none)))) = some (r1, r2) := by rw [if_pos rfl] at H; exact H
    clear H
    have H := H1
    clear H1
    replace H := Option.bind_eq_some_iff.mp H
    obtain ⟨t103, A40, H⟩ := H
    replace H : ((Go.Proofs.Ytjffhhalmicodaa.X.slices_Max.f t103).bind fun t106 => (if 0 ≤ (wrap64 (t106 + 1)) then (if (wrap64 (t106 + 1) : Int).toNat ≤ 35184372088832 then (fixes_Classes.l0 k (List.replicate (wrap64 (t106 + 1) : Int).toNat 0) t103 (t103.length : Int) 0) else (none)) else (none))) = some (r1, r2) := H
    have A4 := Aside0.mk A40
    clear A40
    replace H := Option.bind_eq_some_iff.mp H
    obtain ⟨t106, A50, H⟩ := H
    replace H : (if 0 ≤ (wrap64 (t106 + 1)) then (if (wrap64 (t106 + 1) : Int).toNat ≤ 35184372088832 then (fixes_Classes.l0 k (List.replicate (wrap64 (t106 + 1) : Int).toNat 0) t103 (t103.length : Int) 0) else (none)) else (none)) = some (r1, r2) := H
    have A5 := Aside0.mk A50
    clear A50
    obtain ⟨ji6, hji6⟩ : ∃ j_ : Int, (wrap64 (t106 + 1)) = j_ := ⟨_, rfl⟩
    replace H : (if 0 ≤ (ji6) then (if (ji6 : Int).toNat ≤ 35184372088832 then (fixes_Classes.l0 k (List.replicate (ji6 : Int).toNat 0) t103 (t103.length : Int) 0) else (none)) else (none)) = some (r1, r2) := by first | (rw [hji6] at H; exact H) | (simp only [hji6] at H ⊢; exact H)
    (try rw [hji6] at A2)
    (try rw [hji6] at A4)
    (try rw [hji6] at A5)
    have hji6w : (IntKind.i64.wrap (t106 + 1)) = ji6 := (i64_w _).trans hji6
    by_cases c7 : 0 ≤ (ji6)
    · rw [if_pos c7] at H
      have c7b0 := eq_true c7
      have c7b1 : decide (0 ≤ (ji6)) = true := decide_eq_true c7
      clear c7
      by_cases c8 : (ji6 : Int).toNat ≤ 35184372088832
      · rw [if_pos c8] at H
        have c8b0 := eq_true c8
        have c8b1 : decide ((ji6 : Int).toNat ≤ 35184372088832) = true := decide_eq_true c8
        clear c8
        obtain ⟨y107, hy107⟩ : ∃ y_ : List Int, y_ = (List.replicate (ji6 : Int).toNat 0) := ⟨_, rfl⟩
        replace H : (fixes_Classes.l0 k y107 t103 (t103.length : Int) 0) = some (r1, r2) := by first | (rw [hy107]; with_reducible exact H) | (have H2_ := (Option.bind_some _ _).symm.trans H; rw [hy107]; with_reducible exact H2_) | (have H2_ := (Option.bind_some _ _).symm.trans H; with_reducible exact H2_) | with_reducible exact H | (rw [hy107]; exact H) | exact H
        have Ny107 := Aside0.mk hy107
        clear hy107
        have H' := Aside0.mk H
        clear H
        go_enter Try.func33, Try.ntmps33
        go_wp2_with (first | ((with_reducible refine gate_dst (N := 1) rfl ?_); refine box_event ?hg (N := 1) ?hd (cs := #[.slice A0_0 l0_0.length c0_0, .slice A0_1 l0_1.length c0_1]) (t := 28) ?hr ?_; (case hd => rfl); (case hg => rfl); (case hr => first | (go_simp; done) | (go_simp; rfl)); intro gb101 hg w9 hbox hb; have n0_ := Aside0.mk (below_step (by repeat (first | (with_reducible first | exact HB.out | apply below_alloc | apply pw_below_drewN | apply below_drew1) | exact HB.out)) hb); have n1_ := Aside0.mk (hbox); have n2_ := Aside0.mk ((by rw [hg]; exact (below_size (by repeat (first | (with_reducible first | exact HB.out | apply below_alloc | apply pw_below_drewN | apply below_drew1) | exact HB.out))) : w.heap.size ≤ gb101)); have n3_ := Aside0.mk ((by rw [hg]; exact (below_size (by repeat (first | (with_reducible first | exact HB.out | apply below_alloc | apply pw_below_drewN | apply below_drew1) | exact HB.out))) : w.heap.size ≤ gb101)); clear HB; have HB := n0_; have BK101 := n1_; have GW101 := n2_; have GE101 := n3_; clear n0_ n1_ n2_ n3_; clear hb hbox hg; have hcz10_0 : w9.cell? ⟨gb101, 0, none⟩ = some (.slice A0_0 l0_0.length c0_0) := (blk_cell BK101.out 0).trans rfl; have hcz10_1 : w9.cell? ⟨gb101, 1, none⟩ = some (.slice A0_1 l0_1.length c0_1) := (blk_cell BK101.out 1).trans rfl; have hfz10_0 := blk_frozen BK101.out 0; have hfz10_1 := blk_frozen BK101.out 1) | ((with_reducible refine gate_callee (f := 61) rfl ?_); refine goesL_ (some 9) rfl rfl Try.func61 (by kernel_rfl) rfl #[.agg #[.slice A0_0 l0_0.length c0_0, .slice A0_1 l0_1.length c0_1]] rfl (by (try simp only [List.map_toArray, List.map_cons, List.map_nil]); first | done | rfl | (simp only [List.length_drop, List.length_take]; rfl)) ?_; (with_reducible refine (Go.Proofs.Ytjffhhalmicodaa.PA.fixes_Works_valid.calls _ _ l0_0 _ _ l0_1 true _ ?side1 ?side2 ?side3 ?side4 A2.out).mono ?_); (case side1 => repeat (first | exact (Kd.C_below HR0_0.out HB.out) | (with_reducible refine Kd.C_alloc ?_ _) | (with_reducible refine Kd.C_drewN ?_ _) | (with_reducible refine Kd.C_drew ?_))); (case side2 => exact HC0_0.out); (case side3 => repeat (first | exact (Kd.C_below HR0_1.out HB.out) | (with_reducible refine Kd.C_alloc ?_ _) | (with_reducible refine Kd.C_drewN ?_ _) | (with_reducible refine Kd.C_drew ?_))); (case side4 => exact HC0_1.out); rintro e w11 ⟨rfl, hb⟩; refine ⟨_, rfl, ?_⟩; have n0_ := Aside0.mk (blk_below (g := gb101) (o := .cells #[.slice A0_0 l0_0.length c0_0, .slice A0_1 l0_1.length c0_1] 28 (0, 0)) (by (with_reducible repeat (first | refine blk_drewN ?_ _ | refine blk_drew ?_ | refine blk_alloc ?_ _)); exact BK101.out) hb); have n1_ := Aside0.mk (below_step (by repeat (first | (with_reducible first | exact HB.out | apply below_alloc | apply pw_below_drewN | apply below_drew1 | refine below_set ?_ GE101.out) | exact HB.out)) hb); clear BK101; clear HB; have BK101 := n0_; have HB := n1_; clear n0_ n1_; (try clear hb); (try clear hb2); (try clear hk); (try clear hi); have hcz12_0 : w11.cell? ⟨gb101, 0, none⟩ = some (.slice A0_0 l0_0.length c0_0) := (blk_cell BK101.out 0).trans rfl; have hcz12_1 : w11.cell? ⟨gb101, 1, none⟩ = some (.slice A0_1 l0_1.length c0_1) := (blk_cell BK101.out 1).trans rfl; have hfz12_0 := blk_frozen BK101.out 0; have hfz12_1 := blk_frozen BK101.out 1) | ((with_reducible refine gate_callee (f := 62) rfl ?_); refine goesL_ (some 12) rfl rfl Try.func62 (by kernel_rfl) rfl #[.agg #[.slice A0_0 l0_0.length c0_0, .slice A0_1 l0_1.length c0_1]] rfl (by (try simp only [List.map_toArray, List.map_cons, List.map_nil]); first | done | rfl | (simp only [List.length_drop, List.length_take]; rfl)) ?_; (with_reducible refine (Go.Proofs.Ytjffhhalmicodaa.X.fixes_classes.calls k _ _ l0_0 _ _ l0_1 t103 _ ?side1 ?side2 ?side3 ?side4 A4.out).mono ?_); (case side1 => repeat (first | exact (Kd.C_below HR0_0.out HB.out) | (with_reducible refine Kd.C_alloc ?_ _) | (with_reducible refine Kd.C_drewN ?_ _) | (with_reducible refine Kd.C_drew ?_))); (case side2 => exact HC0_0.out); (case side3 => repeat (first | exact (Kd.C_below HR0_1.out HB.out) | (with_reducible refine Kd.C_alloc ?_ _) | (with_reducible refine Kd.C_drewN ?_ _) | (with_reducible refine Kd.C_drew ?_))); (case side4 => exact HC0_1.out); rintro e w13 ⟨v104, rfl, ho0, hb⟩; refine ⟨_, rfl, ?_⟩; have n0_ := Aside0.mk (Kd.R_lower ho0 (below_size (by repeat (first | (with_reducible first | exact HB.out | apply below_alloc | apply pw_below_drewN | apply below_drew1 | refine below_set ?_ GE101.out) | exact HB.out)))); have n1_ := Aside0.mk (blk_below (g := gb101) (o := .cells #[.slice A0_0 l0_0.length c0_0, .slice A0_1 l0_1.length c0_1] 28 (0, 0)) (by (with_reducible repeat (first | refine blk_drewN ?_ _ | refine blk_drew ?_ | refine blk_alloc ?_ _)); exact BK101.out) hb); have n2_ := Aside0.mk (below_step (by repeat (first | (with_reducible first | exact HB.out | apply below_alloc | apply pw_below_drewN | apply below_drew1 | refine below_set ?_ GE101.out) | exact HB.out)) hb); clear BK101; clear HB; have HO105 := n0_; have BK101 := n1_; have HB := n2_; clear n0_ n1_ n2_; (try clear hb); (try clear hb2); (try clear hk); (try clear hi); (try clear ho0); obtain ⟨Ao14, co14, eo14⟩ := Kd.R_slice HO105.out; subst eo14) | ((with_reducible refine gate_callee (f := 63) rfl ?_); refine goesL_ (some 14) rfl rfl Try.func63 (by kernel_rfl) rfl #[.slice Ao14 t103.length co14] rfl (by (try simp only [List.map_toArray, List.map_cons, List.map_nil]); first | done | rfl | (simp only [List.length_drop, List.length_take]; rfl)) ?_; (with_reducible refine (Go.Proofs.Ytjffhhalmicodaa.X.slices_Max.calls _ _ t103 t106 _ ?side1 ?side2 A5.out).mono ?_); (case side1 => repeat (first | exact (Kd.R_reads' HO105.out).2.2 | (with_reducible refine Kd.C_alloc ?_ _) | (with_reducible refine Kd.C_drewN ?_ _) | (with_reducible refine Kd.C_drew ?_))); (case side2 => exact (Kd.R_reads' HO105.out).2.1); rintro e w' ⟨rfl, ⟨nd, rfl⟩⟩; refine ⟨_, rfl, ?_⟩) | ((with_reducible refine gate_dst (N := 16) rfl ?_); refine Kd.R_make (Kd.int .i64) _ 3 rfl (N := 16) rfl 22 _ _ rfl ji6 rfl rfl Try.underlying22 (.int .i64 0) 8 info3 rfl (by decide) (by omega) 0 (ok := fun _ => True) (okp := fun _ => True) rfl (fun _ hk => hk) trivial (of_decide_eq_true (by first | (with_reducible assumption) | assumption)) (Nat.le_trans (Nat.mul_le_mul_right _ (of_decide_eq_true (by first | (with_reducible assumption) | assumption) : ji6.toNat ≤ 35184372088832)) (by omega)) (Below.refl _ _) (Nat.le_refl _) ?_; intro v108 w15 ho16 hb hg_ hnew_; clear hg_ hnew_; (first | rw [← Ny107.out] at ho16 | (simp only [Int.reduceToNat] at ho16; rw [← Ny107.out] at ho16)); have n0_ := Aside0.mk (Kd.R_elder' (by (with_reducible repeat (first | apply Kd.R_alloc | apply Kd.R_drewN | apply Kd.R_drew)); exact HO105.out) (Kd.R_base ho16) hb); have n1_ := Aside0.mk (Kd.R_lower (Kd.R_new' ho16 (Kd.R_lt (by (with_reducible repeat (first | apply Kd.R_alloc | apply Kd.R_drewN | apply Kd.R_drew)); exact HO105.out))) (below_size (by repeat (first | (with_reducible first | exact HB.out | apply below_alloc | apply pw_below_drewN | apply below_drew1 | refine below_set ?_ GE101.out) | exact HB.out)))); have n2_ := Aside0.mk (blk_below (g := gb101) (o := .cells #[.slice A0_0 l0_0.length c0_0, .slice A0_1 l0_1.length c0_1] 28 (0, 0)) (by (with_reducible repeat (first | refine blk_drewN ?_ _ | refine blk_drew ?_ | refine blk_alloc ?_ _)); exact BK101.out) hb); have n3_ := Aside0.mk (below_step (by repeat (first | (with_reducible first | exact HB.out | apply below_alloc | apply pw_below_drewN | apply below_drew1 | refine below_set ?_ GE101.out) | exact HB.out)) hb); clear HO105; clear BK101; clear HB; have HO105 := n0_; have HO109 := n1_; have BK101 := n2_; have HB := n3_; clear n0_ n1_ n2_ n3_; clear hb ho16))
        go_loopg [19] k (fun kq v19 w' => ∃ (x5_1 : List Int) (x19_1 : Int), v19 = .int .i64 x19_1 ∧ Aside0 (fixes_Classes.l0 kq x5_1 t103 (t103.length : Int) x19_1 = some (r1, r2)) ∧ Aside0 (kq ≤ k) ∧ Aside0 (Kd.R (Kd.int .i64) 3 w' w.heap.size (fun k_ => some k_ ≠ ((.slice Ao14 t103.length co14) : Value).ownBlock) v108 x5_1) ∧ Aside0 (Kd.R (Kd.int .i64) 3 w' w.heap.size (fun k_ => some k_ ≠ (v108 : Value).ownBlock) (.slice Ao14 t103.length co14) t103) ∧ Aside0 (w'.heap[gb101]? = some (.cells #[(.slice A0_0 l0_0.length c0_0), (.slice A0_1 l0_1.length c0_1)] 28 (0, 0))) ∧ Aside0 (Below w.heap.size w w'))
        case atStart => exact ⟨(y107), (0), (by first | rfl | (simp; done) | (simp [*]; done)), H', ⟨Nat.le_refl _⟩, ⟨by (with_reducible repeat (first | apply Kd.R_alloc | apply Kd.R_drewN | apply Kd.R_drew)); exact Kd.R_mono HO109.out (fun _ hk => hk.2)⟩, ⟨by (with_reducible repeat (first | apply Kd.R_alloc | apply Kd.R_drewN | apply Kd.R_drew)); exact Kd.R_mono HO105.out (fun _ hk => hk.2)⟩, ⟨by (with_reducible repeat (first | refine blk_drewN ?_ _ | refine blk_drew ?_ | refine blk_alloc ?_ _)); exact BK101.out⟩, ⟨by repeat (first | (with_reducible first | exact HB.out | apply below_alloc | apply pw_below_drewN | apply below_drew1 | refine below_set ?_ GE101.out) | exact HB.out)⟩⟩
        case round =>
          clear H'
          try clear p2
          try clear c3
          try clear c6
          try clear p6
          try clear c7
          try clear c7b0
          try clear c7b1
          try clear c8
          try clear c8b0
          try clear c8b1
          try clear hcz10_0
          try clear hcz10_1
          try clear hcz12_0
          try clear hcz12_1
          try clear hfz10_0
          try clear hfz10_1
          try clear hfz12_0
          try clear hfz12_1
          obtain ⟨x5_1, x19_1, rfl, HA, HK1, HO_5, HO_17, BK101, HB⟩ := hrel
          cases gk with
          | zero => exact absurd HA.out (by simp [fixes_Classes.l0])
          | succ k1 =>
            have H := HA.out
            clear HA
            simp only [fixes_Classes.l0] at H
            by_cases c17 : x19_1 < (t103.length : Int)
            · rw [if_pos c17] at H
              have c17b0 : decide (x19_1 < (t103.length : Int)) = true := decide_eq_true c17
              clear c17
              by_cases c18 : 0 ≤ x19_1
              · rw [if_pos c18] at H
                have c18b0 : decide (0 ≤ x19_1) = true := decide_eq_true c18
                clear c18
                by_cases c19 : x19_1 < (t103.length : Int)
                · rw [if_pos c19] at H
                  have c19b0 : decide (x19_1 < (t103.length : Int)) = true := decide_eq_true c19
                  clear c19
                  by_cases c20 : 0 ≤ (rd t103 x19_1)
                  · rw [if_pos c20] at H
                    have c20b0 : decide (0 ≤ (rd t103 x19_1)) = true := decide_eq_true c20
                    clear c20
                    by_cases c21 : (rd t103 x19_1) < (x5_1.length : Int)
                    · rw [if_pos c21] at H
                      have c21b0 : decide ((rd t103 x19_1) < (x5_1.length : Int)) = true := decide_eq_true c21
                      clear c21
                      have c22b0 := eq_true (of_decide_eq_true (by first | (with_reducible assumption) | assumption) : 0 ≤ x19_1)
                      obtain ⟨ji23, hji23⟩ : ∃ j_ : Int, (shl .i64 1 x19_1) = j_ := ⟨_, rfl⟩
                      replace H : (fixes_Classes.l0 k1 (x5_1.set ((rd t103 x19_1) : Int).toNat (Go.bits .or .i64 (rd x5_1 (rd t103 x19_1)) (ji23))) t103 (t103.length : Int) (wrap64 (x19_1 + 1))) = some (r1, r2) := by first | (rw [hji23] at H; exact H) | (simp only [hji23] at H ⊢; exact H)
                      have hji23_ : (IntKind.i64.wrap (1 * 2 ^ min x19_1.toNat 64)) = ji23 := hji23
                      have hji23z : x19_1 ≤ 64 → (IntKind.i64.wrap (1 * 2 ^ x19_1.toNat)) = ji23 := shl_small hji23
                      have hji23u : (IntKind.i64.wrap (2 ^ min x19_1.toNat 64)) = ji23 := by have h_ := hji23_; rw [Int.one_mul] at h_; exact h_
                      have hji23v : x19_1 ≤ 64 → (IntKind.i64.wrap (2 ^ x19_1.toNat)) = ji23 := fun hle_ => by have h_ := hji23z hle_; rw [Int.one_mul] at h_; exact h_
                      have hji23y : (wrap64 (1 * 2 ^ min x19_1.toNat 64)) = ji23 := (i64_w _).symm.trans hji23_
                      have hji23x : x19_1 ≤ 64 → (wrap64 (1 * 2 ^ x19_1.toNat)) = ji23 := fun h_ => (i64_w _).symm.trans (hji23z h_)
                      obtain ⟨y112, hy112⟩ : ∃ y_ : List Int, y_ = (x5_1.set ((rd t103 x19_1) : Int).toNat (Go.bits .or .i64 (rd x5_1 (rd t103 x19_1)) (ji23))) := ⟨_, rfl⟩
                      replace H : (fixes_Classes.l0 k1 y112 t103 (t103.length : Int) (wrap64 (x19_1 + 1))) = some (r1, r2) := by first | (rw [hy112]; with_reducible exact H) | (have H2_ := (Option.bind_some _ _).symm.trans H; rw [hy112]; with_reducible exact H2_) | (have H2_ := (Option.bind_some _ _).symm.trans H; with_reducible exact H2_) | with_reducible exact H | (rw [hy112]; exact H) | exact H
                      have Ny112 := Aside0.mk hy112
                      clear hy112
                      have H' := Aside0.mk H
                      clear H
                      have p110 : 0 ≤ (x19_1 : Int) := of_decide_eq_true (by first | (with_reducible assumption) | assumption)
                      have q110 : x19_1 < (t103.length : Int) := of_decide_eq_true (by first | (with_reducible assumption) | assumption)
                      obtain ⟨ad110, e110, hx110_0⟩ := Kd.at_int (Kd.R_reads' HO_17.out).2.2 x19_1 p110 q110
                      cases e110
                      replace p110 := eq_true p110
                      replace q110 := eq_true q110
                      try go_wp2
                      have n0_ := Aside0.mk (Kd.R_drew HO_5.out)
                      have n1_ := Aside0.mk (Kd.R_drew HO_17.out)
                      have n2_ := Aside0.mk (blk_drew BK101.out)
                      have n3_ := Aside0.mk (below_drew1 HB.out)
                      clear HO_5
                      clear HO_17
                      clear BK101
                      clear HB
                      have HO_5 := n0_
                      have HO_17 := n1_
                      have BK101 := n2_
                      have HB := n3_
                      clear n0_ n1_ n2_ n3_
                      obtain ⟨Ao26, co26, eo26⟩ := Kd.R_slice HO_5.out
                      (first | subst eo26 | (injection eo26 with f1_ f2_ f3_; have f4_ := f1_.symm; have f5_ := f3_.symm; clear f1_ f2_ f3_; subst f4_; subst f5_))
                      have p111 : 0 ≤ ((rd t103 x19_1) : Int) := of_decide_eq_true (by first | (with_reducible assumption) | assumption)
                      have q111 : (rd t103 x19_1) < (x5_1.length : Int) := of_decide_eq_true (by first | (with_reducible assumption) | assumption)
                      obtain ⟨ad111, e111, hx111_0⟩ := Kd.at_int (Kd.R_reads' HO_5.out).2.2 (rd t103 x19_1) p111 q111
                      cases e111
                      replace p111 := eq_true p111
                      replace q111 := eq_true q111
                      have p24 : 0 ≤ ((rd t103 x19_1) : Int) := of_decide_eq_true (by first | (with_reducible assumption) | assumption)
                      have q24 : ((rd t103 x19_1) : Int) < ((x5_1.length : Int) : Int) := of_decide_eq_true (by first | (with_reducible assumption) | assumption)
                      obtain ⟨go24, co24, eo24, gb24, gl24, cl24, HG24⟩ := Kd.R_form HO_5.out (by omega)
                      (first | cases eo24 | (injection eo24 with ea_ en_ ec_; (first | subst ea_ | (injection ea_ with ea_; subst ea_)); subst ec_; clear en_))
                      have GB24 := Aside0.mk gb24
                      have GG24 := Aside0.mk HG24
                      clear gb24 gl24 HG24
                      (first | simp only [add_plain] at hx111_0 | skip)
                      obtain ⟨hx24_0, hf24_0⟩ := Kd.R_celln 0 HO_5.out ((rd t103 x19_1) : Int) p24 q24
                      replace p24 := eq_true p24
                      replace q24 := eq_true q24
                      have HP27 := Kd.R_putn HO_5.out ((rd t103 x19_1) : Int) (Go.bits .or .i64 (rd x5_1 (rd t103 x19_1)) (ji23))
                      rw [← Ny112.out] at HP27
                      have HQ27 := Aside0.mk HP27
                      clear HP27
                      refine start_ (n := 9) (S := fun w' => w'.cell? ⟨go24, ((rd t103 x19_1)).toNat, none⟩ = some (.int .i64 (rd x5_1 (rd t103 x19_1)))) (ds := [8]) #[false, false, false, false, false, false, false, false, false] (by kernel_rfl) rfl rfl (hx111_0) (fun hHeld => ?_); refine with_tabW fixes_Classes.tab8 fixes_Classes.bits8 (fun HT_ HW_ => ?_)
                      generalize wr.drew = w25 at HO_5 HO_17 BK101 HB GG24 HQ27 hf24_0 hx111_0 hx24_0 hHeld ⊢
                      refine pure_ (i := 0) (N := some 24) (v := ?_) (a' := ?_) #[true, false, false, false, false, false, false, false, false] rfl rfl (any_of HT_.out (by kernel_rfl)) (fun _ _ _ h => h) (Or.inl ⟨by rfl, ?_⟩) ?_ ?_
                      rotate_left
                      · intro w'
                        go_simp
                        with_reducible rfl
                      rotate_left
                      · simp only [Act.put, List.setIfInBounds_toArray, List.set_cons_zero, List.set_cons_succ, i64_w, i32_w]
                        rfl
                      refine pure_ (i := 1) (N := some 25) (v := ?_) (a' := ?_) #[true, true, false, false, false, false, false, false, false] rfl rfl (any_of HT_.out (by kernel_rfl)) (fun _ _ _ h => h) (Or.inl ⟨by rfl, ?_⟩) ?_ ?_
                      rotate_left
                      · intro w'
                        go_simp
                        with_reducible rfl
                      rotate_left
                      · simp only [Act.put, List.setIfInBounds_toArray, List.set_cons_zero, List.set_cons_succ, i64_w, i32_w]
                        rfl
                      refine pure_ (i := 2) (N := some 26) (v := ?_) (a' := ?_) #[true, true, true, false, false, false, false, false, false] rfl rfl (any_of HT_.out (by kernel_rfl)) (fun _ _ _ h => h) (Or.inl ⟨by rfl, ?_⟩) ?_ ?_
                      rotate_left
                      · intro w'
                        go_simp
                        with_reducible rfl
                      rotate_left
                      · simp only [Act.put, List.setIfInBounds_toArray, List.set_cons_zero, List.set_cons_succ, i64_w, i32_w]
                        rfl
                      refine pure_ (i := 4) (N := some 28) (v := ?_) (a' := ?_) #[true, true, true, false, true, false, false, false, false] rfl rfl (any_of HT_.out (by kernel_rfl)) (fun _ _ _ h => h) (Or.inl ⟨by rfl, ?_⟩) ?_ ?_
                      rotate_left
                      · intro w'
                        go_simp
                        with_reducible rfl
                      rotate_left
                      · simp only [Act.put, List.setIfInBounds_toArray, List.set_cons_zero, List.set_cons_succ, i64_w, i32_w]
                        rfl
                      refine pure_ (i := 5) (N := some 29) (v := ?_) (a' := ?_) #[true, true, true, false, true, true, false, false, false] rfl rfl (any_of HT_.out (by kernel_rfl)) (fun _ _ _ h => h) (Or.inl ⟨by rfl, ?_⟩) ?_ ?_
                      rotate_left
                      · intro w'
                        go_simp
                        with_reducible rfl
                      rotate_left
                      · simp only [Act.put, List.setIfInBounds_toArray, List.set_cons_zero, List.set_cons_succ, i64_w, i32_w]
                        rfl
                      refine take_ (i := 3) (N := some 27) (v := ?_) (a' := ?_) #[true, true, true, true, true, true, false, false, false] rfl rfl (take_ofW HT_.out HW_.out (by kernel_rfl)) (fun _ _ _ h => h) (Or.inl ⟨by rfl, ?_⟩) hHeld ?_ ?_
                      rotate_left
                      · intro w' s0
                        go_simp
                        with_reducible rfl
                      rotate_left
                      · simp only [Act.put, List.setIfInBounds_toArray, List.set_cons_zero, List.set_cons_succ, i64_w, i32_w]
                        rfl
                      refine pure_ (i := 6) (N := some 30) (v := ?_) (a' := ?_) #[true, true, true, true, true, true, true, false, false] rfl rfl (any_of HT_.out (by kernel_rfl)) (fun _ _ _ h => h) (Or.inl ⟨by rfl, ?_⟩) ?_ ?_
                      rotate_left
                      · intro w'
                        go_simp
                        with_reducible rfl
                      rotate_left
                      · simp only [Act.put, List.setIfInBounds_toArray, List.set_cons_zero, List.set_cons_succ, i64_w, i32_w]
                        rfl
                      refine pure_ (i := 7) (N := some 31) (v := ?_) (a' := ?_) #[true, true, true, true, true, true, true, true, false] rfl rfl (any_of HT_.out (by kernel_rfl)) (fun _ _ _ h => h) (Or.inl ⟨by rfl, ?_⟩) ?_ ?_
                      rotate_left
                      · intro w'
                        go_simp
                        with_reducible rfl
                      rotate_left
                      · simp only [Act.put, List.setIfInBounds_toArray, List.set_cons_zero, List.set_cons_succ, i64_w, i32_w]
                        rfl
                      refine last_ (i := 8) (N := none) #[true, true, true, true, true, true, true, true, true] rfl rfl (one_of HT_.out (by kernel_rfl)) (by decide) (fun K hK => ?_)
                      refine skip_ (w1 := ?_) (by rfl) rfl ?_ ?_
                      rotate_left
                      · go_simp
                        rfl
                      refine hK.out _ _ ?_
                      clear hK K
                      refine done_ (done_of HT_.out (by kernel_rfl)) ?_
                      try go_wp2
                      go_roundg k1
                      case measure => have := HK1.out; omega
                      case rel => exact ⟨(y112), (wrap64 (x19_1 + 1)), (by first | rfl | (simp; done) | (simp [*]; done)), H', ⟨by have := HK1.out; omega⟩, ⟨by (with_reducible repeat (first | apply Kd.R_alloc | apply Kd.R_drewN | apply Kd.R_drew)); exact HQ27.out⟩, ⟨by (with_reducible repeat (first | apply Kd.R_alloc | apply Kd.R_drewN | apply Kd.R_drew)); exact Kd.R_mono (Kd.R_far (p := ⟨go24, ((rd t103 x19_1) : Int).toNat, none⟩) (Kd.R_mono HO_17.out (fun k_ hk => (⟨hk, fun e_ => hk (by rw [e_]; rfl)⟩ : _ ∧ k_ ≠ go24))) (fun _ hk => hk.2) (.int .i64 (Go.bits .or .i64 (rd x5_1 (rd t103 x19_1)) (ji23)))) (fun _ hk => hk.1)⟩, ⟨by (with_reducible repeat (first | refine blk_drewN ?_ _ | refine blk_drew ?_ | refine blk_alloc ?_ _)); refine blk_far ?_ (by have h_ := Kd.R_ne HO_5.out BK101.out (by decide); intro e_; exact h_ (by rw [e_]; rfl)) _; (with_reducible repeat (first | refine blk_drewN ?_ _ | refine blk_drew ?_ | refine blk_alloc ?_ _)); exact BK101.out⟩, ⟨by repeat (first | (with_reducible first | exact HB.out | apply below_alloc | apply pw_below_drewN | apply below_drew1 | refine below_set ?_ GB24.out | refine below_set ?_ GE101.out) | exact HB.out)⟩⟩
                    · rw [if_neg c21] at H
                      exact absurd H (by simp)
                  · rw [if_neg c20] at H
                    exact absurd H (by simp)
                · rw [if_neg c19] at H
                  exact absurd H (by simp)
              · rw [if_neg c18] at H
                exact absurd H (by simp)
            · rw [if_neg c17] at H
              have c17b0 : decide (x19_1 < (t103.length : Int)) = false := decide_eq_false c17
              clear c17
              simp only [Option.some.injEq, Prod.mk.injEq] at H
              obtain ⟨rfl, rfl⟩ := H
              go_wp2
              go_ret2
              exact ⟨_, by first | rfl | (simp [errW_none, errW_some] <;> rfl) | (simp only [← hji6]; first | rfl | (simp [errW_none, errW_some] <;> rfl)) | (simp [*, errW_none, errW_some] <;> rfl), by (with_reducible repeat (first | apply Kd.R_alloc | apply Kd.R_drewN | apply Kd.R_drew)); exact Kd.R_mono HO_5.out (fun _ hk => trivial), by repeat (first | (with_reducible first | exact HB.out | apply below_alloc | apply pw_below_drewN | apply below_drew1 | refine below_set ?_ GE101.out) | exact HB.out)⟩
      · rw [if_neg c8] at H
        exact absurd H (by simp)
    · rw [if_neg c7] at H
      exact absurd H (by simp)
  · replace c3 := Bool.eq_false_iff.mpr c3
    subst c3
    have H1 : (some (([] : List Int), 2)) = some (r1, r2) := by rw [if_neg (show ¬ (false = true) by decide)] at H; exact H
    clear H
    have H := H1
    clear H1
    simp only [Option.some.injEq, Prod.mk.injEq] at H
    obtain ⟨rfl, rfl⟩ := H
    go_enter Try.func33, Try.ntmps33
    go_wp2_with (first | ((with_reducible refine gate_dst (N := 1) rfl ?_); refine box_event ?hg (N := 1) ?hd (cs := #[.slice A0_0 l0_0.length c0_0, .slice A0_1 l0_1.length c0_1]) (t := 28) ?hr ?_; (case hd => rfl); (case hg => rfl); (case hr => first | (go_simp; done) | (go_simp; rfl)); intro gb101 hg w28 hbox hb; have n0_ := Aside0.mk (below_step (by repeat (first | (with_reducible first | exact HB.out | apply below_alloc | apply pw_below_drewN | apply below_drew1) | exact HB.out)) hb); have n1_ := Aside0.mk (hbox); have n2_ := Aside0.mk ((by rw [hg]; exact (below_size (by repeat (first | (with_reducible first | exact HB.out | apply below_alloc | apply pw_below_drewN | apply below_drew1) | exact HB.out))) : w.heap.size ≤ gb101)); have n3_ := Aside0.mk ((by rw [hg]; exact (below_size (by repeat (first | (with_reducible first | exact HB.out | apply below_alloc | apply pw_below_drewN | apply below_drew1) | exact HB.out))) : w.heap.size ≤ gb101)); clear HB; have HB := n0_; have BK101 := n1_; have GW101 := n2_; have GE101 := n3_; clear n0_ n1_ n2_ n3_; clear hb hbox hg; have hcz29_0 : w28.cell? ⟨gb101, 0, none⟩ = some (.slice A0_0 l0_0.length c0_0) := (blk_cell BK101.out 0).trans rfl; have hcz29_1 : w28.cell? ⟨gb101, 1, none⟩ = some (.slice A0_1 l0_1.length c0_1) := (blk_cell BK101.out 1).trans rfl; have hfz29_0 := blk_frozen BK101.out 0; have hfz29_1 := blk_frozen BK101.out 1) | ((with_reducible refine gate_callee (f := 61) rfl ?_); refine goesL_ (some 9) rfl rfl Try.func61 (by kernel_rfl) rfl #[.agg #[.slice A0_0 l0_0.length c0_0, .slice A0_1 l0_1.length c0_1]] rfl (by (try simp only [List.map_toArray, List.map_cons, List.map_nil]); first | done | rfl | (simp only [List.length_drop, List.length_take]; rfl)) ?_; (with_reducible refine (Go.Proofs.Ytjffhhalmicodaa.PA.fixes_Works_valid.calls _ _ l0_0 _ _ l0_1 false _ ?side1 ?side2 ?side3 ?side4 A2.out).mono ?_); (case side1 => repeat (first | exact (Kd.C_below HR0_0.out HB.out) | (with_reducible refine Kd.C_alloc ?_ _) | (with_reducible refine Kd.C_drewN ?_ _) | (with_reducible refine Kd.C_drew ?_))); (case side2 => exact HC0_0.out); (case side3 => repeat (first | exact (Kd.C_below HR0_1.out HB.out) | (with_reducible refine Kd.C_alloc ?_ _) | (with_reducible refine Kd.C_drewN ?_ _) | (with_reducible refine Kd.C_drew ?_))); (case side4 => exact HC0_1.out); rintro e w30 ⟨rfl, hb⟩; refine ⟨_, rfl, ?_⟩; have n0_ := Aside0.mk (blk_below (g := gb101) (o := .cells #[.slice A0_0 l0_0.length c0_0, .slice A0_1 l0_1.length c0_1] 28 (0, 0)) (by (with_reducible repeat (first | refine blk_drewN ?_ _ | refine blk_drew ?_ | refine blk_alloc ?_ _)); exact BK101.out) hb); have n1_ := Aside0.mk (below_step (by repeat (first | (with_reducible first | exact HB.out | apply below_alloc | apply pw_below_drewN | apply below_drew1 | refine below_set ?_ GE101.out) | exact HB.out)) hb); clear BK101; clear HB; have BK101 := n0_; have HB := n1_; clear n0_ n1_; (try clear hb); (try clear hb2); (try clear hk); (try clear hi)))
    go_ret2
    exact ⟨_, by first | rfl | (simp [errW_none, errW_some] <;> rfl) | (simp [*, errW_none, errW_some] <;> rfl), by first | exact Kd.R_nil _ _ _ _ _ | exact Kd.N_nil _ _ _ _ _ | exact Kd.V_nil _ _ _ _ _ | exact Kd.Q_nil _ _ _ _ _ | exact Kd.S_nil _ _ _ _ _, by repeat (first | (with_reducible first | exact HB.out | apply below_alloc | apply pw_below_drewN | apply below_drew1 | refine below_set ?_ GE101.out) | exact HB.out)⟩
end Go.Proofs.Ytjffhhalmicodaa.PF
end

section
set_option linter.unusedVariables false
namespace Go.Proofs.Ytjffhhalmicodaa.L
open Go.RowKit Go.Proofs.YtjffhhalmicodaaW.PrintWords Go.Proofs.YtjffhhalmicodaaW.PrintLast Go.Proofs.YtjffhhalmicodaaW.PrintMore Go.Proofs.Ytjffhhalmicodaa.X Go.Proofs.Ytjffhhalmicodaa.PF
theorem rd_set {L : List Int} {s : Nat} (hs : s < L.length) (x : Int) (i : Nat) : rd (L.set s x) i = if i = s then x else rd L i := by
  unfold rd
  rw [Int.toNat_natCast, List.getD_eq_getElem?_getD, List.getElem?_set, List.getD_eq_getElem?_getD]
  by_cases h : s = i
  · subst h
    simp [hs]
  · have h' : ¬ i = s := fun e => h e.symm
    simp [h, h']
theorem rd_rep (n : Nat) (i : Nat) : rd (List.replicate n 0) (i : Int) = 0 := by
  unfold rd
  rw [List.getD_eq_getElem?_getD, List.getElem?_replicate]
  split <;> rfl
end Go.Proofs.Ytjffhhalmicodaa.L
end

section
set_option linter.unusedVariables false
set_option linter.unusedSimpArgs false
namespace Go.Proofs.Ytjffhhalmicodaa.L
open Go.RowKit Go.Proofs.YtjffhhalmicodaaW.PrintWords Go.Proofs.YtjffhhalmicodaaW.PrintLast Go.Proofs.YtjffhhalmicodaaW.PrintMore Go.Proofs.Ytjffhhalmicodaa.X
open Go.Proofs.Ytjffhhalmicodaa.PB (comfitref08_read.f comfitref08_read.j0 comfitref08_read.j1 comfitref08_read.j2 comfitref08_read.j3 comfitref08_read.j4)
open Go.Proofs.Ytjffhhalmicodaa.PA (comfitref08_digit.f comfitref08_letter.f)
def dep : Fm → Nat
  | .mark _ _ => 0
  | .con _ => 0
  | .var _ => 0
  | .two _ a b => max (dep a) (dep b)
  | .one _ a => dep a + 1
  | .fix _ _ a => dep a
def MayOk (may : Int) (b : List Nat) : Prop := InS 3 may ∧ ∀ c, 120 ≤ c → c ≤ 122 → (tb may (c - 120) = true ↔ c ∈ b)
theorem digit_in {c : Nat} (h : isMk c = true) : comfitref08_digit.f (c : Int) = some ((c : Int) - 48) := by
  have := isMk_iff.1 h
  rw [comfitref08_digit.f, if_pos (by omega), if_pos (by omega)]
  congr 1
  omega
theorem digit_out {c : Nat} (h : isMk c = false) : comfitref08_digit.f (c : Int) = some (-1) := by
  have : ¬ (48 ≤ c ∧ c ≤ 51) := fun e => by rw [isMk_iff.2 e] at h; cases h
  rw [comfitref08_digit.f]
  by_cases h1 : (c : Int) ≥ 48
  · rw [if_pos h1, if_neg (by omega)]
  · rw [if_neg h1]
theorem letter_in {c : Nat} (h : isLt c = true) : comfitref08_letter.f (c : Int) = some (((c - 120 : Nat) : Int)) := by
  have := isLt_iff.1 h
  rw [comfitref08_letter.f, if_pos (by omega), if_pos (by omega)]
  congr 1
  omega
theorem letter_out {c : Nat} (h : isLt c = false) : comfitref08_letter.f (c : Int) = some (-1) := by
  have : ¬ (120 ≤ c ∧ c ≤ 122) := fun e => by rw [isLt_iff.2 e] at h; cases h
  rw [comfitref08_letter.f]
  by_cases h1 : (c : Int) ≥ 120
  · rw [if_pos h1, if_neg (by omega)]
  · rw [if_neg h1]
theorem may_bit {may : Int} {b : List Nat} (h : MayOk may b) {c : Nat} (h1 : 120 ≤ c) (h2 : c ≤ 122) : Go.bits .and .i64 (shr .i64 may ((c - 120 : Nat) : Int)) 1 = if c ∈ b then 1 else 0 := by
  have hm := h.1
  have e : shr .i64 may ((c - 120 : Nat) : Int) = may / 2 ^ (c - 120) := by
    unfold shr
    rw [show min ((c - 120 : Nat) : Int).toNat IntKind.i64.bits = c - 120 by simp [IntKind.bits]; omega]
  rw [e, markOf_val hm.1 (by have := hm.2; have : (2 : Int) ^ 3 = 8 := by decide
                             omega) (by omega)]
  by_cases hc : c ∈ b
  · rw [if_pos ((h.2 c h1 h2).2 hc), if_pos hc]
  · rw [if_neg (fun g => hc ((h.2 c h1 h2).1 g)), if_neg hc]
theorem may_put {may : Int} {b : List Nat} (h : MayOk may b) {c : Nat} (h1 : 120 ≤ c) (h2 : c ≤ 122) : MayOk (Go.bits .or .i64 may (shl .i64 1 ((c - 120 : Nat) : Int))) (b ++ [c]) := by
  rw [shl1 (by omega)]
  have hq : InS 3 (((2 ^ (c - 120) : Nat) : Int)) := inS_of (Nat.pow_lt_pow_right (by decide) (by omega))
  refine ⟨or_in (by omega) h.1 hq, fun d h3 h4 => ?_⟩
  rw [tb_or (by omega) (by omega) h.1 hq, tb_nat, Nat.testBit_two_pow, Bool.or_eq_true, h.2 d h3 h4, decide_eq_true_eq, List.mem_append, List.mem_singleton]
  constructor
  · rintro (g | g)
    · exact .inl g
    · exact .inr (by omega)
  · rintro (g | g)
    · exact .inl g
    · exact .inr (by omega)
theorem drop_bt {s : ByteArray} {i c : Nat} {l : List Nat} (h : (cs s).drop i = c :: l) : i < s.size ∧ bt s (i : Int) = (c : Int) ∧ (cs s).drop (i + 1) = l ∧ l.length = s.size - (i + 1) ∧ c < 256 := by
  obtain ⟨h1, h2, h3⟩ := drop_at h
  have e : bt s (i : Int) = (c : Int) := by
    rw [← h2 h1]
    unfold bt
    simp [h1]
  refine ⟨h1, e, h3, ?_, ?_⟩
  · rw [← h3, List.length_drop, cs_length]
  · have := bt_range s (i : Int)
    omega
def ROut (s : ByteArray) (o : Option (Fm × List Nat)) (e : Int) (d : Int) : Prop := match o with
  | some (f, r) => e = (s.size : Int) - r.length ∧ d = dep f
  | none => e = -1
def RO (s : ByteArray) (n : Nat) : Prop := ∀ (i : Nat) (may : Int) (b l : List Nat), (cs s).drop i = l → i ≤ s.size → l.length < n → MayOk may b → ∃ k e d, comfitref08_read.f k s (i : Int) may = some (e, d) ∧ 0 ≤ d ∧ d ≤ l.length ∧ ROut s (parse n l b) e d
def parseDash (l : List Nat) : Option (Fm × List Nat) := match l with
  | d :: r => if isMk d = true then some (.mark true (d - 48), r) else none
  | [] => none
theorem parse_cons (n c : Nat) (l b : List Nat) : parse (n + 1) (c :: l) b = if isMk c = true then some (.mark false (c - 48), l)
    else if c = 45 then parseDash l
    else if c = 116 ∨ c = 102 then some (.con c, l)
    else if isLt c = true then (if c ∈ b then some (.var c, l) else none)
    else if c = 109 ∨ c = 103 then parseFix n c l b
    else if c = 38 ∨ c = 124 then (parse n l b).bind fun p => (parse n p.2 b).bind fun q => some (.two c p.1 q.1, q.2)
    else if c = 60 ∨ c = 91 then (parse n l b).bind fun p => some (.one c p.1, p.2)
    else none := by
  cases l <;> rfl
theorem w1 {s : ByteArray} (hsz : s.size ≤ 1000000) {i : Nat} (hi : i ≤ s.size) : wrap64 ((i : Int) + 1) = ((i + 1 : Nat) : Int) := by unfold wrap64; omega
theorem w2 {s : ByteArray} (hsz : s.size ≤ 1000000) {i : Nat} (hi : i ≤ s.size) : wrap64 ((i : Int) + 2) = ((i + 2 : Nat) : Int) := by unfold wrap64; omega
theorem read_mono (k : Nat) (s : ByteArray) (i may : Int) : LeO (comfitref08_read.f k s i may) (comfitref08_read.f (k + 1) s i may) := (PB.comfitref08_read.mono_l k).1 s i may
theorem read_all (s : ByteArray) (hsz : s.size ≤ 1000000) : ∀ n, RO s n := by
  intro n
  induction n with
  | zero => intro i may b l _ _ h; omega
  | succ n ih =>
    intro i may b l hl hi hn hm
    cases l with
    | nil =>
      have : s.size ≤ i := by
        have := congrArg List.length hl
        rw [List.length_drop, cs_length] at this
        simp at this
        omega
      refine ⟨1, -1, 0, ?_, by omega, by simp, ?_⟩
      · rw [comfitref08_read.f, if_pos (by omega)]
      · rw [parse]; rfl
    | cons c l =>
      obtain ⟨hlt, hb, hd, hll, h256⟩ := drop_bt hl
      have hw1 := w1 hsz hi
      have hw2 := w2 hsz hi
      have hge : ¬ ((i : Int) ≥ (s.size : Int)) := by omega
      have hi0 : (0 : Int) ≤ (i : Int) := by omega
      have hi1 : (i : Int) < (s.size : Int) := by omega
      have hlen : s.size = l.length + (i + 1) := by omega
      by_cases h1 : isMk c = true
      · refine ⟨2, (i : Int) + 1, 0, ?_, by omega, by simp; omega, ?_⟩
        · rw [comfitref08_read.f, if_neg hge, if_pos hi0, if_pos hi1, hb, digit_in h1]
          have := isMk_iff.1 h1
          simp only [Option.bind_some]
          rw [if_pos (by omega), comfitref08_read.j0, if_pos rfl, hw1]
          simp
        · rw [parse_cons, if_pos h1]
          exact ⟨by omega, rfl⟩
      · have h1f : isMk c = false := by simpa using h1
        by_cases h3 : c = 116 ∨ c = 102
        · refine ⟨2, (i : Int) + 1, 0, ?_, by omega, by simp; omega, ?_⟩
          · rw [comfitref08_read.f, if_neg hge, if_pos hi0, if_pos hi1, hb, digit_out h1f]
            simp only [Option.bind_some]
            rw [if_neg (by decide)]
            rcases h3 with rfl | rfl
            · rw [if_pos (by decide), comfitref08_read.j0, if_pos rfl, hw1]
              simp
            · rw [if_neg (by decide), if_pos (by decide), comfitref08_read.j0, if_pos rfl, hw1]
              simp
          · rw [parse_cons, if_neg h1, if_neg (by omega), if_pos h3]
            exact ⟨by omega, rfl⟩
        · by_cases h4 : isLt c = true
          · have hlc := isLt_iff.1 h4
            have hbit := may_bit hm hlc.1 hlc.2
            by_cases h5 : c ∈ b
            · refine ⟨2, (i : Int) + 1, 0, ?_, by omega, by simp; omega, ?_⟩
              · rw [comfitref08_read.f, if_neg hge, if_pos hi0, if_pos hi1, hb, digit_out h1f]
                simp only [Option.bind_some]
                rw [if_neg (by decide), if_neg (by omega), if_neg (by omega), letter_in h4]
                simp only [Option.bind_some]
                rw [if_pos (by omega), if_pos (by omega), hbit, if_pos h5, comfitref08_read.j0, if_pos (by decide), hw1]
                simp
              · rw [parse_cons, if_neg h1, if_neg (by omega), if_neg h3, if_pos h4, if_pos h5]
                exact ⟨by omega, rfl⟩
            · refine ⟨6, -1, 0, ?_, by omega, by simp; omega, ?_⟩
              · rw [comfitref08_read.f, if_neg hge, if_pos hi0, if_pos hi1, hb, digit_out h1f]
                simp only [Option.bind_some]
                rw [if_neg (by decide), if_neg (by omega), if_neg (by omega), letter_in h4]
                simp only [Option.bind_some]
                rw [if_pos (by omega), if_pos (by omega), hbit, if_neg h5]
                rw [comfitref08_read.j0, if_neg (by decide), if_neg (by omega), comfitref08_read.j1, if_neg (by decide), if_neg (by omega)]
                rw [show ((c : Int) == 124) = false from by simp; omega]
                rw [comfitref08_read.j2, if_neg (by decide), if_neg (by omega), show ((c : Int) == 91) = false from by simp; omega, comfitref08_read.j3, if_neg (by decide), if_neg (by omega), if_neg (by omega), comfitref08_read.j4, if_neg (by decide)]
              · rw [parse_cons, if_neg h1, if_neg (by omega), if_neg h3, if_pos h4, if_neg h5]
                rfl
          · have h4f : isLt c = false := by simpa using h4
            have hnl := h4
            rw [isLt_iff] at hnl
            have start : ∀ k, comfitref08_read.f (k + 1) s (i : Int) may = comfitref08_read.j0 k s (i : Int) may (c : Int) false := by
              intro k
              rw [comfitref08_read.f, if_neg hge, if_pos hi0, if_pos hi1, hb, digit_out h1f]
              simp only [Option.bind_some]
              rw [if_neg (by decide), if_neg (by omega), if_neg (by omega), letter_out h4f]
              simp only [Option.bind_some]
              rw [if_neg (by decide)]
            by_cases h2 : c = 45
            · subst h2
              have j1f : ∀ k, comfitref08_read.j1 (k + 4) s (i : Int) may 45 false = some (-1, 0) := by
                intro k
                rw [comfitref08_read.j1, if_neg (by decide), if_neg (by decide), show ((45 : Int) == 124) = false from rfl, comfitref08_read.j2, if_neg (by decide), if_neg (by decide), show ((45 : Int) == 91) = false from rfl, comfitref08_read.j3, if_neg (by decide), if_neg (by decide), if_neg (by decide), comfitref08_read.j4, if_neg (by decide)]
              cases l with
              | nil =>
                refine ⟨6, -1, 0, ?_, by omega, by simp, ?_⟩
                · rw [start, comfitref08_read.j0, if_neg (by decide), if_pos (by rfl), hw1, if_neg (by simp at hlen; omega)]
                  exact j1f 0
                · rw [parse_cons, if_neg h1, if_pos rfl]
                  rfl
              | cons d r =>
                obtain ⟨hlt2, hb2, hd2, hll2, _⟩ := drop_bt hd
                have hp1 : ((i + 1 : Nat) : Int) < (s.size : Int) := by omega
                have hp0 : (0 : Int) ≤ ((i + 1 : Nat) : Int) := by omega
                by_cases h5 : isMk d = true
                · refine ⟨3, (i : Int) + 2, 0, ?_, by omega, by simp; omega, ?_⟩
                  · rw [start, comfitref08_read.j0, if_neg (by decide), if_pos (by rfl), hw1, if_pos hp1, if_pos hp0, hb2, digit_in h5]
                    simp only [Option.bind_some]
                    have := isMk_iff.1 h5
                    rw [comfitref08_read.j1, if_pos (by simp; omega), hw2]
                    simp
                  · rw [parse_cons, if_neg h1, if_pos rfl]
                    simp only [parseDash]
                    rw [if_pos h5]
                    exact ⟨by omega, rfl⟩
                · have h5f : isMk d = false := by simpa using h5
                  refine ⟨6, -1, 0, ?_, by omega, by simp; omega, ?_⟩
                  · rw [start, comfitref08_read.j0, if_neg (by decide), if_pos (by rfl), hw1, if_pos hp1, if_pos hp0, hb2, digit_out h5f]
                    simp only [Option.bind_some]
                    rw [show (decide ((-1 : Int) ≥ 0)) = false from rfl]
                    exact j1f 0
                  · rw [parse_cons, if_neg h1, if_pos rfl]
                    simp only [parseDash]
                    rw [if_neg h5]
                    rfl
            · have st1 : ∀ k, comfitref08_read.f (k + 2) s (i : Int) may = comfitref08_read.j1 k s (i : Int) may (c : Int) false := by
                intro k
                rw [start, comfitref08_read.j0, if_neg (by decide), if_neg (by omega)]
              by_cases h7 : c = 38 ∨ c = 124
              · have st2 : ∀ k, comfitref08_read.f (k + 4) s (i : Int) may = (comfitref08_read.f k s ((i + 1 : Nat) : Int) may).bind fun bt105 => (if bt105.1 < 0 then (some ((-1), 0)) else ((comfitref08_read.f k s bt105.1 may).bind fun bt107 => (some (bt107.1, mx bt105.2 bt107.2)))) := by
                  intro k
                  rw [st1, comfitref08_read.j1, if_neg (by decide)]
                  rcases h7 with rfl | rfl
                  · rw [if_pos (by rfl), comfitref08_read.j2, if_pos rfl, hw1]
                  · rw [if_neg (by decide), comfitref08_read.j2, if_pos (by rfl), hw1]
                obtain ⟨k1, e1, d1, g1, g2, g3, g4⟩ := ih (i + 1) may b l hd (by omega) (by simp at hn; omega) hm
                have hpc : parse (n + 1) (c :: l) b = (parse n l b).bind fun p => (parse n p.2 b).bind fun q => some (.two c p.1 q.1, q.2) := by
                  rw [parse_cons, if_neg h1, if_neg h2, if_neg h3, if_neg h4, if_neg (by omega), if_pos h7]
                rw [hpc]
                cases hp : parse n l b with
                | none =>
                  rw [hp] at g4
                  obtain rfl : e1 = -1 := g4
                  refine ⟨k1 + 4, -1, 0, ?_, by omega, by simp; omega, rfl⟩
                  rw [st2, g1]
                  simp only [Option.bind_some]
                  rw [if_pos (by decide)]
                | some p =>
                  rw [hp] at g4
                  obtain ⟨q1, q2⟩ := (g4 : e1 = (s.size : Int) - p.2.length ∧ d1 = dep p.1)
                  have hlen2 := parse_len _ _ _ _ _ hp
                  have hdr := (parse_str _ _ _ _ _ hp).1
                  have hdrop : (cs s).drop (s.size - p.2.length) = p.2 := by
                    rw [← cs_length, show (cs s).length - p.2.length = (i + 1) + (l.length - p.2.length) by rw [cs_length]; omega, ← List.drop_drop, hd]
                    rw [hdr, List.length_append, Nat.add_sub_cancel]
                    simp
                  obtain ⟨k2, e2, d2, g5, g6, g7, g8⟩ := ih (s.size - p.2.length) may b p.2 hdrop (by omega) (by simp at hn; omega) hm
                  have he1 : e1 = ((s.size - p.2.length : Nat) : Int) := by omega
                  have hrun : comfitref08_read.f (max k1 k2 + 4) s (i : Int) may = some (e2, mx d1 d2) := by
                    rw [st2, lift (fun k => read_mono k s _ _) g1 (Nat.le_max_left k1 k2)]
                    simp only [Option.bind_some]
                    rw [if_neg (by omega), he1, lift (fun k => read_mono k s _ _) g5 (Nat.le_max_right k1 k2)]
                    rfl
                  refine ⟨max k1 k2 + 4, e2, mx d1 d2, hrun, ?_, ?_, ?_⟩
                  · unfold mx; split <;> omega
                  · simp only [List.length_cons]; unfold mx; split <;> omega
                  · simp only [Option.bind_some]
                    cases hq : parse n p.2 b with
                    | none =>
                      rw [hq] at g8
                      exact g8
                    | some q =>
                      rw [hq] at g8
                      obtain ⟨q3, q4⟩ := (g8 : e2 = (s.size : Int) - q.2.length ∧ d2 = dep q.1)
                      refine ⟨q3, ?_⟩
                      show mx d1 d2 = ((max (dep p.1) (dep q.1) : Nat) : Int)
                      unfold mx
                      split <;> omega
              · have st2 : ∀ k, comfitref08_read.f (k + 4) s (i : Int) may = if c = 60 then (comfitref08_read.j3 k s (i : Int) may (c : Int) true) else (comfitref08_read.j3 k s (i : Int) may (c : Int) ((c : Int) == 91)) := by
                  intro k
                  rw [st1, comfitref08_read.j1, if_neg (by decide), if_neg (by omega), show ((c : Int) == 124) = false by simp; omega, comfitref08_read.j2, if_neg (by decide)]
                  by_cases h : c = 60
                  · rw [if_pos h, if_pos (by omega)]
                  · rw [if_neg h, if_neg (by omega)]
                by_cases h8 : c = 60 ∨ c = 91
                · have st3 : ∀ k, comfitref08_read.f (k + 5) s (i : Int) may = (comfitref08_read.f k s ((i + 1 : Nat) : Int) may).bind fun bt109 => (some (bt109.1, wrap64 (bt109.2 + 1))) := by
                    intro k
                    rw [st2 (k + 1)]
                    rcases h8 with rfl | rfl
                    · rw [if_pos rfl, comfitref08_read.j3, if_pos rfl, hw1]
                    · rw [if_neg (by decide), comfitref08_read.j3, if_pos (by rfl), hw1]
                  obtain ⟨k1, e1, d1, g1, g2, g3, g4⟩ := ih (i + 1) may b l hd (by omega) (by simp at hn; omega) hm
                  have hpc : parse (n + 1) (c :: l) b = (parse n l b).bind fun p => some (.one c p.1, p.2) := by
                    rw [parse_cons, if_neg h1, if_neg h2, if_neg h3, if_neg h4, if_neg (by omega), if_neg h7, if_pos h8]
                  rw [hpc]
                  have hwd : wrap64 (d1 + 1) = d1 + 1 := by unfold wrap64; omega
                  refine ⟨k1 + 5, e1, d1 + 1, ?_, by omega, by simp; omega, ?_⟩
                  · rw [st3, g1]
                    simp only [Option.bind_some]
                    rw [hwd]
                  · cases hp : parse n l b with
                    | none =>
                      rw [hp] at g4
                      exact g4
                    | some p =>
                      rw [hp] at g4
                      obtain ⟨q1, q2⟩ := (g4 : e1 = (s.size : Int) - p.2.length ∧ d1 = dep p.1)
                      exact ⟨q1, by show d1 + 1 = ((dep p.1 + 1 : Nat) : Int); omega⟩
                · have st3 : ∀ k, comfitref08_read.f (k + 4) s (i : Int) may = comfitref08_read.j3 k s (i : Int) may (c : Int) false := by
                    intro k
                    rw [st2, if_neg (by omega), show ((c : Int) == 91) = false by simp; omega]
                  by_cases h6 : c = 109 ∨ c = 103
                  · have hpc : parse (n + 1) (c :: l) b = parseFix n c l b := by
                      rw [parse_cons, if_neg h1, if_neg h2, if_neg h3, if_neg h4, if_pos h6]
                    rw [hpc]
                    have hc2 : (c : Int) = 109 ∨ (c : Int) = 103 := by omega
                    cases l with
                    | nil =>
                      refine ⟨6, -1, 0, ?_, by omega, by simp, rfl⟩
                      have hx : ¬ ((i + 1 : Nat) : Int) < (s.size : Int) := by simp at hlen; omega
                      rw [st3 2, comfitref08_read.j3, if_neg (by decide), hw1]
                      rcases hc2 with h | h
                      · rw [if_pos h, if_neg hx, comfitref08_read.j4, if_neg (by decide)]
                      · rw [if_neg (by omega), if_pos h, if_neg hx, comfitref08_read.j4, if_neg (by decide)]
                    | cons x r =>
                      obtain ⟨hlt2, hb2, hd2, hll2, _⟩ := drop_bt hd
                      have hp1 : ((i + 1 : Nat) : Int) < (s.size : Int) := by omega
                      have hp0 : (0 : Int) ≤ ((i + 1 : Nat) : Int) := by omega
                      by_cases hx : isLt x = true
                      · have hlx := isLt_iff.1 hx
                        have hbit := may_bit hm hlx.1 hlx.2
                        have st4 : ∀ k, comfitref08_read.f (k + 5) s (i : Int) may = comfitref08_read.j4 k s (i : Int) may ((Go.bits .and .i64 (shr .i64 may ((x - 120 : Nat) : Int)) 1) == 0) := by
                          intro k
                          have hx0 : ((x - 120 : Nat) : Int) ≥ 0 := by omega
                          have hx1 : 0 ≤ ((x - 120 : Nat) : Int) := by omega
                          rw [st3 (k + 1), comfitref08_read.j3, if_neg (by decide), hw1]
                          rcases hc2 with h | h
                          · rw [if_pos h, if_pos hp1, if_pos hp0, hb2, letter_in hx]
                            simp only [Option.bind_some]
                            rw [if_pos hx0, if_pos hx1]
                          · rw [if_neg (by omega), if_pos h, if_pos hp1, if_pos hp0, hb2, letter_in hx]
                            simp only [Option.bind_some]
                            rw [if_pos hx0, if_pos hx1]
                        by_cases hxb : x ∈ b
                        · refine ⟨6, -1, 0, ?_, by omega, by simp; omega, ?_⟩
                          · rw [st4 1, hbit, if_pos hxb, comfitref08_read.j4, if_neg (by decide)]
                          · simp only [parseFix]
                            rw [if_neg (fun h => h.2 hxb)]
                            rfl
                        · obtain ⟨k1, e1, d1, g1, g2, g3, g4⟩ := ih (i + 2) _ (b ++ [x]) r hd2 (by omega) (by simp at hn; omega) (may_put hm hlx.1 hlx.2)
                          refine ⟨k1 + 6, e1, d1, ?_, by omega, by simp; omega, ?_⟩
                          · rw [st4 (k1 + 1), hbit, if_neg hxb, comfitref08_read.j4, if_pos (by rfl), hw1, if_pos hp0, if_pos hp1, hb2, letter_in hx, hw2]
                            simp only [Option.bind_some]
                            rw [if_pos (by omega), g1]
                            rfl
                          · simp only [parseFix]
                            rw [if_pos ⟨hx, hxb⟩]
                            cases hp : parse n r (b ++ [x]) with
                            | none =>
                              rw [hp] at g4
                              exact g4
                            | some p =>
                              rw [hp] at g4
                              obtain ⟨q1, q2⟩ := (g4 : e1 = (s.size : Int) - p.2.length ∧ d1 = dep p.1)
                              exact ⟨q1, q2⟩
                      · have hxf : isLt x = false := by simpa using hx
                        refine ⟨6, -1, 0, ?_, by omega, by simp; omega, ?_⟩
                        · rw [st3 2, comfitref08_read.j3, if_neg (by decide), hw1]
                          rcases hc2 with h | h
                          · rw [if_pos h, if_pos hp1, if_pos hp0, hb2, letter_out hxf]
                            simp only [Option.bind_some]
                            rw [if_neg (by decide), comfitref08_read.j4, if_neg (by decide)]
                          · rw [if_neg (by omega), if_pos h, if_pos hp1, if_pos hp0, hb2, letter_out hxf]
                            simp only [Option.bind_some]
                            rw [if_neg (by decide), comfitref08_read.j4, if_neg (by decide)]
                        · simp only [parseFix]
                          rw [if_neg (fun h => hx h.1)]
                          rfl
                  · refine ⟨6, -1, 0, ?_, by omega, by simp; omega, ?_⟩
                    · rw [st3 2, comfitref08_read.j3, if_neg (by decide), if_neg (by omega), if_neg (by omega), comfitref08_read.j4, if_neg (by decide)]
                    · rw [parse_cons, if_neg h1, if_neg h2, if_neg h3, if_neg h4, if_neg h6, if_neg h7, if_neg h8]
                      rfl
end Go.Proofs.Ytjffhhalmicodaa.L
end

section
set_option linter.unusedVariables false
set_option linter.unusedSimpArgs false
namespace Go.Proofs.Ytjffhhalmicodaa.L
open Go.RowKit Go.Proofs.YtjffhhalmicodaaW.PrintWords Go.Proofs.YtjffhhalmicodaaW.PrintLast Go.Proofs.YtjffhhalmicodaaW.PrintMore Go.Proofs.Ytjffhhalmicodaa.X
open Go.Proofs.Ytjffhhalmicodaa.PB (comfitref08_Is.f comfitref08_Valid.f comfitref08_Valid.l0 comfitref08_Valid.j0)
open Go.Proofs.Ytjffhhalmicodaa.PA (fixes_Works_valid.f comfitlaw08_Of.f comfitlaw08_list.f comfitlaw08_text.f)
theorem Is_some (a : ByteArray) (h : a.size ≤ 40) : ∃ k, comfitref08_Is.f k a = some (whole (cs a)).isSome := by
  have hd : (cs a).drop 0 = cs a := rfl
  have hm : MayOk 0 [] := ⟨inS_zero 3, fun c h1 h2 => by simp [tb_zero]⟩
  obtain ⟨k, e, d, h1, h2, h3, h4⟩ := read_all a (by omega) ((cs a).length + 1) 0 0 [] (cs a) hd (by omega) (by omega) hm
  refine ⟨k, ?_⟩
  rw [comfitref08_Is.f, if_neg (by omega)]
  rw [show ((0 : Nat) : Int) = 0 from rfl] at h1
  rw [h1]
  simp only [Option.bind_some, Option.some.injEq]
  unfold whole
  cases hp : parse ((cs a).length + 1) (cs a) [] with
  | none =>
    rw [hp] at h4
    obtain rfl : e = -1 := h4
    simp
  | some p =>
    rw [hp] at h4
    obtain ⟨q1, q2⟩ := (h4 : e = (a.size : Int) - p.2.length ∧ d = dep p.1)
    simp only [Option.bind_some]
    by_cases hn : p.2 = []
    · rw [if_pos hn]
      rw [hn] at q1
      simp at q1
      simp [q1]
    · rw [if_neg hn]
      have : p.2.length ≠ 0 := fun h => hn (List.eq_nil_of_length_eq_zero h)
      have : ¬ e = (a.size : Int) := by omega
      simp [this]
theorem Is_long (a : ByteArray) (h : ¬ a.size ≤ 40) (k : Nat) : comfitref08_Is.f k a = some false := by
  rw [comfitref08_Is.f, if_pos (by omega)]
def IsB (a : ByteArray) : Bool := (wholeS 40 a).isSome
theorem Is_eq (a : ByteArray) : ∃ k, comfitref08_Is.f k a = some (IsB a) := by
  unfold IsB wholeS
  by_cases h : a.size ≤ 40
  · rw [if_pos h]; exact Is_some a h
  · rw [if_neg h]; exact ⟨0, Is_long a h 0⟩
def txt (a : ByteArray) : ByteArray := if a.size ≤ 50 then a else a.extract 0 50
theorem text_eq (a : ByteArray) : comfitlaw08_text.f a = some (txt a) := by
  unfold comfitlaw08_text.f txt
  by_cases h : a.size ≤ 50
  · have e : mn (a.size : Int) 50 = a.size := by unfold mn; split <;> omega
    rw [e, if_pos (by omega), if_pos (by omega), if_pos h]
    simp
  · have e : mn (a.size : Int) 50 = 50 := by unfold mn; split <;> omega
    rw [e, if_pos (by omega), if_pos (by omega), if_neg h]
    rfl
theorem txt_whole (a : ByteArray) : wholeS 40 (txt a) = wholeS 40 a := by
  unfold txt wholeS
  by_cases h : a.size ≤ 50
  · rw [if_pos h]
  · rw [if_neg h, if_neg (by rw [ByteArray.size_extract]; omega), if_neg (by omega)]
theorem txt_of {a : ByteArray} (h : IsB a = true) : txt a = a := by
  unfold IsB wholeS at h
  unfold txt
  by_cases h2 : a.size ≤ 40
  · rw [if_pos (by omega)]
  · rw [if_neg h2] at h
    cases h
theorem list_eq (l : List Int) : comfitlaw08_list.f l = some (l.take 9) := by
  unfold comfitlaw08_list.f slices_Clone.f
  by_cases h : l.length ≤ 9
  · have e : mn (l.length : Int) 9 = l.length := by unfold mn; split <;> omega
    rw [e, if_pos (by omega), if_pos (by omega), if_pos (by simp; omega)]
    simp only [Option.bind_some, Option.some.injEq]
    rw [show ((l.length : Int)).toNat = l.length by omega, List.take_of_length_le (by omega), List.take_of_length_le h]
  · have e : mn (l.length : Int) 9 = 9 := by unfold mn; split <;> omega
    rw [e, if_pos (by omega), if_pos (by omega), if_pos (by simp; omega)]
    rfl
theorem Of_eq (nx mk : List Int) : comfitlaw08_Of.f nx mk = some (nx.take 9, mk.take 9) := by
  unfold comfitlaw08_Of.f
  rw [list_eq, list_eq]
  rfl
theorem take_of {nx mk : List Int} (h : VW nx mk) : nx.take 9 = nx ∧ mk.take 9 = mk := by
  have := h.le
  have := h.len
  exact ⟨List.take_of_length_le (by omega), List.take_of_length_le (by omega)⟩
theorem VW_take {nx mk : List Int} : VW (nx.take 9) (mk.take 9) ↔ VW nx mk := by
  constructor
  · intro h
    have h1 := h.le
    have h2 := h.len
    rw [List.length_take] at h1
    rw [List.length_take, List.length_take] at h2
    have e1 : nx.take 9 = nx := List.take_of_length_le (by omega)
    have e2 : mk.take 9 = mk := List.take_of_length_le (by omega)
    rw [e1, e2] at h
    exact h
  · intro h
    rw [(take_of h).1, (take_of h).2]
    exact h
theorem minTo_ge {l : List Int} {b : Int} : ∀ n : Nat, b ≤ minTo l n ↔ ∀ i : Nat, i ≤ n → b ≤ rd l i := by
  intro n
  induction n with
  | zero =>
    exact ⟨fun h i hi => by obtain rfl : i = 0 := by omega
                            exact h, fun h => h 0 (Nat.le_refl _)⟩
  | succ n ih =>
    have e : b ≤ minTo l (n + 1) ↔ b ≤ minTo l n ∧ b ≤ rd l ((n : Int) + 1) := by
      show b ≤ mn _ _ ↔ _
      unfold mn; split <;> omega
    rw [e, ih]
    constructor
    · rintro ⟨h1, h2⟩ i hi
      rcases Nat.lt_or_ge i (n + 1) with h | h
      · exact h1 i (by omega)
      · obtain rfl : i = n + 1 := by omega
        exact h2
    · exact fun h => ⟨fun i hi => h i (by omega), h (n + 1) (Nat.le_refl _)⟩
theorem maxTo_lt {l : List Int} {b : Int} : ∀ n : Nat, maxTo l n < b ↔ ∀ i : Nat, i ≤ n → rd l i < b := by
  intro n
  induction n with
  | zero =>
    exact ⟨fun h i hi => by obtain rfl : i = 0 := by omega
                            exact h, fun h => h 0 (Nat.le_refl _)⟩
  | succ n ih =>
    have e : maxTo l (n + 1) < b ↔ maxTo l n < b ∧ rd l ((n : Int) + 1) < b := by
      show mx _ _ < b ↔ _
      unfold mx; split <;> omega
    rw [e, ih]
    constructor
    · rintro ⟨h1, h2⟩ i hi
      rcases Nat.lt_or_ge i (n + 1) with h | h
      · exact h1 i (by omega)
      · obtain rfl : i = n + 1 := by omega
        exact h2
    · exact fun h => ⟨fun i hi => h i (by omega), h (n + 1) (Nat.le_refl _)⟩
theorem shl_len {l : List Int} (h : l.length ≤ 6) : shl .i64 1 (l.length : Int) = 2 ^ l.length := by
  rw [shl1 (by omega)]
  simp
theorem valid_true {nx mk : List Int} (h : VW nx mk) : fixes_Works_valid.f nx mk = some true := by
  have h1 := h.pos
  have h2 := h.le
  have h3 := h.len
  unfold fixes_Works_valid.f slices_Min.f slices_Max.f
  rw [if_pos (by omega), if_pos (by omega), if_pos (by omega), if_pos (by omega)]
  simp only [Option.bind_some]
  rw [if_pos ((minTo_ge _).2 fun i hi => (h.next i (by omega)).1)]
  rw [if_pos (by omega)]
  simp only [Option.bind_some]
  rw [if_pos (by rw [shl_len h2]; exact (maxTo_lt _).2 fun i hi => (h.next i (by omega)).2)]
  rw [if_pos (by omega)]
  simp only [Option.bind_some]
  rw [if_pos ((minTo_ge _).2 fun i hi => (h.marks i (by omega)).1)]
  rw [if_pos (by omega)]
  simp only [Option.bind_some]
  congr 1
  refine decide_eq_true ((maxTo_lt _).2 fun i hi => ?_)
  have := (h.marks i (by omega)).2
  omega
theorem valid_false {nx mk : List Int} (h : ¬ VW nx mk) : fixes_Works_valid.f nx mk = some false := by
  unfold fixes_Works_valid.f slices_Min.f slices_Max.f
  by_cases h1 : (nx.length : Int) ≥ 1
  · rw [if_pos h1]
    by_cases h2 : (nx.length : Int) ≤ 6
    · rw [if_pos h2]
      by_cases h3 : (mk.length : Int) = (nx.length : Int)
      · rw [if_pos h3, if_pos (by omega)]
        simp only [Option.bind_some]
        by_cases h4 : minTo nx (nx.length - 1) ≥ 0
        · rw [if_pos h4, if_pos (by omega)]
          simp only [Option.bind_some]
          by_cases h5 : maxTo nx (nx.length - 1) < shl .i64 1 (nx.length : Int)
          · rw [if_pos h5, if_pos (by omega)]
            simp only [Option.bind_some]
            by_cases h6 : minTo mk (mk.length - 1) ≥ 0
            · rw [if_pos h6, if_pos (by omega)]
              simp only [Option.bind_some]
              congr 1
              refine decide_eq_false fun h7 => h ?_
              rw [shl_len (by omega)] at h5
              exact ⟨by omega, by omega, by omega, fun i hi => ⟨(minTo_ge _).1 h4 i (by omega), (maxTo_lt _).1 h5 i (by omega)⟩, fun i hi => ⟨(minTo_ge _).1 h6 i (by omega), by have := (maxTo_lt _).1 h7 i (by omega); omega⟩⟩
            · rw [if_neg h6]
          · rw [if_neg h5]
        · rw [if_neg h4]
      · rw [if_neg h3]
    · rw [if_neg h2]
  · rw [if_neg h1]
theorem Valid_loop {nx mk : List Int} (h1 : nx.length ≤ 6) (h2 : mk.length = nx.length) : ∀ d i : Nat, i + d = nx.length → ∃ k r, comfitref08_Valid.l0 k (nx.length : Int) nx (nx.length : Int) (i : Int) nx mk = some r ∧ (r = true ↔ ∀ j : Nat, i ≤ j → j < nx.length → InS nx.length (rd nx j) ∧ 0 ≤ rd mk j ∧ rd mk j ≤ 15) := by
  intro d
  induction d with
  | zero =>
    intro i hi
    refine ⟨1, true, ?_, ?_⟩
    · rw [comfitref08_Valid.l0, if_neg (by omega)]
    · simp only [true_iff]
      intro j hj hj2
      omega
  | succ d ih =>
    intro i hi
    obtain ⟨k, r, hk, hr⟩ := ih (i + 1) (by omega)
    have step : ∀ k, comfitref08_Valid.l0 (k + 1) (nx.length : Int) nx (nx.length : Int) (i : Int) nx mk = if rd nx i < 0 then some false else if rd nx i ≥ 2 ^ nx.length then some false else if rd mk i < 0 then some false else if rd mk i > 15 then some false else comfitref08_Valid.l0 k (nx.length : Int) nx (nx.length : Int) ((i + 1 : Nat) : Int) nx mk := by
      intro k
      rw [comfitref08_Valid.l0, if_pos (by omega), if_pos (by omega), if_pos (by omega), if_pos (show (0 : Int) ≤ (nx.length : Int) by omega), if_pos (show (i : Int) < (mk.length : Int) by omega), shl_len h1]
      rw [show wrap64 ((i : Int) + 1) = ((i + 1 : Nat) : Int) by unfold wrap64; omega]
    by_cases g1 : rd nx i < 0
    · refine ⟨1, false, by rw [step, if_pos g1], ?_⟩
      simp only [Bool.false_eq_true, false_iff]
      intro h
      have := (h i (Nat.le_refl _) (by omega)).1.1
      omega
    · by_cases g2 : rd nx i ≥ 2 ^ nx.length
      · refine ⟨1, false, by rw [step, if_neg g1, if_pos g2], ?_⟩
        simp only [Bool.false_eq_true, false_iff]
        intro h
        have := (h i (Nat.le_refl _) (by omega)).1.2
        omega
      · by_cases g3 : rd mk i < 0
        · refine ⟨1, false, by rw [step, if_neg g1, if_neg g2, if_pos g3], ?_⟩
          simp only [Bool.false_eq_true, false_iff]
          intro h
          have := (h i (Nat.le_refl _) (by omega)).2.1
          omega
        · by_cases g4 : rd mk i > 15
          · refine ⟨1, false, by rw [step, if_neg g1, if_neg g2, if_neg g3, if_pos g4], ?_⟩
            simp only [Bool.false_eq_true, false_iff]
            intro h
            have := (h i (Nat.le_refl _) (by omega)).2.2
            omega
          · refine ⟨k + 1, r, by rw [step, if_neg g1, if_neg g2, if_neg g3, if_neg g4, hk], ?_⟩
            rw [hr]
            constructor
            · intro h j hj hj2
              rcases Nat.lt_or_ge i j with e | e
              · exact h j e hj2
              · obtain rfl : j = i := by omega
                exact ⟨⟨by omega, by omega⟩, by omega, by omega⟩
            · intro h j hj hj2
              exact h j (by omega) hj2
open Classical in
theorem Valid_eq (nx mk : List Int) : ∃ k, comfitref08_Valid.f k nx mk = some (decide (VW nx mk)) := by
  have bad : ¬ VW nx mk → some false = some (decide (VW nx mk)) := fun h => by rw [decide_eq_false h]
  unfold comfitref08_Valid.f
  by_cases h1 : (nx.length : Int) < 1
  · refine ⟨1, ?_⟩
    rw [if_pos h1, comfitref08_Valid.j0, if_pos rfl]
    exact bad fun h => by have := h.pos; omega
  · by_cases h2 : (nx.length : Int) > 6
    · refine ⟨1, ?_⟩
      rw [if_neg h1, if_pos h2, comfitref08_Valid.j0, if_pos rfl]
      exact bad fun h => by have := h.le; omega
    · by_cases h3 : (mk.length : Int) = (nx.length : Int)
      · obtain ⟨k, r, hk, hr⟩ := Valid_loop (nx := nx) (mk := mk) (by omega) (by omega) nx.length 0 (by omega)
        refine ⟨k + 1, ?_⟩
        rw [if_neg h1, if_neg h2, comfitref08_Valid.j0]
        rw [if_neg (by simp [h3])]
        rw [show ((0 : Nat) : Int) = 0 from rfl] at hk
        rw [hk]
        congr 1
        have : r = true ↔ VW nx mk := by
          rw [hr]
          exact ⟨fun h => ⟨by omega, by omega, by omega, fun i hi => (h i (by omega) hi).1, fun i hi => (h i (by omega) hi).2⟩, fun h j _ hj => ⟨h.next j hj, h.marks j hj⟩⟩
        cases r
        · rw [eq_comm, decide_eq_false_iff_not]
          intro h
          have := this.2 h
          cases this
        · rw [eq_comm, decide_eq_true_iff]
          exact this.1 rfl
      · refine ⟨1, ?_⟩
        rw [if_neg h1, if_neg h2, comfitref08_Valid.j0]
        rw [if_pos (by simp; omega)]
        exact bad fun h => by have := h.len; omega
theorem awake_at : PB.comfitlaw08_awake.f 3 = some true := by kernel_rfl
theorem Holds_bad {nx mk : List Int} (h : ¬ VW nx mk) (a : ByteArray) (k : Nat) : fixes_Holds.f k (nx.take 9) (mk.take 9) (txt a) = some (0, 2) := by
  unfold fixes_Holds.f
  rw [valid_false (fun g => h (VW_take.1 g))]
  rfl
theorem Holds_none {nx mk : List Int} (h : VW nx mk) {a : ByteArray} (ha : IsB a = false) (k : Nat) : fixes_Holds.f k (nx.take 9) (mk.take 9) (txt a) = some (0, 3) := by
  unfold fixes_Holds.f
  rw [valid_true (VW_take.2 h), txt_whole]
  unfold IsB at ha
  cases hw : wholeS 40 a with
  | none => rfl
  | some f => rw [hw] at ha; cases ha
theorem wholeS_some {a : ByteArray} (ha : IsB a = true) : ∃ f, wholeS 40 a = some f ∧ whole (cs a) = some f ∧ a.size ≤ 40 := by
  unfold IsB at ha
  cases hw : wholeS 40 a with
  | none => rw [hw] at ha; cases ha
  | some f =>
    refine ⟨f, rfl, ?_⟩
    unfold wholeS at hw
    split at hw
    · rename_i h
      exact ⟨hw, h⟩
    · cases hw
theorem Holds_some {nx mk : List Int} (h : VW nx mk) {a : ByteArray} {f : Fm} (ha : wholeS 40 a = some f) : ∃ k, fixes_Holds.f k (nx.take 9) (mk.take 9) (txt a) = some (V nx mk f (0, 0, 0), 0) ∧ ref_Holds.f k nx mk a = some (V nx mk f (0, 0, 0)) := by
  have hi : IsB a = true := by unfold IsB; rw [ha]; rfl
  obtain ⟨f2, h1, h2, h3⟩ := wholeS_some hi
  rw [ha] at h1
  injection h1 with h1
  subst h1
  obtain ⟨k, m, e1, e2⟩ := both_holds h h2
  refine ⟨k, ?_, ?_⟩
  · unfold fixes_Holds.f
    rw [(take_of h).1, (take_of h).2, valid_true h, txt_of hi, ha]
    simp only [Option.bind_some, if_true]
    rw [e2]
    rfl
  · unfold ref_Holds.f
    rw [if_pos (by omega), h2]
    exact e1
end Go.Proofs.Ytjffhhalmicodaa.L
end

section
set_option linter.unusedVariables false
namespace Go.Proofs.Ytjffhhalmicodaa.L
open Go.RowKit Go.Proofs.YtjffhhalmicodaaW.PrintWords Go.Proofs.YtjffhhalmicodaaW.PrintLast Go.Proofs.YtjffhhalmicodaaW.PrintMore Go.Proofs.Ytjffhhalmicodaa.X Go.Proofs.Ytjffhhalmicodaa.PF
def levs (nx mk : List Int) (j : Nat) : List (List Int) := (List.range (j + 1)).map (lv nx mk)
theorem levs_last (nx mk : List Int) (j : Nat) : (levs nx mk j).getLastD [] = lv nx mk j := by
  unfold levs
  rw [List.range_succ, List.map_append]
  simp
theorem levs_succ (nx mk : List Int) (j : Nat) : levs nx mk (j + 1) = levs nx mk j ++ [lv nx mk (j + 1)] := by
  unfold levs
  rw [List.range_succ, List.map_append]
  rfl
theorem levs_len (nx mk : List Int) (j : Nat) : (levs nx mk j).length = j + 1 := by simp [levs]
theorem lev_loop {nx mk : List Int} {K : Nat} (hK : Last nx mk K) (h6 : K ≤ 100) : ∀ d j, j + d = K → Evr (fun k => levF nx k (levs nx mk j)) (levs nx mk K) := by
  intro d
  induction d with
  | zero =>
    intro j hj
    obtain rfl : j = K := by omega
    refine Evr.step (h := fun _ => some (levs nx mk j)) (fun k => ?_) (Evr.const _)
    rw [levF, if_pos (by rw [levs_len]; omega), levs_last, if_pos]
    exact hK.same
  | succ d ih =>
    intro j hj
    refine Evr.step (fun k => ?_) (ih (j + 1) (by omega))
    rw [levF, if_pos (by rw [levs_len]; omega), levs_last, if_neg, levs_succ]
    · rfl
    · exact hK.first j (by omega)
theorem levels_ev {nx mk : List Int} (hv : VW nx mk) {K : Nat} (hK : Last nx mk K) : Evr (fun k => fixes_levels.f k nx mk) (levs nx mk K) := by
  have h6 := hv.le
  have hl := hK.le hv
  refine Evr.congr (fun k => ?_) (lev_loop hK (by omega) K 0 (by omega))
  unfold fixes_levels.f
  rw [if_pos ⟨by omega, by rw [hv.len]; omega⟩]
  rfl
theorem classes_ev {nx mk : List Int} (hv : VW nx mk) {K : Nat} (hK : Last nx mk K) : Evr (fun k => fixes_classes.f k nx mk) (lv nx mk K) := by
  have hl := hK.le hv
  have h6 := hv.le
  refine Evr.bind (f := fun l _ => if l = [] ∨ 100000 < l.length then none else some (l.getLastD [])) (levels_ev hv hK) ?_
  refine Evr.of_all fun k => ?_
  rw [if_neg, levs_last]
  rintro (h | h)
  · have := levs_len nx mk K
    rw [h] at this
    simp at this
  · rw [levs_len] at h
    omega
def CL (nx mk : List Int) (K : Nat) : List Int := (List.range (nc nx mk K)).map fun (v : Nat) => whereTo (fun s => rd (lv nx mk K) s == (v : Int)) nx.length
theorem CL_len (nx mk : List Int) (K : Nat) : (CL nx mk K).length = nc nx mk K := by simp [CL]
theorem CL_rd {nx mk : List Int} {K v : Nat} (h : v < nc nx mk K) : rd (CL nx mk K) (v : Int) = whereTo (fun s => rd (lv nx mk K) s == (v : Int)) nx.length := by
  simp [rd, CL, List.getD_eq_getElem?_getD, h]
theorem CL_spec {nx mk : List Int} (hv : VW nx mk) {K v : Nat} (h : v < nc nx mk K) : InS nx.length (rd (CL nx mk K) (v : Int)) ∧ ∀ i, tb (rd (CL nx mk K) (v : Int)) i = (decide (i < nx.length) && (rd (lv nx mk K) i == (v : Int))) := by
  rw [CL_rd h]
  exact whereTo_spec _ _ (by have := hv.le; omega)
theorem max_lv {nx mk : List Int} (hv : VW nx mk) (K : Nat) : slices_Max.f (lv nx mk K) = some ((nc nx mk K : Int) - 1) := by
  have hp := hv.pos
  unfold slices_Max.f
  rw [lv_len, if_pos (by omega)]
  have h1 := nc_pos hv K
  have a : maxTo (lv nx mk K) (nx.length - 1) < (nc nx mk K : Int) := (maxTo_lt _).2 fun i hi => by
    rw [lv_rd _ _ _ _ (by omega)]
    exact (cls_range (lkey nx mk K) (by omega)).2
  have b : ¬ maxTo (lv nx mk K) (nx.length - 1) < (nc nx mk K : Int) - 1 := fun h => by
    have h2 := (maxTo_lt _).1 h
    obtain ⟨i, i1, i2, _⟩ := cls_has (lkey nx mk K) nx.length (nc nx mk K - 1) (by unfold nc at h1 ⊢; omega)
    have h3 := h2 i (by omega)
    rw [lv_rd _ _ _ _ i1, i2] at h3
    omega
  congr 1
  omega
theorem shl_pow {s : Nat} (h : s < 62) : shl .i64 1 (s : Int) = wrap64 (2 ^ min s 64) := by
  rw [shl1 h, pow_wrap h]
theorem Classes_loop {nx mk : List Int} (hv : VW nx mk) (K : Nat) : ∀ (d s : Nat) (L : List Int), s + d = nx.length → L.length = nc nx mk K → (∀ v : Nat, v < nc nx mk K → rd L v = whereTo (fun i => rd (lv nx mk K) i == (v : Int)) s) →
    Evr (fun k => fixes_Classes.l0 k L (lv nx mk K) (nx.length : Int) (s : Int)) (CL nx mk K, 0) := by
  have h6 := hv.le
  intro d
  induction d with
  | zero =>
    intro s L hs hL hI
    obtain rfl : s = nx.length := by omega
    have e : L = CL nx mk K := list_ext_rd (by rw [hL, CL_len]) fun i hi => by
      rw [hL] at hi
      rw [hI i hi, CL_rd hi]
    subst e
    refine Evr.step (h := fun _ => some (CL nx mk K, 0)) (fun k => ?_) (Evr.const _)
    simp only [fixes_Classes.l0]
    rw [if_neg (by omega)]
  | succ d ih =>
    intro s L hs hL hI
    have hsn : s < nx.length := by omega
    have hr1 := lv_range (mk := mk) K s hsn
    have hr2 : rd (lv nx mk K) s < nc nx mk K := by
      rw [lv_rd _ _ _ _ hsn]
      exact (cls_range (lkey nx mk K) hsn).2
    obtain ⟨c, hc⟩ := Int.eq_ofNat_of_zero_le hr1.1
    have hcn : c < nc nx mk K := by omega
    refine Evr.step (fun k => ?_) (ih (s + 1) (L.set c (bits .or .i64 (rd L c) (shl .i64 1 (s : Int)))) (by omega) (by rw [List.length_set, hL]) (fun v hvn => ?_))
    · simp only [fixes_Classes.l0]
      rw [if_pos (by omega), if_pos (by omega), if_pos (by rw [lv_len]; omega), hc, if_pos (by omega), if_pos (by omega), wsucc (by omega), Int.toNat_natCast]
    · rw [rd_set (by omega), whereTo]
      by_cases e : v = c
      · subst e
        rw [if_pos rfl, if_pos (by rw [hc]; simp), hI v hvn, shl_pow (by omega)]
      · rw [if_neg e, if_neg (by rw [hc]; simpa using fun q => e (by omega)), hI v hvn]
theorem Classes_ev {nx mk : List Int} (hv : VW nx mk) {K : Nat} (hK : Last nx mk K) : Evr (fun k => fixes_Classes.f k nx mk) (CL nx mk K, 0) := by
  have h1 := nc_pos hv K
  have h2 := nc_le nx mk K
  have h6 := hv.le
  have ew : wrap64 ((nc nx mk K : Int) - 1 + 1) = (nc nx mk K : Int) := by unfold wrap64; omega
  unfold fixes_Classes.f
  simp only [valid_true hv, Option.bind_some, if_true]
  refine Evr.bind (classes_ev hv hK) ?_
  simp only [max_lv hv K, Option.bind_some, ew]
  refine Evr.congr (fun k => ?_) (Classes_loop hv K nx.length 0 (List.replicate (nc nx mk K) 0) (by omega) (by simp) (fun v hvn => by rw [rd_rep]; rfl))
  rw [if_pos (by omega), if_pos (by rw [Int.toNat_natCast]; omega), Int.toNat_natCast, lv_len]
  rfl
theorem pos_of_tb {n : Nat} {a : Int} (h : InS n a) {i : Nat} (hi : tb a i = true) : 0 < a := by
  rcases Int.lt_or_le 0 a with q | q
  · exact q
  · obtain rfl : a = 0 := by have := h.1; omega
    rw [tb_zero] at hi
    cases hi
end Go.Proofs.Ytjffhhalmicodaa.L
end

section
set_option linter.unusedVariables false
namespace Go.Proofs.Ytjffhhalmicodaa.L
open Go.RowKit Go.Proofs.YtjffhhalmicodaaW.PrintWords Go.Proofs.YtjffhhalmicodaaW.PrintLast Go.Proofs.YtjffhhalmicodaaW.PrintMore Go.Proofs.Ytjffhhalmicodaa.X Go.Proofs.Ytjffhhalmicodaa.PF Go.Proofs.Ytjffhhalmicodaa.PA Go.Proofs.Ytjffhhalmicodaa.PB
theorem awake_ev : Evr (fun k => PB.comfitlaw08_awake.f k) true := Evr.of_mono (fun k => PB.comfitlaw08_awake.mono k) ⟨3, awake_at⟩
open Classical in
theorem Valid_ev (nx mk : List Int) : Evr (fun k => PB.comfitref08_Valid.f k nx mk) (decide (VW nx mk)) := Evr.of_mono (fun k => PB.comfitref08_Valid.mono nx mk k) (Valid_eq nx mk)
theorem vw_no {nx mk : List Int} (h : ¬ VW nx mk) : ¬ VW (nx.take 9) (mk.take 9) := fun q => h (VW_take.1 q)
theorem Classes_bad {nx mk : List Int} (h : ¬ VW nx mk) (k : Nat) : fixes_Classes.f k nx mk = some ([], 2) := by
  unfold fixes_Classes.f
  simp only [valid_false h, Option.bind_some]
  rfl
def St (nx : List Int) (a : Int) : Prop := 0 ≤ a ∧ a < nx.length
instance (nx : List Int) (a : Int) : Decidable (St nx a) := inferInstanceAs (Decidable (_ ∧ _))
end Go.Proofs.Ytjffhhalmicodaa.L
end

section
set_option linter.unusedVariables false
namespace Go.Proofs.Ytjffhhalmicodaa.L
open Go.RowKit Go.Proofs.YtjffhhalmicodaaW.PrintWords Go.Proofs.YtjffhhalmicodaaW.PrintLast Go.Proofs.YtjffhhalmicodaaW.PrintMore Go.Proofs.Ytjffhhalmicodaa.X
structure Bi (nx mk nx' mk' : List Int) (R : Nat → Nat → Prop) : Prop where
  l : ∀ s t, R s t → s < nx.length
  r : ∀ s t, R s t → t < nx'.length
  m : ∀ s t, R s t → rd mk s = rd mk' t
  f : ∀ s t u, R s t → u < nx.length → tb (rd nx s) u = true → ∃ v, v < nx'.length ∧ tb (rd nx' t) v = true ∧ R u v
  b : ∀ s t v, R s t → v < nx'.length → tb (rd nx' t) v = true → ∃ u, u < nx.length ∧ tb (rd nx s) u = true ∧ R u v
def Ag (R : Nat → Nat → Prop) (a b : Int) : Prop := ∀ s t, R s t → tb a s = tb b t
theorem step_ag {nx mk nx' mk' : List Int} (hv : VW nx mk) (hv' : VW nx' mk') {R : Nat → Nat → Prop} (hR : Bi nx mk nx' mk' R) {p q : Int} (hp : InS nx.length p) (hq : InS nx'.length q) (h : Ag R p q) : Ag R (stepTo nx p) (stepTo nx' q) := by
  intro s t hst
  have h1 := hv.le
  have h2 := hv'.le
  have hs := hR.l s t hst
  have ht := hR.r s t hst
  rw [(tb_step (by omega) p).2, (tb_step (by omega) q).2]
  simp only [hs, ht, decide_true, Bool.true_and]
  rw [Bool.eq_iff_iff, bne_iff_ne, bne_iff_ne, Ne, Ne, and_zero (by omega) (hv.next s hs) hp, and_zero (by omega) (hv'.next t ht) hq]
  refine not_congr ?_
  constructor
  · intro a i hi
    have hil : i < nx'.length := Nat.lt_of_not_le fun z => by rw [tb_ge (hv'.next t ht) z] at hi; cases hi
    obtain ⟨u, u1, u2, u3⟩ := hR.b s t i hst hil hi
    rw [← h u i u3]
    exact a u u2
  · intro a i hi
    have hil : i < nx.length := Nat.lt_of_not_le fun z => by rw [tb_ge (hv.next s hs) z] at hi; cases hi
    obtain ⟨u, u1, u2, u3⟩ := hR.f s t i hst hil hi
    rw [h i u u3]
    exact a u u2
theorem box_ag {nx mk nx' mk' : List Int} (hv : VW nx mk) (hv' : VW nx' mk') {R : Nat → Nat → Prop} (hR : Bi nx mk nx' mk' R) {p q : Int} (hp : InS nx.length p) (hq : InS nx'.length q) (h : Ag R p q) : Ag R (boxTo nx p) (boxTo nx' q) := by
  intro s t hst
  have h1 := hv.le
  have h2 := hv'.le
  have hs := hR.l s t hst
  have ht := hR.r s t hst
  rw [(tb_box (by omega) p).2, (tb_box (by omega) q).2]
  simp only [hs, ht, decide_true, Bool.true_and]
  rw [Bool.eq_iff_iff, beq_iff_eq, beq_iff_eq, andNot_zero (by omega) (hv.next s hs) hp, andNot_zero (by omega) (hv'.next t ht) hq]
  constructor
  · intro a i hi
    have hil : i < nx'.length := Nat.lt_of_not_le fun z => by rw [tb_ge (hv'.next t ht) z] at hi; cases hi
    obtain ⟨u, u1, u2, u3⟩ := hR.b s t i hst hil hi
    rw [← h u i u3]
    exact a u u2
  · intro a i hi
    have hil : i < nx.length := Nat.lt_of_not_le fun z => by rw [tb_ge (hv.next s hs) z] at hi; cases hi
    obtain ⟨u, u1, u2, u3⟩ := hR.f s t i hst hil hi
    rw [h i u u3]
    exact a u u2
theorem V_fix_at {nx mk : List Int} (hv : VW nx mk) {c x : Nat} {a : Fm} (ha : WF a) {s : Sets} (hs : InE nx.length s) {m : Nat} (hm : nx.length ≤ m) : V nx mk (.fix c x a) s = it (fun t => V nx mk a (setL x t s)) (if c = 103 then allOf nx else 0) m := by
  have h : it (fun t => V nx mk a (setL x t s)) (if c = 103 then allOf nx else 0) (nx.length + 1) = it (fun t => V nx mk a (setL x t s)) (if c = 103 then allOf nx else 0) nx.length := it_stands hv (g := c = 103) (F_in hv (x := x) ha hs) (F_mono hv ha hs) nx.length (Nat.le_refl _)
  have := it_stay h (m - nx.length)
  rw [show nx.length + (m - nx.length) = m by omega] at this
  rw [this, V]
theorem V_ag {nx mk nx' mk' : List Int} (hv : VW nx mk) (hv' : VW nx' mk') {R : Nat → Nat → Prop} (hR : Bi nx mk nx' mk' R) : ∀ f, WF f → ∀ s s', InE nx.length s → InE nx'.length s' → (∀ c, Ag R (getL c s) (getL c s')) → Ag R (V nx mk f s) (V nx' mk' f s') := by
  have h1 := hv.le
  have h2 := hv'.le
  have hall : Ag R (allOf nx) (allOf nx') := fun s t hst => by
    rw [tb_all (by omega), tb_all (by omega)]
    simp [hR.l s t hst, hR.r s t hst]
  have hzero : Ag R 0 0 := fun s t _ => by rw [tb_zero, tb_zero]
  intro f
  induction f with
  | mark neg j =>
    intro hw s s' hs hs' hg
    have hmk : Ag R (mset mk j) (mset mk' j) := fun s t hst => by
      rw [(mset_spec hv hw).2, (mset_spec hv' hw).2, hR.m s t hst]
      simp [hR.l s t hst, hR.r s t hst]
    simp only [V]
    split
    · intro s t hst
      rw [tb_andNot (by omega) (by omega) (all_in (by omega)) (mset_spec hv hw).1, tb_andNot (by omega) (by omega) (all_in (by omega)) (mset_spec hv' hw).1, hall s t hst, hmk s t hst]
    · exact hmk
  | con c =>
    intro hw s s' hs hs' hg
    simp only [V]
    split
    · exact hall
    · exact hzero
  | var c => intro hw s s' hs hs' hg; exact hg c
  | two c a b iha ihb =>
    intro hw s s' hs hs' hg
    have ha := iha hw.2.1 s s' hs hs' hg
    have hb := ihb hw.2.2 s s' hs hs' hg
    have a1 := (V_spec hv a hw.2.1).1 s hs
    have a2 := (V_spec hv' a hw.2.1).1 s' hs'
    have b1 := (V_spec hv b hw.2.2).1 s hs
    have b2 := (V_spec hv' b hw.2.2).1 s' hs'
    simp only [V]
    split
    · intro s t hst
      rw [tb_and (by omega) (by omega) a1 b1, tb_and (by omega) (by omega) a2 b2, ha s t hst, hb s t hst]
    · intro s t hst
      rw [tb_or (by omega) (by omega) a1 b1, tb_or (by omega) (by omega) a2 b2, ha s t hst, hb s t hst]
  | one c a iha =>
    intro hw s s' hs hs' hg
    have ha := iha hw.2 s s' hs hs' hg
    have a1 := (V_spec hv a hw.2).1 s hs
    have a2 := (V_spec hv' a hw.2).1 s' hs'
    simp only [V]
    split
    · exact step_ag hv hv' hR a1 a2 ha
    · exact box_ag hv hv' hR a1 a2 ha
  | fix c x a iha =>
    intro hw s s' hs hs' hg
    rw [V_fix_at hv hw.2.2 hs (m := 6) h1, V_fix_at hv' hw.2.2 hs' (m := 6) h2]
    have h0 : InS nx.length (if c = 103 then allOf nx else 0) := by
      split
      · exact all_in (by omega)
      · exact inS_zero _
    have h0' : InS nx'.length (if c = 103 then allOf nx' else 0) := by
      split
      · exact all_in (by omega)
      · exact inS_zero _
    have hin := it_in h0 (F := fun t => V nx mk a (setL x t s)) (fun t ht => (V_spec hv a hw.2.2).1 _ (inE_set hs x ht))
    have hin' := it_in h0' (F := fun t => V nx' mk' a (setL x t s')) (fun t ht => (V_spec hv' a hw.2.2).1 _ (inE_set hs' x ht))
    have key : ∀ k, Ag R (it (fun t => V nx mk a (setL x t s)) (if c = 103 then allOf nx else 0) k) (it (fun t => V nx' mk' a (setL x t s')) (if c = 103 then allOf nx' else 0) k) := by
      intro k
      induction k with
      | zero =>
        show Ag R (if c = 103 then allOf nx else 0) (if c = 103 then allOf nx' else 0)
        split
        · exact hall
        · exact hzero
      | succ k ih =>
        refine iha hw.2.2 _ _ (inE_set hs x (hin k)) (inE_set hs' x (hin' k)) fun d => ?_
        rw [getL_setL, getL_setL]
        split
        · exact ih
        · exact hg d
    exact key 6
theorem bi_E {nx mk : List Int} (hv : VW nx mk) {K : Nat} (hK : Last nx mk K) : Bi nx mk nx mk (fun s t => s < nx.length ∧ t < nx.length ∧ E nx mk K s t) where
  l := fun s t h => h.1
  r := fun s t h => h.2.1
  m := fun s t h => (hK.bis hv h.1 h.2.1 h.2.2).1
  f := fun s t u h hu hb => by
    obtain ⟨v, a, b, c⟩ := (hK.bis hv h.1 h.2.1 h.2.2).2 u hu hb
    exact ⟨v, a, b, hu, a, c⟩
  b := fun s t v h hv' hb => by
    obtain ⟨u, a, b, c⟩ := (hK.bis hv h.2.1 h.1 h.2.2.symm).2 v hv' hb
    exact ⟨u, a, b, a, hv', c.symm⟩
end Go.Proofs.Ytjffhhalmicodaa.L
end

section
namespace Go.Proofs.Ytjffhhalmicodaa.PF
open Go.RowKit Go.Proofs.YtjffhhalmicodaaW.PrintWords Go.Proofs.YtjffhhalmicodaaW.PrintLast Go.Proofs.YtjffhhalmicodaaW.PrintMore
attribute [local go_sem] max2_int min2_int max_two min_two max_three min_three max_four min_four
set_option linter.unusedVariables false
set_option linter.unusedSimpArgs false
mutual
def comfitlaw08_FixesEqual.j0 : Nat → List Int → Int → Int → Bool → List Int → List Int → Option (Bool)
  | 0, _, _, _, _, _, _ => none
  | k + 1, x5, x7, x8, x46, x240000, x240001 => if x46 = true then (some false) else (comfitlaw08_FixesEqual.l0 k x7 x8 0 x5 (x5.length : Int) 0 x240000 x240001)
def comfitlaw08_FixesEqual.l0 : Nat → Int → Int → Int → List Int → Int → Int → List Int → List Int → Option (Bool)
  | 0, _, _, _, _, _, _, _, _ => none
  | k + 1, x7, x8, x9, x47, x48, x49, x240000, x240001 => if x49 < x48 then (if 0 ≤ x49 then (if x49 < (x47.length : Int) then (if (rd x47 x49) < 1 then (some false) else (if (Go.bits .and .i64 (rd x47 x49) x9) = 0 then (if x8 = 0 then (if (Go.bits .and .i64 x7 (rd x47 x49)) = 0 then (comfitlaw08_FixesEqual.l0 k x7 x8 (Go.bits .or .i64 x9 (rd x47 x49)) x47 x48 (wrap64 (x49 + 1)) x240000 x240001) else (if (Go.bits .and .i64 x7 (rd x47 x49)) = (rd x47 x49) then (comfitlaw08_FixesEqual.l0 k x7 x8 (Go.bits .or .i64 x9 (rd x47 x49)) x47 x48 (wrap64 (x49 + 1)) x240000 x240001) else (some false))) else (comfitlaw08_FixesEqual.l0 k x7 x8 (Go.bits .or .i64 x9 (rd x47 x49)) x47 x48 (wrap64 (x49 + 1)) x240000 x240001)) else (some false))) else (none)) else (none)) else (if x9 = (wrap64 ((shl .i64 1 (x240000.length : Int)) - 1)) then ((Go.Proofs.Ytjffhhalmicodaa.PB.comfitlaw08_awake.f k).bind fun t263 => (some t263)) else (some false))
end
def comfitlaw08_FixesEqual.f (k : Nat) (l0_0 : List Int) (l0_1 : List Int) (a1 : ByteArray) : Option (Bool) := (Go.Proofs.Ytjffhhalmicodaa.PA.comfitlaw08_Of.f l0_0 l0_1).bind fun bt240 => ((fixes_Classes.f k bt240.1 bt240.2).bind fun bt246 => ((Go.Proofs.Ytjffhhalmicodaa.PA.comfitlaw08_Of.f l0_0 l0_1).bind fun bt250 => ((Go.Proofs.Ytjffhhalmicodaa.PA.comfitlaw08_text.f a1).bind fun t256 => ((Go.Proofs.Ytjffhhalmicodaa.X.fixes_Holds.f k bt250.1 bt250.2 t256).bind fun bt257 => ((Go.Proofs.Ytjffhhalmicodaa.PB.comfitref08_Valid.f k l0_0 l0_1).bind fun t259 => (if t259 = true then (if bt246.2 = 0 then ((Go.Proofs.Ytjffhhalmicodaa.PB.comfitref08_Is.f k a1).bind fun t261 => (comfitlaw08_FixesEqual.j0 k bt246.1 bt257.1 bt257.2 ((bt257.2 == 0) != t261) l0_0 l0_1)) else (comfitlaw08_FixesEqual.j0 k bt246.1 bt257.1 bt257.2 true l0_0 l0_1)) else (if bt246.2 = 2 then (if bt257.2 = 2 then ((Go.Proofs.Ytjffhhalmicodaa.PB.comfitlaw08_awake.f k).bind fun t260 => (some t260)) else (some false)) else (some false))))))))
set_option maxHeartbeats 8000000 in
set_option maxRecDepth 100000 in
theorem comfitlaw08_FixesEqual.calls (k : Nat) (A0_0 : Option Addr) (c0_0 : Nat) (l0_0 : List Int) (A0_1 : Option Addr) (c0_1 : Nat) (l0_1 : List Int) (a1 : ByteArray) (r : Bool) (w : World) (hr0_0 : Kd.C (Kd.int .i64) w A0_0 l0_0.length l0_0) (hc0_0 : l0_0.length ≤ c0_0) (hr0_1 : Kd.C (Kd.int .i64) w A0_1 l0_1.length l0_1) (hc0_1 : l0_1.length ≤ c0_1) (h : comfitlaw08_FixesEqual.f k l0_0 l0_1 a1 = some r) :
    Calls Try.prog 10 #[.agg #[.slice A0_0 l0_0.length c0_0, .slice A0_1 l0_1.length c0_1], .string a1] w fun e w' => e = .returned (.bool r) ∧ Below w.heap.size w w' := by
  have hu24 := Try.underlying24
  have HR0_0 := Aside0.mk hr0_0
  have HC0_0 := Aside0.mk hc0_0
  clear hr0_0 hc0_0
  have HR0_1 := Aside0.mk hr0_1
  have HC0_1 := Aside0.mk hc0_1
  clear hr0_1 hc0_1
  have HB := Aside0.mk (Below.refl w.heap.size w)
  have H : ((Go.Proofs.Ytjffhhalmicodaa.PA.comfitlaw08_Of.f l0_0 l0_1).bind fun bt240 => ((fixes_Classes.f k bt240.1 bt240.2).bind fun bt246 => ((Go.Proofs.Ytjffhhalmicodaa.PA.comfitlaw08_Of.f l0_0 l0_1).bind fun bt250 => ((Go.Proofs.Ytjffhhalmicodaa.PA.comfitlaw08_text.f a1).bind fun t256 => ((Go.Proofs.Ytjffhhalmicodaa.X.fixes_Holds.f k bt250.1 bt250.2 t256).bind fun bt257 => ((Go.Proofs.Ytjffhhalmicodaa.PB.comfitref08_Valid.f k l0_0 l0_1).bind fun t259 => (if t259 = true then (if bt246.2 = 0 then ((Go.Proofs.Ytjffhhalmicodaa.PB.comfitref08_Is.f k a1).bind fun t261 => (comfitlaw08_FixesEqual.j0 k bt246.1 bt257.1 bt257.2 ((bt257.2 == 0) != t261) l0_0 l0_1)) else (comfitlaw08_FixesEqual.j0 k bt246.1 bt257.1 bt257.2 true l0_0 l0_1)) else (if bt246.2 = 2 then (if bt257.2 = 2 then ((Go.Proofs.Ytjffhhalmicodaa.PB.comfitlaw08_awake.f k).bind fun t260 => (some t260)) else (some false)) else (some false))))))))) = some r := h
  clear h
  replace H := Option.bind_eq_some_iff.mp H
  obtain ⟨⟨t240, t243⟩, A30, H⟩ := H
  replace H : ((fixes_Classes.f k t240 t243).bind fun bt246 => ((Go.Proofs.Ytjffhhalmicodaa.PA.comfitlaw08_Of.f l0_0 l0_1).bind fun bt250 => ((Go.Proofs.Ytjffhhalmicodaa.PA.comfitlaw08_text.f a1).bind fun t256 => ((Go.Proofs.Ytjffhhalmicodaa.X.fixes_Holds.f k bt250.1 bt250.2 t256).bind fun bt257 => ((Go.Proofs.Ytjffhhalmicodaa.PB.comfitref08_Valid.f k l0_0 l0_1).bind fun t259 => (if t259 = true then (if bt246.2 = 0 then ((Go.Proofs.Ytjffhhalmicodaa.PB.comfitref08_Is.f k a1).bind fun t261 => (comfitlaw08_FixesEqual.j0 k bt246.1 bt257.1 bt257.2 ((bt257.2 == 0) != t261) l0_0 l0_1)) else (comfitlaw08_FixesEqual.j0 k bt246.1 bt257.1 bt257.2 true l0_0 l0_1)) else (if bt246.2 = 2 then (if bt257.2 = 2 then ((Go.Proofs.Ytjffhhalmicodaa.PB.comfitlaw08_awake.f k).bind fun t260 => (some t260)) else (some false)) else (some false)))))))) = some r := H
  have A3 := Aside0.mk A30
  clear A30
  replace H := Option.bind_eq_some_iff.mp H
  obtain ⟨⟨t246, t249⟩, A40, H⟩ := H
  replace H : ((Go.Proofs.Ytjffhhalmicodaa.PA.comfitlaw08_Of.f l0_0 l0_1).bind fun bt250 => ((Go.Proofs.Ytjffhhalmicodaa.PA.comfitlaw08_text.f a1).bind fun t256 => ((Go.Proofs.Ytjffhhalmicodaa.X.fixes_Holds.f k bt250.1 bt250.2 t256).bind fun bt257 => ((Go.Proofs.Ytjffhhalmicodaa.PB.comfitref08_Valid.f k l0_0 l0_1).bind fun t259 => (if t259 = true then (if t249 = 0 then ((Go.Proofs.Ytjffhhalmicodaa.PB.comfitref08_Is.f k a1).bind fun t261 => (comfitlaw08_FixesEqual.j0 k t246 bt257.1 bt257.2 ((bt257.2 == 0) != t261) l0_0 l0_1)) else (comfitlaw08_FixesEqual.j0 k t246 bt257.1 bt257.2 true l0_0 l0_1)) else (if t249 = 2 then (if bt257.2 = 2 then ((Go.Proofs.Ytjffhhalmicodaa.PB.comfitlaw08_awake.f k).bind fun t260 => (some t260)) else (some false)) else (some false))))))) = some r := H
  have A4 := Aside0.mk A40
  clear A40
  replace H := Option.bind_eq_some_iff.mp H
  obtain ⟨⟨t250, t253⟩, A50, H⟩ := H
  replace H : ((Go.Proofs.Ytjffhhalmicodaa.PA.comfitlaw08_text.f a1).bind fun t256 => ((Go.Proofs.Ytjffhhalmicodaa.X.fixes_Holds.f k t250 t253 t256).bind fun bt257 => ((Go.Proofs.Ytjffhhalmicodaa.PB.comfitref08_Valid.f k l0_0 l0_1).bind fun t259 => (if t259 = true then (if t249 = 0 then ((Go.Proofs.Ytjffhhalmicodaa.PB.comfitref08_Is.f k a1).bind fun t261 => (comfitlaw08_FixesEqual.j0 k t246 bt257.1 bt257.2 ((bt257.2 == 0) != t261) l0_0 l0_1)) else (comfitlaw08_FixesEqual.j0 k t246 bt257.1 bt257.2 true l0_0 l0_1)) else (if t249 = 2 then (if bt257.2 = 2 then ((Go.Proofs.Ytjffhhalmicodaa.PB.comfitlaw08_awake.f k).bind fun t260 => (some t260)) else (some false)) else (some false)))))) = some r := H
  have A5 := Aside0.mk A50
  clear A50
  replace H := Option.bind_eq_some_iff.mp H
  obtain ⟨t256, A60, H⟩ := H
  replace H : ((Go.Proofs.Ytjffhhalmicodaa.X.fixes_Holds.f k t250 t253 t256).bind fun bt257 => ((Go.Proofs.Ytjffhhalmicodaa.PB.comfitref08_Valid.f k l0_0 l0_1).bind fun t259 => (if t259 = true then (if t249 = 0 then ((Go.Proofs.Ytjffhhalmicodaa.PB.comfitref08_Is.f k a1).bind fun t261 => (comfitlaw08_FixesEqual.j0 k t246 bt257.1 bt257.2 ((bt257.2 == 0) != t261) l0_0 l0_1)) else (comfitlaw08_FixesEqual.j0 k t246 bt257.1 bt257.2 true l0_0 l0_1)) else (if t249 = 2 then (if bt257.2 = 2 then ((Go.Proofs.Ytjffhhalmicodaa.PB.comfitlaw08_awake.f k).bind fun t260 => (some t260)) else (some false)) else (some false))))) = some r := H
  have A6 := Aside0.mk A60
  clear A60
  replace H := Option.bind_eq_some_iff.mp H
  obtain ⟨⟨t257, t258⟩, A70, H⟩ := H
  replace H : ((Go.Proofs.Ytjffhhalmicodaa.PB.comfitref08_Valid.f k l0_0 l0_1).bind fun t259 => (if t259 = true then (if t249 = 0 then ((Go.Proofs.Ytjffhhalmicodaa.PB.comfitref08_Is.f k a1).bind fun t261 => (comfitlaw08_FixesEqual.j0 k t246 t257 t258 ((t258 == 0) != t261) l0_0 l0_1)) else (comfitlaw08_FixesEqual.j0 k t246 t257 t258 true l0_0 l0_1)) else (if t249 = 2 then (if t258 = 2 then ((Go.Proofs.Ytjffhhalmicodaa.PB.comfitlaw08_awake.f k).bind fun t260 => (some t260)) else (some false)) else (some false)))) = some r := H
  have A7 := Aside0.mk A70
  clear A70
  replace H := Option.bind_eq_some_iff.mp H
  obtain ⟨t259, A80, H⟩ := H
  replace H : (if t259 = true then (if t249 = 0 then ((Go.Proofs.Ytjffhhalmicodaa.PB.comfitref08_Is.f k a1).bind fun t261 => (comfitlaw08_FixesEqual.j0 k t246 t257 t258 ((t258 == 0) != t261) l0_0 l0_1)) else (comfitlaw08_FixesEqual.j0 k t246 t257 t258 true l0_0 l0_1)) else (if t249 = 2 then (if t258 = 2 then ((Go.Proofs.Ytjffhhalmicodaa.PB.comfitlaw08_awake.f k).bind fun t260 => (some t260)) else (some false)) else (some false))) = some r := H
  have A8 := Aside0.mk A80
  clear A80
  by_cases c9 : t259 = true
  · subst c9
    have H1 : (if t249 = 0 then ((Go.Proofs.Ytjffhhalmicodaa.PB.comfitref08_Is.f k a1).bind fun t261 => (comfitlaw08_FixesEqual.j0 k t246 t257 t258 ((t258 == 0) != t261) l0_0 l0_1)) else (comfitlaw08_FixesEqual.j0 k t246 t257 t258 true l0_0 l0_1)) = some r := by rw [if_pos rfl] at H; exact H
    clear H
    have H := H1
    clear H1
    have HC10 := Aside0.mk H
    clear H
    go_enter Try.func10, Try.ntmps10
    go_upto_region 5 with (first | ((with_reducible refine gate_dst (N := 2) rfl ?_); refine box_event ?hg (N := 2) ?hd (cs := #[.slice A0_0 l0_0.length c0_0, .slice A0_1 l0_1.length c0_1]) (t := 24) ?hr ?_; (case hd => rfl); (case hg => rfl); (case hr => first | (go_simp; done) | (go_simp; rfl)); intro gb239 hg w11 hbox hb; have n0_ := Aside0.mk (below_step (by repeat (first | (with_reducible first | exact HB.out | apply below_alloc | apply pw_below_drewN | apply below_drew1) | exact HB.out)) hb); have n1_ := Aside0.mk (hbox); have n2_ := Aside0.mk ((by rw [hg]; exact (below_size (by repeat (first | (with_reducible first | exact HB.out | apply below_alloc | apply pw_below_drewN | apply below_drew1) | exact HB.out))) : w.heap.size ≤ gb239)); have n3_ := Aside0.mk ((by rw [hg]; exact (below_size (by repeat (first | (with_reducible first | exact HB.out | apply below_alloc | apply pw_below_drewN | apply below_drew1) | exact HB.out))) : w.heap.size ≤ gb239)); clear HB; have HB := n0_; have BK239 := n1_; have GW239 := n2_; have GE239 := n3_; clear n0_ n1_ n2_ n3_; clear hb hbox hg; have hcz12_0 : w11.cell? ⟨gb239, 0, none⟩ = some (.slice A0_0 l0_0.length c0_0) := (blk_cell BK239.out 0).trans rfl; have hcz12_1 : w11.cell? ⟨gb239, 1, none⟩ = some (.slice A0_1 l0_1.length c0_1) := (blk_cell BK239.out 1).trans rfl; have hfz12_0 := blk_frozen BK239.out 0; have hfz12_1 := blk_frozen BK239.out 1) | ((with_reducible refine gate_callee (f := 17) rfl ?_); refine goesL_ (some 14) rfl rfl Try.func17 (by kernel_rfl) rfl #[.agg #[.slice A0_0 l0_0.length c0_0, .slice A0_1 l0_1.length c0_1]] rfl (by (try simp only [List.map_toArray, List.map_cons, List.map_nil]); first | done | rfl | (simp only [List.length_drop, List.length_take]; rfl)) ?_; (with_reducible refine (Go.Proofs.Ytjffhhalmicodaa.PA.comfitlaw08_Of.calls _ _ l0_0 _ _ l0_1 t240 t243 _ ?side1 ?side2 ?side3 ?side4 A3.out).mono ?_); (case side1 => repeat (first | exact (Kd.C_below HR0_0.out HB.out) | (with_reducible refine Kd.C_alloc ?_ _) | (with_reducible refine Kd.C_drewN ?_ _) | (with_reducible refine Kd.C_drew ?_))); (case side2 => exact HC0_0.out); (case side3 => repeat (first | exact (Kd.C_below HR0_1.out HB.out) | (with_reducible refine Kd.C_alloc ?_ _) | (with_reducible refine Kd.C_drewN ?_ _) | (with_reducible refine Kd.C_drew ?_))); (case side4 => exact HC0_1.out); rintro e w13 ⟨v241, v244, rfl, ho0, ho1, hb⟩; refine ⟨_, rfl, ?_⟩; have n0_ := Aside0.mk (Kd.R_lower ho0 (below_size (by repeat (first | (with_reducible first | exact HB.out | apply below_alloc | apply pw_below_drewN | apply below_drew1 | refine below_set ?_ GE239.out) | exact HB.out)))); have n1_ := Aside0.mk (Kd.R_lower ho1 (below_size (by repeat (first | (with_reducible first | exact HB.out | apply below_alloc | apply pw_below_drewN | apply below_drew1 | refine below_set ?_ GE239.out) | exact HB.out)))); have n2_ := Aside0.mk (blk_below (g := gb239) (o := .cells #[.slice A0_0 l0_0.length c0_0, .slice A0_1 l0_1.length c0_1] 24 (0, 0)) (by (with_reducible repeat (first | refine blk_drewN ?_ _ | refine blk_drew ?_ | refine blk_alloc ?_ _)); exact BK239.out) hb); have n3_ := Aside0.mk (below_step (by repeat (first | (with_reducible first | exact HB.out | apply below_alloc | apply pw_below_drewN | apply below_drew1 | refine below_set ?_ GE239.out) | exact HB.out)) hb); clear BK239; clear HB; have HO242 := n0_; have HO245 := n1_; have BK239 := n2_; have HB := n3_; clear n0_ n1_ n2_ n3_; (try clear hb); (try clear hb2); (try clear hk); (try clear hi); (try clear ho0); (try clear ho1); obtain ⟨Ao14, co14, eo14⟩ := Kd.R_slice HO242.out; subst eo14; obtain ⟨Ao15, co15, eo15⟩ := Kd.R_slice HO245.out; subst eo15) | ((with_reducible refine gate_callee (f := 33) rfl ?_); refine goesL_ (some 15) rfl rfl Try.func33 (by kernel_rfl) rfl #[.agg #[.slice Ao14 t240.length co14, .slice Ao15 t243.length co15]] rfl (by (try simp only [List.map_toArray, List.map_cons, List.map_nil]); first | done | rfl | (simp only [List.length_drop, List.length_take]; rfl)) ?_; (with_reducible refine (fixes_Classes.calls k _ _ t240 _ _ t243 t246 t249 _ ?side1 ?side2 ?side3 ?side4 A4.out).mono ?_); (case side1 => repeat (first | exact (Kd.R_reads' HO242.out).2.2 | (with_reducible refine Kd.C_alloc ?_ _) | (with_reducible refine Kd.C_drewN ?_ _) | (with_reducible refine Kd.C_drew ?_))); (case side2 => exact (Kd.R_reads' HO242.out).2.1); (case side3 => repeat (first | exact (Kd.R_reads' HO245.out).2.2 | (with_reducible refine Kd.C_alloc ?_ _) | (with_reducible refine Kd.C_drewN ?_ _) | (with_reducible refine Kd.C_drew ?_))); (case side4 => exact (Kd.R_reads' HO245.out).2.1); rintro e w16 ⟨v247, rfl, ho0, hb⟩; refine ⟨_, rfl, ?_⟩; have n0_ := Aside0.mk (Kd.R_elder' (by (with_reducible repeat (first | apply Kd.R_alloc | apply Kd.R_drewN | apply Kd.R_drew)); exact HO242.out) (Kd.R_base ho0) hb); have n1_ := Aside0.mk (Kd.R_elder' (by (with_reducible repeat (first | apply Kd.R_alloc | apply Kd.R_drewN | apply Kd.R_drew)); exact HO245.out) (Kd.R_base ho0) hb); have n2_ := Aside0.mk (Kd.R_lower (Kd.R_new' (Kd.R_new' ho0 (Kd.R_lt (by (with_reducible repeat (first | apply Kd.R_alloc | apply Kd.R_drewN | apply Kd.R_drew)); exact HO242.out))) (Kd.R_lt (by (with_reducible repeat (first | apply Kd.R_alloc | apply Kd.R_drewN | apply Kd.R_drew)); exact HO245.out))) (below_size (by repeat (first | (with_reducible first | exact HB.out | apply below_alloc | apply pw_below_drewN | apply below_drew1 | refine below_set ?_ GE239.out) | exact HB.out)))); have n3_ := Aside0.mk (blk_below (g := gb239) (o := .cells #[.slice A0_0 l0_0.length c0_0, .slice A0_1 l0_1.length c0_1] 24 (0, 0)) (by (with_reducible repeat (first | refine blk_drewN ?_ _ | refine blk_drew ?_ | refine blk_alloc ?_ _)); exact BK239.out) hb); have n4_ := Aside0.mk (below_step (by repeat (first | (with_reducible first | exact HB.out | apply below_alloc | apply pw_below_drewN | apply below_drew1 | refine below_set ?_ GE239.out) | exact HB.out)) hb); clear HO242; clear HO245; clear BK239; clear HB; have HO242 := n0_; have HO245 := n1_; have HO248 := n2_; have BK239 := n3_; have HB := n4_; clear n0_ n1_ n2_ n3_ n4_; (try clear hb); (try clear hb2); (try clear hk); (try clear hi); (try clear ho0); have hcz17_0 : w16.cell? ⟨gb239, 0, none⟩ = some (.slice A0_0 l0_0.length c0_0) := (blk_cell BK239.out 0).trans rfl; have hcz17_1 : w16.cell? ⟨gb239, 1, none⟩ = some (.slice A0_1 l0_1.length c0_1) := (blk_cell BK239.out 1).trans rfl; have hfz17_0 := blk_frozen BK239.out 0; have hfz17_1 := blk_frozen BK239.out 1) | ((with_reducible refine gate_callee (f := 17) rfl ?_); refine goesL_ (some 20) rfl rfl Try.func17 (by kernel_rfl) rfl #[.agg #[.slice A0_0 l0_0.length c0_0, .slice A0_1 l0_1.length c0_1]] rfl (by (try simp only [List.map_toArray, List.map_cons, List.map_nil]); first | done | rfl | (simp only [List.length_drop, List.length_take]; rfl)) ?_; (with_reducible refine (Go.Proofs.Ytjffhhalmicodaa.PA.comfitlaw08_Of.calls _ _ l0_0 _ _ l0_1 t250 t253 _ ?side1 ?side2 ?side3 ?side4 A5.out).mono ?_); (case side1 => repeat (first | exact (Kd.C_below HR0_0.out HB.out) | (with_reducible refine Kd.C_alloc ?_ _) | (with_reducible refine Kd.C_drewN ?_ _) | (with_reducible refine Kd.C_drew ?_))); (case side2 => exact HC0_0.out); (case side3 => repeat (first | exact (Kd.C_below HR0_1.out HB.out) | (with_reducible refine Kd.C_alloc ?_ _) | (with_reducible refine Kd.C_drewN ?_ _) | (with_reducible refine Kd.C_drew ?_))); (case side4 => exact HC0_1.out); rintro e w18 ⟨v251, v254, rfl, ho0, ho1, hb⟩; refine ⟨_, rfl, ?_⟩; have n0_ := Aside0.mk (Kd.R_mono (Kd.R_told (Kd.R_told (Kd.R_old (by (with_reducible repeat (first | apply Kd.R_alloc | apply Kd.R_drewN | apply Kd.R_drew)); exact HO242.out) hb) (Kd.R_base ho0)) (Kd.R_base ho1)) (fun _ h_ => h_.1)); have n1_ := Aside0.mk (Kd.R_mono (Kd.R_told (Kd.R_told (Kd.R_old (by (with_reducible repeat (first | apply Kd.R_alloc | apply Kd.R_drewN | apply Kd.R_drew)); exact HO245.out) hb) (Kd.R_base ho0)) (Kd.R_base ho1)) (fun _ h_ => h_.1)); have n2_ := Aside0.mk (Kd.R_mono (Kd.R_told (Kd.R_told (Kd.R_old (by (with_reducible repeat (first | apply Kd.R_alloc | apply Kd.R_drewN | apply Kd.R_drew)); exact HO248.out) hb) (Kd.R_base ho0)) (Kd.R_base ho1)) (fun _ h_ => h_.1)); have n3_ := Aside0.mk (Kd.R_lower (Kd.R_new' (Kd.R_new' (Kd.R_new' ho0 (Kd.R_lt (by (with_reducible repeat (first | apply Kd.R_alloc | apply Kd.R_drewN | apply Kd.R_drew)); exact HO242.out))) (Kd.R_lt (by (with_reducible repeat (first | apply Kd.R_alloc | apply Kd.R_drewN | apply Kd.R_drew)); exact HO245.out))) (Kd.R_lt (by (with_reducible repeat (first | apply Kd.R_alloc | apply Kd.R_drewN | apply Kd.R_drew)); exact HO248.out))) (below_size (by repeat (first | (with_reducible first | exact HB.out | apply below_alloc | apply pw_below_drewN | apply below_drew1 | refine below_set ?_ GE239.out) | exact HB.out)))); have n4_ := Aside0.mk (Kd.R_lower (Kd.R_new' (Kd.R_new' (Kd.R_new' ho1 (Kd.R_lt (by (with_reducible repeat (first | apply Kd.R_alloc | apply Kd.R_drewN | apply Kd.R_drew)); exact HO242.out))) (Kd.R_lt (by (with_reducible repeat (first | apply Kd.R_alloc | apply Kd.R_drewN | apply Kd.R_drew)); exact HO245.out))) (Kd.R_lt (by (with_reducible repeat (first | apply Kd.R_alloc | apply Kd.R_drewN | apply Kd.R_drew)); exact HO248.out))) (below_size (by repeat (first | (with_reducible first | exact HB.out | apply below_alloc | apply pw_below_drewN | apply below_drew1 | refine below_set ?_ GE239.out) | exact HB.out)))); have n5_ := Aside0.mk (blk_below (g := gb239) (o := .cells #[.slice A0_0 l0_0.length c0_0, .slice A0_1 l0_1.length c0_1] 24 (0, 0)) (by (with_reducible repeat (first | refine blk_drewN ?_ _ | refine blk_drew ?_ | refine blk_alloc ?_ _)); exact BK239.out) hb); have n6_ := Aside0.mk (below_step (by repeat (first | (with_reducible first | exact HB.out | apply below_alloc | apply pw_below_drewN | apply below_drew1 | refine below_set ?_ GE239.out) | exact HB.out)) hb); clear HO242; clear HO245; clear HO248; clear BK239; clear HB; have HO242 := n0_; have HO245 := n1_; have HO248 := n2_; have HO252 := n3_; have HO255 := n4_; have BK239 := n5_; have HB := n6_; clear n0_ n1_ n2_ n3_ n4_ n5_ n6_; (try clear hb); (try clear hb2); (try clear hk); (try clear hi); (try clear ho0); (try clear ho1)) | ((with_reducible refine gate_callee (f := 18) rfl ?_); refine goesL_ (some 22) rfl rfl Try.func18 (by kernel_rfl) rfl #[.string a1] rfl (by (try simp only [List.map_toArray, List.map_cons, List.map_nil]); first | done | rfl | (simp only [List.length_drop, List.length_take]; rfl)) ?_; (with_reducible refine (Go.Proofs.Ytjffhhalmicodaa.PA.comfitlaw08_text.calls a1 t256 _ A6.out).mono ?_); rintro e w19 ⟨rfl, hb⟩; refine ⟨_, rfl, ?_⟩; have n0_ := Aside0.mk (Kd.R_below (by (with_reducible repeat (first | apply Kd.R_alloc | apply Kd.R_drewN | apply Kd.R_drew)); exact HO242.out) hb); have n1_ := Aside0.mk (Kd.R_below (by (with_reducible repeat (first | apply Kd.R_alloc | apply Kd.R_drewN | apply Kd.R_drew)); exact HO245.out) hb); have n2_ := Aside0.mk (Kd.R_below (by (with_reducible repeat (first | apply Kd.R_alloc | apply Kd.R_drewN | apply Kd.R_drew)); exact HO248.out) hb); have n3_ := Aside0.mk (Kd.R_below (by (with_reducible repeat (first | apply Kd.R_alloc | apply Kd.R_drewN | apply Kd.R_drew)); exact HO252.out) hb); have n4_ := Aside0.mk (Kd.R_below (by (with_reducible repeat (first | apply Kd.R_alloc | apply Kd.R_drewN | apply Kd.R_drew)); exact HO255.out) hb); have n5_ := Aside0.mk (blk_below (g := gb239) (o := .cells #[.slice A0_0 l0_0.length c0_0, .slice A0_1 l0_1.length c0_1] 24 (0, 0)) (by (with_reducible repeat (first | refine blk_drewN ?_ _ | refine blk_drew ?_ | refine blk_alloc ?_ _)); exact BK239.out) hb); have n6_ := Aside0.mk (below_step (by repeat (first | (with_reducible first | exact HB.out | apply below_alloc | apply pw_below_drewN | apply below_drew1 | refine below_set ?_ GE239.out) | exact HB.out)) hb); clear HO242; clear HO245; clear HO248; clear HO252; clear HO255; clear BK239; clear HB; have HO242 := n0_; have HO245 := n1_; have HO248 := n2_; have HO252 := n3_; have HO255 := n4_; have BK239 := n5_; have HB := n6_; clear n0_ n1_ n2_ n3_ n4_ n5_ n6_; (try clear hb); (try clear hb2); (try clear hk); (try clear hi); obtain ⟨Ao20, co20, eo20⟩ := Kd.R_slice HO252.out; subst eo20; obtain ⟨Ao21, co21, eo21⟩ := Kd.R_slice HO255.out; subst eo21) | ((with_reducible refine gate_callee (f := 16) rfl ?_); refine goesL_ (some 23) rfl rfl Try.func16 (by kernel_rfl) rfl #[.agg #[.slice Ao20 t250.length co20, .slice Ao21 t253.length co21], .string t256] rfl (by (try simp only [List.map_toArray, List.map_cons, List.map_nil]); first | done | rfl | (simp only [List.length_drop, List.length_take]; rfl)) ?_; (with_reducible refine (Go.Proofs.Ytjffhhalmicodaa.X.fixes_Holds.calls k _ _ t250 _ _ t253 t256 t257 t258 _ ?side1 ?side2 ?side3 ?side4 A7.out).mono ?_); (case side1 => repeat (first | exact (Kd.R_reads' HO252.out).2.2 | (with_reducible refine Kd.C_alloc ?_ _) | (with_reducible refine Kd.C_drewN ?_ _) | (with_reducible refine Kd.C_drew ?_))); (case side2 => exact (Kd.R_reads' HO252.out).2.1); (case side3 => repeat (first | exact (Kd.R_reads' HO255.out).2.2 | (with_reducible refine Kd.C_alloc ?_ _) | (with_reducible refine Kd.C_drewN ?_ _) | (with_reducible refine Kd.C_drew ?_))); (case side4 => exact (Kd.R_reads' HO255.out).2.1); rintro e w22 ⟨rfl, hb⟩; refine ⟨_, rfl, ?_⟩; have n0_ := Aside0.mk (Kd.R_below (by (with_reducible repeat (first | apply Kd.R_alloc | apply Kd.R_drewN | apply Kd.R_drew)); exact HO242.out) hb); have n1_ := Aside0.mk (Kd.R_below (by (with_reducible repeat (first | apply Kd.R_alloc | apply Kd.R_drewN | apply Kd.R_drew)); exact HO245.out) hb); have n2_ := Aside0.mk (Kd.R_below (by (with_reducible repeat (first | apply Kd.R_alloc | apply Kd.R_drewN | apply Kd.R_drew)); exact HO248.out) hb); have n3_ := Aside0.mk (Kd.R_below (by (with_reducible repeat (first | apply Kd.R_alloc | apply Kd.R_drewN | apply Kd.R_drew)); exact HO252.out) hb); have n4_ := Aside0.mk (Kd.R_below (by (with_reducible repeat (first | apply Kd.R_alloc | apply Kd.R_drewN | apply Kd.R_drew)); exact HO255.out) hb); have n5_ := Aside0.mk (blk_below (g := gb239) (o := .cells #[.slice A0_0 l0_0.length c0_0, .slice A0_1 l0_1.length c0_1] 24 (0, 0)) (by (with_reducible repeat (first | refine blk_drewN ?_ _ | refine blk_drew ?_ | refine blk_alloc ?_ _)); exact BK239.out) hb); have n6_ := Aside0.mk (below_step (by repeat (first | (with_reducible first | exact HB.out | apply below_alloc | apply pw_below_drewN | apply below_drew1 | refine below_set ?_ GE239.out) | exact HB.out)) hb); clear HO242; clear HO245; clear HO248; clear HO252; clear HO255; clear BK239; clear HB; have HO242 := n0_; have HO245 := n1_; have HO248 := n2_; have HO252 := n3_; have HO255 := n4_; have BK239 := n5_; have HB := n6_; clear n0_ n1_ n2_ n3_ n4_ n5_ n6_; (try clear hb); (try clear hb2); (try clear hk); (try clear hi); have hcz23_0 : w22.cell? ⟨gb239, 0, none⟩ = some (.slice A0_0 l0_0.length c0_0) := (blk_cell BK239.out 0).trans rfl; have hcz23_1 : w22.cell? ⟨gb239, 1, none⟩ = some (.slice A0_1 l0_1.length c0_1) := (blk_cell BK239.out 1).trans rfl; have hfz23_0 := blk_frozen BK239.out 0; have hfz23_1 := blk_frozen BK239.out 1) | ((with_reducible refine gate_callee (f := 21) rfl ?_); refine goesL_ (some 27) rfl rfl Try.func21 (by kernel_rfl) rfl #[.agg #[.slice A0_0 l0_0.length c0_0, .slice A0_1 l0_1.length c0_1]] rfl (by (try simp only [List.map_toArray, List.map_cons, List.map_nil]); first | done | rfl | (simp only [List.length_drop, List.length_take]; rfl)) ?_; (with_reducible refine (Go.Proofs.Ytjffhhalmicodaa.PB.comfitref08_Valid.calls k _ _ l0_0 _ _ l0_1 true _ ?side1 ?side2 ?side3 ?side4 A8.out).mono ?_); (case side1 => repeat (first | exact (Kd.C_below HR0_0.out HB.out) | (with_reducible refine Kd.C_alloc ?_ _) | (with_reducible refine Kd.C_drewN ?_ _) | (with_reducible refine Kd.C_drew ?_))); (case side2 => exact HC0_0.out); (case side3 => repeat (first | exact (Kd.C_below HR0_1.out HB.out) | (with_reducible refine Kd.C_alloc ?_ _) | (with_reducible refine Kd.C_drewN ?_ _) | (with_reducible refine Kd.C_drew ?_))); (case side4 => exact HC0_1.out); rintro e w24 ⟨rfl, hb⟩; refine ⟨_, rfl, ?_⟩; have n0_ := Aside0.mk (Kd.R_below (by (with_reducible repeat (first | apply Kd.R_alloc | apply Kd.R_drewN | apply Kd.R_drew)); exact HO242.out) hb); have n1_ := Aside0.mk (Kd.R_below (by (with_reducible repeat (first | apply Kd.R_alloc | apply Kd.R_drewN | apply Kd.R_drew)); exact HO245.out) hb); have n2_ := Aside0.mk (Kd.R_below (by (with_reducible repeat (first | apply Kd.R_alloc | apply Kd.R_drewN | apply Kd.R_drew)); exact HO248.out) hb); have n3_ := Aside0.mk (Kd.R_below (by (with_reducible repeat (first | apply Kd.R_alloc | apply Kd.R_drewN | apply Kd.R_drew)); exact HO252.out) hb); have n4_ := Aside0.mk (Kd.R_below (by (with_reducible repeat (first | apply Kd.R_alloc | apply Kd.R_drewN | apply Kd.R_drew)); exact HO255.out) hb); have n5_ := Aside0.mk (blk_below (g := gb239) (o := .cells #[.slice A0_0 l0_0.length c0_0, .slice A0_1 l0_1.length c0_1] 24 (0, 0)) (by (with_reducible repeat (first | refine blk_drewN ?_ _ | refine blk_drew ?_ | refine blk_alloc ?_ _)); exact BK239.out) hb); have n6_ := Aside0.mk (below_step (by repeat (first | (with_reducible first | exact HB.out | apply below_alloc | apply pw_below_drewN | apply below_drew1 | refine below_set ?_ GE239.out) | exact HB.out)) hb); clear HO242; clear HO245; clear HO248; clear HO252; clear HO255; clear BK239; clear HB; have HO242 := n0_; have HO245 := n1_; have HO248 := n2_; have HO252 := n3_; have HO255 := n4_; have BK239 := n5_; have HB := n6_; clear n0_ n1_ n2_ n3_ n4_ n5_ n6_; (try clear hb); (try clear hb2); (try clear hk); (try clear hi)))
    (try simp only [Act.put, List.setIfInBounds_toArray, List.set_cons_zero, List.set_cons_succ])
    go_cut [46] (fun v46 wc => ∃ (kq : Nat) (x46_9 : Bool), v46 = .bool x46_9 ∧ Aside0 (comfitlaw08_FixesEqual.j0 kq t246 t257 t258 x46_9 l0_0 l0_1 = some r) ∧ Aside0 (kq ≤ k) ∧ Aside0 (Kd.R (Kd.int .i64) 3 wc w.heap.size (fun _ => True) v247 t246) ∧ Aside0 (wc.heap[gb239]? = some (.cells #[(.slice A0_0 l0_0.length c0_0), (.slice A0_1 l0_1.length c0_1)] 24 (0, 0))) ∧ Aside0 (Below w.heap.size w wc))
    case first =>
      have H := HC10.out
      clear HC10
      by_cases c25 : t249 = 0
      · rw [if_pos c25] at H
        have c25b0 : (t249 == 0) = true := beq_iff_eq.mpr c25
        have c25b1 : (t249 != 0) = false := bne_eq_false_iff_eq.mpr c25
        clear c25
        (first | rw [c25b0] | (simp only [i64_w, i32_w]; rw [c25b0]) | skip)
        replace H := Option.bind_eq_some_iff.mp H
        obtain ⟨t261, A260, H⟩ := H
        replace H : (comfitlaw08_FixesEqual.j0 k t246 t257 t258 ((t258 == 0) != t261) l0_0 l0_1) = some r := H
        have A26 := Aside0.mk A260
        clear A260
        have H' := Aside0.mk H
        clear H
        go_wp2_with (first | (go_at_call 20; (with_reducible refine (Go.Proofs.Ytjffhhalmicodaa.PB.comfitref08_Is.calls k a1 t261 _ A26.out).mono ?_); rintro e w27 ⟨rfl, hb⟩; have n0_ := Aside0.mk (Kd.R_below (by (with_reducible repeat (first | apply Kd.R_alloc | apply Kd.R_drewN | apply Kd.R_drew)); exact HO242.out) hb); have n1_ := Aside0.mk (Kd.R_below (by (with_reducible repeat (first | apply Kd.R_alloc | apply Kd.R_drewN | apply Kd.R_drew)); exact HO245.out) hb); have n2_ := Aside0.mk (Kd.R_below (by (with_reducible repeat (first | apply Kd.R_alloc | apply Kd.R_drewN | apply Kd.R_drew)); exact HO248.out) hb); have n3_ := Aside0.mk (Kd.R_below (by (with_reducible repeat (first | apply Kd.R_alloc | apply Kd.R_drewN | apply Kd.R_drew)); exact HO252.out) hb); have n4_ := Aside0.mk (Kd.R_below (by (with_reducible repeat (first | apply Kd.R_alloc | apply Kd.R_drewN | apply Kd.R_drew)); exact HO255.out) hb); have n5_ := Aside0.mk (blk_below (g := gb239) (o := .cells #[.slice A0_0 l0_0.length c0_0, .slice A0_1 l0_1.length c0_1] 24 (0, 0)) (by (with_reducible repeat (first | refine blk_drewN ?_ _ | refine blk_drew ?_ | refine blk_alloc ?_ _)); exact BK239.out) hb); have n6_ := Aside0.mk (below_step (by repeat (first | (with_reducible first | exact HB.out | apply below_alloc | apply pw_below_drewN | apply below_drew1 | refine below_set ?_ GE239.out) | exact HB.out)) hb); clear HO242; clear HO245; clear HO248; clear HO252; clear HO255; clear BK239; clear HB; have HO242 := n0_; have HO245 := n1_; have HO248 := n2_; have HO252 := n3_; have HO255 := n4_; have BK239 := n5_; have HB := n6_; clear n0_ n1_ n2_ n3_ n4_ n5_ n6_; (try clear hb); (try clear hb2); (try clear hk); (try clear hi)))
        go_meet
        case rel => exact ⟨_, (((t258 == 0) != t261)), (by first | rfl | (simp; done) | (simp [*]; done)), H', ⟨by first | omega | exact Nat.le_refl _⟩, ⟨by (with_reducible repeat (first | apply Kd.R_alloc | apply Kd.R_drewN | apply Kd.R_drew)); exact Kd.R_mono HO248.out (fun _ hk => trivial)⟩, ⟨by (with_reducible repeat (first | refine blk_drewN ?_ _ | refine blk_drew ?_ | refine blk_alloc ?_ _)); exact BK239.out⟩, ⟨by repeat (first | (with_reducible first | exact HB.out | apply below_alloc | apply pw_below_drewN | apply below_drew1 | refine below_set ?_ GE239.out) | exact HB.out)⟩⟩
      · rw [if_neg c25] at H
        have c25b0 : (t249 == 0) = false := beq_eq_false_iff_ne.mpr c25
        have c25b1 : (t249 != 0) = true := bne_iff_ne.mpr c25
        (first | rw [c25b0] | (simp only [i64_w, i32_w]; rw [c25b0]) | skip)
        have H' := Aside0.mk H
        clear H
        go_wp2
        go_meet
        case rel => exact ⟨_, (true), (by first | rfl | (simp; done) | (simp [*]; done)), H', ⟨by first | omega | exact Nat.le_refl _⟩, ⟨by (with_reducible repeat (first | apply Kd.R_alloc | apply Kd.R_drewN | apply Kd.R_drew)); exact Kd.R_mono HO248.out (fun _ hk => trivial)⟩, ⟨by (with_reducible repeat (first | refine blk_drewN ?_ _ | refine blk_drew ?_ | refine blk_alloc ?_ _)); exact BK239.out⟩, ⟨by repeat (first | (with_reducible first | exact HB.out | apply below_alloc | apply pw_below_drewN | apply below_drew1 | refine below_set ?_ GE239.out) | exact HB.out)⟩⟩
    case rest =>
      clear HC10
      try clear c1
      try clear c2
      try clear p2
      try clear c3
      try clear c9
      try clear c10
      try clear c16
      try clear c17
      try clear c18
      try clear c21
      try clear c25
      try clear c25b0
      try clear c25b1
      try clear hcz12_0
      try clear hcz12_1
      try clear hcz17_0
      try clear hcz17_1
      try clear hcz23_0
      try clear hcz23_1
      try clear hfz12_0
      try clear hfz12_1
      try clear hfz17_0
      try clear hfz17_1
      try clear hfz23_0
      try clear hfz23_1
      obtain ⟨kq, x46_9, rfl, HA, HJ9, HO_5, BK239, HB⟩ := hcut
      cases kq with
      | zero => exact absurd HA.out (by simp [comfitlaw08_FixesEqual.j0])
      | succ kj9 =>
        have H := HA.out
        clear HA
        simp only [comfitlaw08_FixesEqual.j0] at H
        by_cases c28 : x46_9 = true
        · subst c28
          have H1 : (some false) = some r := by rw [if_pos rfl] at H; exact H
          clear H
          have H := H1
          clear H1
          obtain rfl := Option.some.inj H
          go_wp2
          go_ret
          exact ⟨by first | rfl | (simp [errW_none, errW_some] <;> rfl) | (simp [*, errW_none, errW_some] <;> rfl), by repeat (first | (with_reducible first | exact HB.out | apply below_alloc | apply pw_below_drewN | apply below_drew1 | refine below_set ?_ GE239.out) | exact HB.out)⟩
        · replace c28 := Bool.eq_false_iff.mpr c28
          subst c28
          have H1 : (comfitlaw08_FixesEqual.l0 kj9 t257 t258 0 t246 (t246.length : Int) 0 l0_0 l0_1) = some r := by rw [if_neg (show ¬ (false = true) by decide)] at H; exact H
          clear H
          have H := H1
          clear H1
          have H' := Aside0.mk H
          clear H
          obtain ⟨Ao29, co29, eo29⟩ := Kd.R_slice HO_5.out
          subst eo29
          go_wp2
          go_loopg [9, 49] kj9 (fun kq v9 v49 w' => ∃ (x9_2 : Int) (x49_2 : Int), v9 = .int .i64 x9_2 ∧ v49 = .int .i64 x49_2 ∧ Aside0 (comfitlaw08_FixesEqual.l0 kq t257 t258 x9_2 t246 (t246.length : Int) x49_2 l0_0 l0_1 = some r) ∧ Aside0 (kq ≤ kj9) ∧ Aside0 (Kd.R (Kd.int .i64) 3 w' w.heap.size (fun _ => True) (.slice Ao29 t246.length co29) t246) ∧ Aside0 (w'.heap[gb239]? = some (.cells #[(.slice A0_0 l0_0.length c0_0), (.slice A0_1 l0_1.length c0_1)] 24 (0, 0))) ∧ Aside0 (Below w.heap.size w w'))
          case atStart => exact ⟨(0), (0), (by first | rfl | (simp; done) | (simp [*]; done)), (by first | rfl | (simp; done) | (simp [*]; done)), H', ⟨Nat.le_refl _⟩, ⟨by (with_reducible repeat (first | apply Kd.R_alloc | apply Kd.R_drewN | apply Kd.R_drew)); exact HO_5.out⟩, ⟨by (with_reducible repeat (first | refine blk_drewN ?_ _ | refine blk_drew ?_ | refine blk_alloc ?_ _)); exact BK239.out⟩, ⟨by repeat (first | (with_reducible first | exact HB.out | apply below_alloc | apply pw_below_drewN | apply below_drew1 | refine below_set ?_ GE239.out) | exact HB.out)⟩⟩
          case round =>
            clear H'
            try clear c1
            try clear c2
            try clear p2
            try clear c3
            try clear c9
            try clear c10
            try clear c16
            try clear c17
            try clear c18
            try clear c21
            try clear c25
            try clear c25b0
            try clear c25b1
            try clear c28
            try clear hcz12_0
            try clear hcz12_1
            try clear hcz17_0
            try clear hcz17_1
            try clear hcz23_0
            try clear hcz23_1
            try clear hfz12_0
            try clear hfz12_1
            try clear hfz17_0
            try clear hfz17_1
            try clear hfz23_0
            try clear hfz23_1
            try clear p2
            obtain ⟨x9_2, x49_2, rfl, rfl, HA, HK2, HO_47, BK239, HB⟩ := hrel
            cases gk with
            | zero => exact absurd HA.out (by simp [comfitlaw08_FixesEqual.l0])
            | succ k2 =>
              have H := HA.out
              clear HA
              simp only [comfitlaw08_FixesEqual.l0] at H
              by_cases c30 : x49_2 < (t246.length : Int)
              · rw [if_pos c30] at H
                have c30b0 : decide (x49_2 < (t246.length : Int)) = true := decide_eq_true c30
                clear c30
                by_cases c31 : 0 ≤ x49_2
                · rw [if_pos c31] at H
                  have c31b0 : decide (0 ≤ x49_2) = true := decide_eq_true c31
                  clear c31
                  by_cases c32 : x49_2 < (t246.length : Int)
                  · rw [if_pos c32] at H
                    have c32b0 : decide (x49_2 < (t246.length : Int)) = true := decide_eq_true c32
                    clear c32
                    by_cases c33 : (rd t246 x49_2) < 1
                    · rw [if_pos c33] at H
                      have c33b0 : decide ((rd t246 x49_2) < 1) = true := decide_eq_true c33
                      clear c33
                      obtain rfl := Option.some.inj H
                      have p262 : 0 ≤ (x49_2 : Int) := of_decide_eq_true (by first | (with_reducible assumption) | assumption)
                      have q262 : x49_2 < (t246.length : Int) := of_decide_eq_true (by first | (with_reducible assumption) | assumption)
                      obtain ⟨ad262, e262, hx262_0⟩ := Kd.at_int (Kd.R_reads' HO_47.out).2.2 x49_2 p262 q262
                      cases e262
                      replace p262 := eq_true p262
                      replace q262 := eq_true q262
                      go_wp2
                      go_ret
                      exact ⟨by first | rfl | (simp [errW_none, errW_some] <;> rfl) | (simp [*, errW_none, errW_some] <;> rfl), by repeat (first | (with_reducible first | exact HB.out | apply below_alloc | apply pw_below_drewN | apply below_drew1 | refine below_set ?_ GE239.out) | exact HB.out)⟩
                    · rw [if_neg c33] at H
                      have c33b0 : decide ((rd t246 x49_2) < 1) = false := decide_eq_false c33
                      clear c33
                      by_cases c34 : (Go.bits .and .i64 (rd t246 x49_2) x9_2) = 0
                      · rw [if_pos c34] at H
                        have c34b0 : ((Go.bits .and .i64 (rd t246 x49_2) x9_2) == 0) = true := beq_iff_eq.mpr c34
                        have c34b1 : ((Go.bits .and .i64 (rd t246 x49_2) x9_2) != 0) = false := bne_eq_false_iff_eq.mpr c34
                        clear c34
                        by_cases c35 : t258 = 0
                        · rw [if_pos c35] at H
                          have c35b0 : (t258 == 0) = true := beq_iff_eq.mpr c35
                          have c35b1 : (t258 != 0) = false := bne_eq_false_iff_eq.mpr c35
                          clear c35
                          by_cases c36 : (Go.bits .and .i64 t257 (rd t246 x49_2)) = 0
                          · rw [if_pos c36] at H
                            have c36b0 : ((Go.bits .and .i64 t257 (rd t246 x49_2)) == 0) = true := beq_iff_eq.mpr c36
                            have c36b1 : ((Go.bits .and .i64 t257 (rd t246 x49_2)) != 0) = false := bne_eq_false_iff_eq.mpr c36
                            clear c36
                            have H' := Aside0.mk H
                            clear H
                            have p262 : 0 ≤ (x49_2 : Int) := of_decide_eq_true (by first | (with_reducible assumption) | assumption)
                            have q262 : x49_2 < (t246.length : Int) := of_decide_eq_true (by first | (with_reducible assumption) | assumption)
                            obtain ⟨ad262, e262, hx262_0⟩ := Kd.at_int (Kd.R_reads' HO_47.out).2.2 x49_2 p262 q262
                            cases e262
                            replace p262 := eq_true p262
                            replace q262 := eq_true q262
                            go_wp2
                            go_roundg k2
                            case measure => have := HJ9.out; have := HK2.out; omega
                            case rel => exact ⟨(Go.bits .or .i64 x9_2 (rd t246 x49_2)), (wrap64 (x49_2 + 1)), (by first | rfl | (simp; done) | (simp [*]; done)), (by first | rfl | (simp; done) | (simp [*]; done)), H', ⟨by have := HJ9.out; have := HK2.out; omega⟩, ⟨by (with_reducible repeat (first | apply Kd.R_alloc | apply Kd.R_drewN | apply Kd.R_drew)); exact HO_47.out⟩, ⟨by (with_reducible repeat (first | refine blk_drewN ?_ _ | refine blk_drew ?_ | refine blk_alloc ?_ _)); exact BK239.out⟩, ⟨by repeat (first | (with_reducible first | exact HB.out | apply below_alloc | apply pw_below_drewN | apply below_drew1 | refine below_set ?_ GE239.out) | exact HB.out)⟩⟩
                          · rw [if_neg c36] at H
                            have c36b0 : ((Go.bits .and .i64 t257 (rd t246 x49_2)) == 0) = false := beq_eq_false_iff_ne.mpr c36
                            have c36b1 : ((Go.bits .and .i64 t257 (rd t246 x49_2)) != 0) = true := bne_iff_ne.mpr c36
                            by_cases c37 : (Go.bits .and .i64 t257 (rd t246 x49_2)) = (rd t246 x49_2)
                            · rw [if_pos c37] at H
                              have c37b0 : ((Go.bits .and .i64 t257 (rd t246 x49_2)) == (rd t246 x49_2)) = true := beq_iff_eq.mpr c37
                              have c37b1 : ((Go.bits .and .i64 t257 (rd t246 x49_2)) != (rd t246 x49_2)) = false := bne_eq_false_iff_eq.mpr c37
                              clear c37
                              have H' := Aside0.mk H
                              clear H
                              have p262 : 0 ≤ (x49_2 : Int) := of_decide_eq_true (by first | (with_reducible assumption) | assumption)
                              have q262 : x49_2 < (t246.length : Int) := of_decide_eq_true (by first | (with_reducible assumption) | assumption)
                              obtain ⟨ad262, e262, hx262_0⟩ := Kd.at_int (Kd.R_reads' HO_47.out).2.2 x49_2 p262 q262
                              cases e262
                              replace p262 := eq_true p262
                              replace q262 := eq_true q262
                              go_wp2
                              go_roundg k2
                              case measure => have := HJ9.out; have := HK2.out; omega
                              case rel => exact ⟨(Go.bits .or .i64 x9_2 (rd t246 x49_2)), (wrap64 (x49_2 + 1)), (by first | rfl | (simp; done) | (simp [*]; done)), (by first | rfl | (simp; done) | (simp [*]; done)), H', ⟨by have := HJ9.out; have := HK2.out; omega⟩, ⟨by (with_reducible repeat (first | apply Kd.R_alloc | apply Kd.R_drewN | apply Kd.R_drew)); exact HO_47.out⟩, ⟨by (with_reducible repeat (first | refine blk_drewN ?_ _ | refine blk_drew ?_ | refine blk_alloc ?_ _)); exact BK239.out⟩, ⟨by repeat (first | (with_reducible first | exact HB.out | apply below_alloc | apply pw_below_drewN | apply below_drew1 | refine below_set ?_ GE239.out) | exact HB.out)⟩⟩
                            · rw [if_neg c37] at H
                              have c37b0 : ((Go.bits .and .i64 t257 (rd t246 x49_2)) == (rd t246 x49_2)) = false := beq_eq_false_iff_ne.mpr c37
                              have c37b1 : ((Go.bits .and .i64 t257 (rd t246 x49_2)) != (rd t246 x49_2)) = true := bne_iff_ne.mpr c37
                              obtain rfl := Option.some.inj H
                              have p262 : 0 ≤ (x49_2 : Int) := of_decide_eq_true (by first | (with_reducible assumption) | assumption)
                              have q262 : x49_2 < (t246.length : Int) := of_decide_eq_true (by first | (with_reducible assumption) | assumption)
                              obtain ⟨ad262, e262, hx262_0⟩ := Kd.at_int (Kd.R_reads' HO_47.out).2.2 x49_2 p262 q262
                              cases e262
                              replace p262 := eq_true p262
                              replace q262 := eq_true q262
                              go_wp2
                              go_ret
                              exact ⟨by first | rfl | (simp [errW_none, errW_some] <;> rfl) | (simp [*, errW_none, errW_some] <;> rfl), by repeat (first | (with_reducible first | exact HB.out | apply below_alloc | apply pw_below_drewN | apply below_drew1 | refine below_set ?_ GE239.out) | exact HB.out)⟩
                        · rw [if_neg c35] at H
                          have c35b0 : (t258 == 0) = false := beq_eq_false_iff_ne.mpr c35
                          have c35b1 : (t258 != 0) = true := bne_iff_ne.mpr c35
                          have H' := Aside0.mk H
                          clear H
                          have p262 : 0 ≤ (x49_2 : Int) := of_decide_eq_true (by first | (with_reducible assumption) | assumption)
                          have q262 : x49_2 < (t246.length : Int) := of_decide_eq_true (by first | (with_reducible assumption) | assumption)
                          obtain ⟨ad262, e262, hx262_0⟩ := Kd.at_int (Kd.R_reads' HO_47.out).2.2 x49_2 p262 q262
                          cases e262
                          replace p262 := eq_true p262
                          replace q262 := eq_true q262
                          go_wp2
                          go_roundg k2
                          case measure => have := HJ9.out; have := HK2.out; omega
                          case rel => exact ⟨(Go.bits .or .i64 x9_2 (rd t246 x49_2)), (wrap64 (x49_2 + 1)), (by first | rfl | (simp; done) | (simp [*]; done)), (by first | rfl | (simp; done) | (simp [*]; done)), H', ⟨by have := HJ9.out; have := HK2.out; omega⟩, ⟨by (with_reducible repeat (first | apply Kd.R_alloc | apply Kd.R_drewN | apply Kd.R_drew)); exact HO_47.out⟩, ⟨by (with_reducible repeat (first | refine blk_drewN ?_ _ | refine blk_drew ?_ | refine blk_alloc ?_ _)); exact BK239.out⟩, ⟨by repeat (first | (with_reducible first | exact HB.out | apply below_alloc | apply pw_below_drewN | apply below_drew1 | refine below_set ?_ GE239.out) | exact HB.out)⟩⟩
                      · rw [if_neg c34] at H
                        have c34b0 : ((Go.bits .and .i64 (rd t246 x49_2) x9_2) == 0) = false := beq_eq_false_iff_ne.mpr c34
                        have c34b1 : ((Go.bits .and .i64 (rd t246 x49_2) x9_2) != 0) = true := bne_iff_ne.mpr c34
                        obtain rfl := Option.some.inj H
                        have p262 : 0 ≤ (x49_2 : Int) := of_decide_eq_true (by first | (with_reducible assumption) | assumption)
                        have q262 : x49_2 < (t246.length : Int) := of_decide_eq_true (by first | (with_reducible assumption) | assumption)
                        obtain ⟨ad262, e262, hx262_0⟩ := Kd.at_int (Kd.R_reads' HO_47.out).2.2 x49_2 p262 q262
                        cases e262
                        replace p262 := eq_true p262
                        replace q262 := eq_true q262
                        go_wp2
                        go_ret
                        exact ⟨by first | rfl | (simp [errW_none, errW_some] <;> rfl) | (simp [*, errW_none, errW_some] <;> rfl), by repeat (first | (with_reducible first | exact HB.out | apply below_alloc | apply pw_below_drewN | apply below_drew1 | refine below_set ?_ GE239.out) | exact HB.out)⟩
                  · rw [if_neg c32] at H
                    exact absurd H (by simp)
                · rw [if_neg c31] at H
                  exact absurd H (by simp)
              · rw [if_neg c30] at H
                have c30b0 : decide (x49_2 < (t246.length : Int)) = false := decide_eq_false c30
                clear c30
                obtain ⟨ji38, hji38⟩ : ∃ j_ : Int, (shl .i64 1 (l0_0.length : Int)) = j_ := ⟨_, rfl⟩
                replace H : (if x9_2 = (wrap64 ((ji38) - 1)) then ((Go.Proofs.Ytjffhhalmicodaa.PB.comfitlaw08_awake.f k2).bind fun t263 => (some t263)) else (some false)) = some r := by first | (rw [hji38] at H; exact H) | (simp only [hji38] at H ⊢; exact H)
                have hji38_ : (IntKind.i64.wrap (1 * 2 ^ min (l0_0.length : Int).toNat 64)) = ji38 := hji38
                have hji38z : (l0_0.length : Int) ≤ 64 → (IntKind.i64.wrap (1 * 2 ^ (l0_0.length : Int).toNat)) = ji38 := shl_small hji38
                have hji38p : (IntKind.i64.wrap (1 * 2 ^ min l0_0.length 64)) = ji38 := hji38_
                have hji38q : (l0_0.length : Int) ≤ 64 → (IntKind.i64.wrap (1 * 2 ^ l0_0.length)) = ji38 := hji38z
                have hji38r : (IntKind.i64.wrap (2 ^ min l0_0.length 64)) = ji38 := by have h_ := hji38p; rw [Int.one_mul] at h_; exact h_
                have hji38s : (l0_0.length : Int) ≤ 64 → (IntKind.i64.wrap (2 ^ l0_0.length)) = ji38 := fun hle_ => by have h_ := hji38q hle_; rw [Int.one_mul] at h_; exact h_
                have hji38u : (IntKind.i64.wrap (2 ^ min (l0_0.length : Int).toNat 64)) = ji38 := by have h_ := hji38_; rw [Int.one_mul] at h_; exact h_
                have hji38v : (l0_0.length : Int) ≤ 64 → (IntKind.i64.wrap (2 ^ (l0_0.length : Int).toNat)) = ji38 := fun hle_ => by have h_ := hji38z hle_; rw [Int.one_mul] at h_; exact h_
                have hji38y : (wrap64 (1 * 2 ^ min (l0_0.length : Int).toNat 64)) = ji38 := (i64_w _).symm.trans hji38_
                have hji38x : (l0_0.length : Int) ≤ 64 → (wrap64 (1 * 2 ^ (l0_0.length : Int).toNat)) = ji38 := fun h_ => (i64_w _).symm.trans (hji38z h_)
                by_cases c39 : x9_2 = (wrap64 ((ji38) - 1))
                · rw [if_pos c39] at H
                  have c39b0 : (x9_2 == (wrap64 ((ji38) - 1))) = true := beq_iff_eq.mpr c39
                  have c39b1 : (x9_2 != (wrap64 ((ji38) - 1))) = false := bne_eq_false_iff_eq.mpr c39
                  clear c39
                  replace H := Option.bind_eq_some_iff.mp H
                  obtain ⟨t263, A400, H⟩ := H
                  replace H : (some t263) = some r := H
                  have A40 := Aside0.mk A400
                  clear A400
                  obtain rfl := Option.some.inj H
                  have hcz41_0 : wr.cell? ⟨gb239, 0, none⟩ = some (.slice A0_0 l0_0.length c0_0) := (blk_cell BK239.out 0).trans rfl
                  have hcz41_1 : wr.cell? ⟨gb239, 1, none⟩ = some (.slice A0_1 l0_1.length c0_1) := (blk_cell BK239.out 1).trans rfl
                  have hfz41_0 := blk_frozen BK239.out 0
                  have hfz41_1 := blk_frozen BK239.out 1
                  go_wp2_with (first | (go_at_call 22; (with_reducible refine (Go.Proofs.Ytjffhhalmicodaa.PB.comfitlaw08_awake.calls k2  t263 _ A40.out).mono ?_); rintro e w42 ⟨rfl, hb⟩; have n0_ := Aside0.mk (Kd.R_below (by (with_reducible repeat (first | apply Kd.R_alloc | apply Kd.R_drewN | apply Kd.R_drew)); exact HO_47.out) hb); have n1_ := Aside0.mk (blk_below (g := gb239) (o := .cells #[.slice A0_0 l0_0.length c0_0, .slice A0_1 l0_1.length c0_1] 24 (0, 0)) (by (with_reducible repeat (first | refine blk_drewN ?_ _ | refine blk_drew ?_ | refine blk_alloc ?_ _)); exact BK239.out) hb); have n2_ := Aside0.mk (below_step (by repeat (first | (with_reducible first | exact HB.out | apply below_alloc | apply pw_below_drewN | apply below_drew1 | refine below_set ?_ GE239.out) | exact HB.out)) hb); clear HO_47; clear BK239; clear HB; have HO_47 := n0_; have BK239 := n1_; have HB := n2_; clear n0_ n1_ n2_; (try clear hb); (try clear hb2); (try clear hk); (try clear hi)))
                  go_ret
                  exact ⟨by first | rfl | (simp [errW_none, errW_some] <;> rfl) | (simp only [← hji38]; first | rfl | (simp [errW_none, errW_some] <;> rfl)) | (simp [*, errW_none, errW_some] <;> rfl), by repeat (first | (with_reducible first | exact HB.out | apply below_alloc | apply pw_below_drewN | apply below_drew1 | refine below_set ?_ GE239.out) | exact HB.out)⟩
                · rw [if_neg c39] at H
                  have c39b0 : (x9_2 == (wrap64 ((ji38) - 1))) = false := beq_eq_false_iff_ne.mpr c39
                  have c39b1 : (x9_2 != (wrap64 ((ji38) - 1))) = true := bne_iff_ne.mpr c39
                  obtain rfl := Option.some.inj H
                  have hcz43_0 : wr.cell? ⟨gb239, 0, none⟩ = some (.slice A0_0 l0_0.length c0_0) := (blk_cell BK239.out 0).trans rfl
                  have hcz43_1 : wr.cell? ⟨gb239, 1, none⟩ = some (.slice A0_1 l0_1.length c0_1) := (blk_cell BK239.out 1).trans rfl
                  have hfz43_0 := blk_frozen BK239.out 0
                  have hfz43_1 := blk_frozen BK239.out 1
                  go_wp2
                  go_ret
                  exact ⟨by first | rfl | (simp [errW_none, errW_some] <;> rfl) | (simp only [← hji38]; first | rfl | (simp [errW_none, errW_some] <;> rfl)) | (simp [*, errW_none, errW_some] <;> rfl), by repeat (first | (with_reducible first | exact HB.out | apply below_alloc | apply pw_below_drewN | apply below_drew1 | refine below_set ?_ GE239.out) | exact HB.out)⟩
  · replace c9 := Bool.eq_false_iff.mpr c9
    subst c9
    have H1 : (if t249 = 2 then (if t258 = 2 then ((Go.Proofs.Ytjffhhalmicodaa.PB.comfitlaw08_awake.f k).bind fun t260 => (some t260)) else (some false)) else (some false)) = some r := by rw [if_neg (show ¬ (false = true) by decide)] at H; exact H
    clear H
    have H := H1
    clear H1
    by_cases c44 : t249 = 2
    · rw [if_pos c44] at H
      have c44b0 : (t249 == 2) = true := beq_iff_eq.mpr c44
      have c44b1 : (t249 != 2) = false := bne_eq_false_iff_eq.mpr c44
      clear c44
      by_cases c45 : t258 = 2
      · rw [if_pos c45] at H
        have c45b0 : (t258 == 2) = true := beq_iff_eq.mpr c45
        have c45b1 : (t258 != 2) = false := bne_eq_false_iff_eq.mpr c45
        clear c45
        replace H := Option.bind_eq_some_iff.mp H
        obtain ⟨t260, A460, H⟩ := H
        replace H : (some t260) = some r := H
        have A46 := Aside0.mk A460
        clear A460
        obtain rfl := Option.some.inj H
        go_enter Try.func10, Try.ntmps10
        go_wp2_with (first | ((with_reducible refine gate_dst (N := 2) rfl ?_); refine box_event ?hg (N := 2) ?hd (cs := #[.slice A0_0 l0_0.length c0_0, .slice A0_1 l0_1.length c0_1]) (t := 24) ?hr ?_; (case hd => rfl); (case hg => rfl); (case hr => first | (go_simp; done) | (go_simp; rfl)); intro gb239 hg w47 hbox hb; have n0_ := Aside0.mk (below_step (by repeat (first | (with_reducible first | exact HB.out | apply below_alloc | apply pw_below_drewN | apply below_drew1) | exact HB.out)) hb); have n1_ := Aside0.mk (hbox); have n2_ := Aside0.mk ((by rw [hg]; exact (below_size (by repeat (first | (with_reducible first | exact HB.out | apply below_alloc | apply pw_below_drewN | apply below_drew1) | exact HB.out))) : w.heap.size ≤ gb239)); have n3_ := Aside0.mk ((by rw [hg]; exact (below_size (by repeat (first | (with_reducible first | exact HB.out | apply below_alloc | apply pw_below_drewN | apply below_drew1) | exact HB.out))) : w.heap.size ≤ gb239)); clear HB; have HB := n0_; have BK239 := n1_; have GW239 := n2_; have GE239 := n3_; clear n0_ n1_ n2_ n3_; clear hb hbox hg; have hcz48_0 : w47.cell? ⟨gb239, 0, none⟩ = some (.slice A0_0 l0_0.length c0_0) := (blk_cell BK239.out 0).trans rfl; have hcz48_1 : w47.cell? ⟨gb239, 1, none⟩ = some (.slice A0_1 l0_1.length c0_1) := (blk_cell BK239.out 1).trans rfl; have hfz48_0 := blk_frozen BK239.out 0; have hfz48_1 := blk_frozen BK239.out 1) | ((with_reducible refine gate_callee (f := 17) rfl ?_); refine goesL_ (some 14) rfl rfl Try.func17 (by kernel_rfl) rfl #[.agg #[.slice A0_0 l0_0.length c0_0, .slice A0_1 l0_1.length c0_1]] rfl (by (try simp only [List.map_toArray, List.map_cons, List.map_nil]); first | done | rfl | (simp only [List.length_drop, List.length_take]; rfl)) ?_; (with_reducible refine (Go.Proofs.Ytjffhhalmicodaa.PA.comfitlaw08_Of.calls _ _ l0_0 _ _ l0_1 t240 t243 _ ?side1 ?side2 ?side3 ?side4 A3.out).mono ?_); (case side1 => repeat (first | exact (Kd.C_below HR0_0.out HB.out) | (with_reducible refine Kd.C_alloc ?_ _) | (with_reducible refine Kd.C_drewN ?_ _) | (with_reducible refine Kd.C_drew ?_))); (case side2 => exact HC0_0.out); (case side3 => repeat (first | exact (Kd.C_below HR0_1.out HB.out) | (with_reducible refine Kd.C_alloc ?_ _) | (with_reducible refine Kd.C_drewN ?_ _) | (with_reducible refine Kd.C_drew ?_))); (case side4 => exact HC0_1.out); rintro e w49 ⟨v241, v244, rfl, ho0, ho1, hb⟩; refine ⟨_, rfl, ?_⟩; have n0_ := Aside0.mk (Kd.R_lower ho0 (below_size (by repeat (first | (with_reducible first | exact HB.out | apply below_alloc | apply pw_below_drewN | apply below_drew1 | refine below_set ?_ GE239.out) | exact HB.out)))); have n1_ := Aside0.mk (Kd.R_lower ho1 (below_size (by repeat (first | (with_reducible first | exact HB.out | apply below_alloc | apply pw_below_drewN | apply below_drew1 | refine below_set ?_ GE239.out) | exact HB.out)))); have n2_ := Aside0.mk (blk_below (g := gb239) (o := .cells #[.slice A0_0 l0_0.length c0_0, .slice A0_1 l0_1.length c0_1] 24 (0, 0)) (by (with_reducible repeat (first | refine blk_drewN ?_ _ | refine blk_drew ?_ | refine blk_alloc ?_ _)); exact BK239.out) hb); have n3_ := Aside0.mk (below_step (by repeat (first | (with_reducible first | exact HB.out | apply below_alloc | apply pw_below_drewN | apply below_drew1 | refine below_set ?_ GE239.out) | exact HB.out)) hb); clear BK239; clear HB; have HO242 := n0_; have HO245 := n1_; have BK239 := n2_; have HB := n3_; clear n0_ n1_ n2_ n3_; (try clear hb); (try clear hb2); (try clear hk); (try clear hi); (try clear ho0); (try clear ho1); obtain ⟨Ao50, co50, eo50⟩ := Kd.R_slice HO242.out; subst eo50; obtain ⟨Ao51, co51, eo51⟩ := Kd.R_slice HO245.out; subst eo51) | ((with_reducible refine gate_callee (f := 33) rfl ?_); refine goesL_ (some 15) rfl rfl Try.func33 (by kernel_rfl) rfl #[.agg #[.slice Ao50 t240.length co50, .slice Ao51 t243.length co51]] rfl (by (try simp only [List.map_toArray, List.map_cons, List.map_nil]); first | done | rfl | (simp only [List.length_drop, List.length_take]; rfl)) ?_; (with_reducible refine (fixes_Classes.calls k _ _ t240 _ _ t243 t246 t249 _ ?side1 ?side2 ?side3 ?side4 A4.out).mono ?_); (case side1 => repeat (first | exact (Kd.R_reads' HO242.out).2.2 | (with_reducible refine Kd.C_alloc ?_ _) | (with_reducible refine Kd.C_drewN ?_ _) | (with_reducible refine Kd.C_drew ?_))); (case side2 => exact (Kd.R_reads' HO242.out).2.1); (case side3 => repeat (first | exact (Kd.R_reads' HO245.out).2.2 | (with_reducible refine Kd.C_alloc ?_ _) | (with_reducible refine Kd.C_drewN ?_ _) | (with_reducible refine Kd.C_drew ?_))); (case side4 => exact (Kd.R_reads' HO245.out).2.1); rintro e w52 ⟨v247, rfl, ho0, hb⟩; refine ⟨_, rfl, ?_⟩; have n0_ := Aside0.mk (Kd.R_elder' (by (with_reducible repeat (first | apply Kd.R_alloc | apply Kd.R_drewN | apply Kd.R_drew)); exact HO242.out) (Kd.R_base ho0) hb); have n1_ := Aside0.mk (Kd.R_elder' (by (with_reducible repeat (first | apply Kd.R_alloc | apply Kd.R_drewN | apply Kd.R_drew)); exact HO245.out) (Kd.R_base ho0) hb); have n2_ := Aside0.mk (Kd.R_lower (Kd.R_new' (Kd.R_new' ho0 (Kd.R_lt (by (with_reducible repeat (first | apply Kd.R_alloc | apply Kd.R_drewN | apply Kd.R_drew)); exact HO242.out))) (Kd.R_lt (by (with_reducible repeat (first | apply Kd.R_alloc | apply Kd.R_drewN | apply Kd.R_drew)); exact HO245.out))) (below_size (by repeat (first | (with_reducible first | exact HB.out | apply below_alloc | apply pw_below_drewN | apply below_drew1 | refine below_set ?_ GE239.out) | exact HB.out)))); have n3_ := Aside0.mk (blk_below (g := gb239) (o := .cells #[.slice A0_0 l0_0.length c0_0, .slice A0_1 l0_1.length c0_1] 24 (0, 0)) (by (with_reducible repeat (first | refine blk_drewN ?_ _ | refine blk_drew ?_ | refine blk_alloc ?_ _)); exact BK239.out) hb); have n4_ := Aside0.mk (below_step (by repeat (first | (with_reducible first | exact HB.out | apply below_alloc | apply pw_below_drewN | apply below_drew1 | refine below_set ?_ GE239.out) | exact HB.out)) hb); clear HO242; clear HO245; clear BK239; clear HB; have HO242 := n0_; have HO245 := n1_; have HO248 := n2_; have BK239 := n3_; have HB := n4_; clear n0_ n1_ n2_ n3_ n4_; (try clear hb); (try clear hb2); (try clear hk); (try clear hi); (try clear ho0); have hcz53_0 : w52.cell? ⟨gb239, 0, none⟩ = some (.slice A0_0 l0_0.length c0_0) := (blk_cell BK239.out 0).trans rfl; have hcz53_1 : w52.cell? ⟨gb239, 1, none⟩ = some (.slice A0_1 l0_1.length c0_1) := (blk_cell BK239.out 1).trans rfl; have hfz53_0 := blk_frozen BK239.out 0; have hfz53_1 := blk_frozen BK239.out 1) | ((with_reducible refine gate_callee (f := 17) rfl ?_); refine goesL_ (some 20) rfl rfl Try.func17 (by kernel_rfl) rfl #[.agg #[.slice A0_0 l0_0.length c0_0, .slice A0_1 l0_1.length c0_1]] rfl (by (try simp only [List.map_toArray, List.map_cons, List.map_nil]); first | done | rfl | (simp only [List.length_drop, List.length_take]; rfl)) ?_; (with_reducible refine (Go.Proofs.Ytjffhhalmicodaa.PA.comfitlaw08_Of.calls _ _ l0_0 _ _ l0_1 t250 t253 _ ?side1 ?side2 ?side3 ?side4 A5.out).mono ?_); (case side1 => repeat (first | exact (Kd.C_below HR0_0.out HB.out) | (with_reducible refine Kd.C_alloc ?_ _) | (with_reducible refine Kd.C_drewN ?_ _) | (with_reducible refine Kd.C_drew ?_))); (case side2 => exact HC0_0.out); (case side3 => repeat (first | exact (Kd.C_below HR0_1.out HB.out) | (with_reducible refine Kd.C_alloc ?_ _) | (with_reducible refine Kd.C_drewN ?_ _) | (with_reducible refine Kd.C_drew ?_))); (case side4 => exact HC0_1.out); rintro e w54 ⟨v251, v254, rfl, ho0, ho1, hb⟩; refine ⟨_, rfl, ?_⟩; have n0_ := Aside0.mk (Kd.R_mono (Kd.R_told (Kd.R_told (Kd.R_old (by (with_reducible repeat (first | apply Kd.R_alloc | apply Kd.R_drewN | apply Kd.R_drew)); exact HO242.out) hb) (Kd.R_base ho0)) (Kd.R_base ho1)) (fun _ h_ => h_.1)); have n1_ := Aside0.mk (Kd.R_mono (Kd.R_told (Kd.R_told (Kd.R_old (by (with_reducible repeat (first | apply Kd.R_alloc | apply Kd.R_drewN | apply Kd.R_drew)); exact HO245.out) hb) (Kd.R_base ho0)) (Kd.R_base ho1)) (fun _ h_ => h_.1)); have n2_ := Aside0.mk (Kd.R_mono (Kd.R_told (Kd.R_told (Kd.R_old (by (with_reducible repeat (first | apply Kd.R_alloc | apply Kd.R_drewN | apply Kd.R_drew)); exact HO248.out) hb) (Kd.R_base ho0)) (Kd.R_base ho1)) (fun _ h_ => h_.1)); have n3_ := Aside0.mk (Kd.R_lower (Kd.R_new' (Kd.R_new' (Kd.R_new' ho0 (Kd.R_lt (by (with_reducible repeat (first | apply Kd.R_alloc | apply Kd.R_drewN | apply Kd.R_drew)); exact HO242.out))) (Kd.R_lt (by (with_reducible repeat (first | apply Kd.R_alloc | apply Kd.R_drewN | apply Kd.R_drew)); exact HO245.out))) (Kd.R_lt (by (with_reducible repeat (first | apply Kd.R_alloc | apply Kd.R_drewN | apply Kd.R_drew)); exact HO248.out))) (below_size (by repeat (first | (with_reducible first | exact HB.out | apply below_alloc | apply pw_below_drewN | apply below_drew1 | refine below_set ?_ GE239.out) | exact HB.out)))); have n4_ := Aside0.mk (Kd.R_lower (Kd.R_new' (Kd.R_new' (Kd.R_new' ho1 (Kd.R_lt (by (with_reducible repeat (first | apply Kd.R_alloc | apply Kd.R_drewN | apply Kd.R_drew)); exact HO242.out))) (Kd.R_lt (by (with_reducible repeat (first | apply Kd.R_alloc | apply Kd.R_drewN | apply Kd.R_drew)); exact HO245.out))) (Kd.R_lt (by (with_reducible repeat (first | apply Kd.R_alloc | apply Kd.R_drewN | apply Kd.R_drew)); exact HO248.out))) (below_size (by repeat (first | (with_reducible first | exact HB.out | apply below_alloc | apply pw_below_drewN | apply below_drew1 | refine below_set ?_ GE239.out) | exact HB.out)))); have n5_ := Aside0.mk (blk_below (g := gb239) (o := .cells #[.slice A0_0 l0_0.length c0_0, .slice A0_1 l0_1.length c0_1] 24 (0, 0)) (by (with_reducible repeat (first | refine blk_drewN ?_ _ | refine blk_drew ?_ | refine blk_alloc ?_ _)); exact BK239.out) hb); have n6_ := Aside0.mk (below_step (by repeat (first | (with_reducible first | exact HB.out | apply below_alloc | apply pw_below_drewN | apply below_drew1 | refine below_set ?_ GE239.out) | exact HB.out)) hb); clear HO242; clear HO245; clear HO248; clear BK239; clear HB; have HO242 := n0_; have HO245 := n1_; have HO248 := n2_; have HO252 := n3_; have HO255 := n4_; have BK239 := n5_; have HB := n6_; clear n0_ n1_ n2_ n3_ n4_ n5_ n6_; (try clear hb); (try clear hb2); (try clear hk); (try clear hi); (try clear ho0); (try clear ho1)) | ((with_reducible refine gate_callee (f := 18) rfl ?_); refine goesL_ (some 22) rfl rfl Try.func18 (by kernel_rfl) rfl #[.string a1] rfl (by (try simp only [List.map_toArray, List.map_cons, List.map_nil]); first | done | rfl | (simp only [List.length_drop, List.length_take]; rfl)) ?_; (with_reducible refine (Go.Proofs.Ytjffhhalmicodaa.PA.comfitlaw08_text.calls a1 t256 _ A6.out).mono ?_); rintro e w55 ⟨rfl, hb⟩; refine ⟨_, rfl, ?_⟩; have n0_ := Aside0.mk (Kd.R_below (by (with_reducible repeat (first | apply Kd.R_alloc | apply Kd.R_drewN | apply Kd.R_drew)); exact HO242.out) hb); have n1_ := Aside0.mk (Kd.R_below (by (with_reducible repeat (first | apply Kd.R_alloc | apply Kd.R_drewN | apply Kd.R_drew)); exact HO245.out) hb); have n2_ := Aside0.mk (Kd.R_below (by (with_reducible repeat (first | apply Kd.R_alloc | apply Kd.R_drewN | apply Kd.R_drew)); exact HO248.out) hb); have n3_ := Aside0.mk (Kd.R_below (by (with_reducible repeat (first | apply Kd.R_alloc | apply Kd.R_drewN | apply Kd.R_drew)); exact HO252.out) hb); have n4_ := Aside0.mk (Kd.R_below (by (with_reducible repeat (first | apply Kd.R_alloc | apply Kd.R_drewN | apply Kd.R_drew)); exact HO255.out) hb); have n5_ := Aside0.mk (blk_below (g := gb239) (o := .cells #[.slice A0_0 l0_0.length c0_0, .slice A0_1 l0_1.length c0_1] 24 (0, 0)) (by (with_reducible repeat (first | refine blk_drewN ?_ _ | refine blk_drew ?_ | refine blk_alloc ?_ _)); exact BK239.out) hb); have n6_ := Aside0.mk (below_step (by repeat (first | (with_reducible first | exact HB.out | apply below_alloc | apply pw_below_drewN | apply below_drew1 | refine below_set ?_ GE239.out) | exact HB.out)) hb); clear HO242; clear HO245; clear HO248; clear HO252; clear HO255; clear BK239; clear HB; have HO242 := n0_; have HO245 := n1_; have HO248 := n2_; have HO252 := n3_; have HO255 := n4_; have BK239 := n5_; have HB := n6_; clear n0_ n1_ n2_ n3_ n4_ n5_ n6_; (try clear hb); (try clear hb2); (try clear hk); (try clear hi); obtain ⟨Ao56, co56, eo56⟩ := Kd.R_slice HO252.out; subst eo56; obtain ⟨Ao57, co57, eo57⟩ := Kd.R_slice HO255.out; subst eo57) | ((with_reducible refine gate_callee (f := 16) rfl ?_); refine goesL_ (some 23) rfl rfl Try.func16 (by kernel_rfl) rfl #[.agg #[.slice Ao56 t250.length co56, .slice Ao57 t253.length co57], .string t256] rfl (by (try simp only [List.map_toArray, List.map_cons, List.map_nil]); first | done | rfl | (simp only [List.length_drop, List.length_take]; rfl)) ?_; (with_reducible refine (Go.Proofs.Ytjffhhalmicodaa.X.fixes_Holds.calls k _ _ t250 _ _ t253 t256 t257 t258 _ ?side1 ?side2 ?side3 ?side4 A7.out).mono ?_); (case side1 => repeat (first | exact (Kd.R_reads' HO252.out).2.2 | (with_reducible refine Kd.C_alloc ?_ _) | (with_reducible refine Kd.C_drewN ?_ _) | (with_reducible refine Kd.C_drew ?_))); (case side2 => exact (Kd.R_reads' HO252.out).2.1); (case side3 => repeat (first | exact (Kd.R_reads' HO255.out).2.2 | (with_reducible refine Kd.C_alloc ?_ _) | (with_reducible refine Kd.C_drewN ?_ _) | (with_reducible refine Kd.C_drew ?_))); (case side4 => exact (Kd.R_reads' HO255.out).2.1); rintro e w58 ⟨rfl, hb⟩; refine ⟨_, rfl, ?_⟩; have n0_ := Aside0.mk (Kd.R_below (by (with_reducible repeat (first | apply Kd.R_alloc | apply Kd.R_drewN | apply Kd.R_drew)); exact HO242.out) hb); have n1_ := Aside0.mk (Kd.R_below (by (with_reducible repeat (first | apply Kd.R_alloc | apply Kd.R_drewN | apply Kd.R_drew)); exact HO245.out) hb); have n2_ := Aside0.mk (Kd.R_below (by (with_reducible repeat (first | apply Kd.R_alloc | apply Kd.R_drewN | apply Kd.R_drew)); exact HO248.out) hb); have n3_ := Aside0.mk (Kd.R_below (by (with_reducible repeat (first | apply Kd.R_alloc | apply Kd.R_drewN | apply Kd.R_drew)); exact HO252.out) hb); have n4_ := Aside0.mk (Kd.R_below (by (with_reducible repeat (first | apply Kd.R_alloc | apply Kd.R_drewN | apply Kd.R_drew)); exact HO255.out) hb); have n5_ := Aside0.mk (blk_below (g := gb239) (o := .cells #[.slice A0_0 l0_0.length c0_0, .slice A0_1 l0_1.length c0_1] 24 (0, 0)) (by (with_reducible repeat (first | refine blk_drewN ?_ _ | refine blk_drew ?_ | refine blk_alloc ?_ _)); exact BK239.out) hb); have n6_ := Aside0.mk (below_step (by repeat (first | (with_reducible first | exact HB.out | apply below_alloc | apply pw_below_drewN | apply below_drew1 | refine below_set ?_ GE239.out) | exact HB.out)) hb); clear HO242; clear HO245; clear HO248; clear HO252; clear HO255; clear BK239; clear HB; have HO242 := n0_; have HO245 := n1_; have HO248 := n2_; have HO252 := n3_; have HO255 := n4_; have BK239 := n5_; have HB := n6_; clear n0_ n1_ n2_ n3_ n4_ n5_ n6_; (try clear hb); (try clear hb2); (try clear hk); (try clear hi); have hcz59_0 : w58.cell? ⟨gb239, 0, none⟩ = some (.slice A0_0 l0_0.length c0_0) := (blk_cell BK239.out 0).trans rfl; have hcz59_1 : w58.cell? ⟨gb239, 1, none⟩ = some (.slice A0_1 l0_1.length c0_1) := (blk_cell BK239.out 1).trans rfl; have hfz59_0 := blk_frozen BK239.out 0; have hfz59_1 := blk_frozen BK239.out 1) | ((with_reducible refine gate_callee (f := 21) rfl ?_); refine goesL_ (some 27) rfl rfl Try.func21 (by kernel_rfl) rfl #[.agg #[.slice A0_0 l0_0.length c0_0, .slice A0_1 l0_1.length c0_1]] rfl (by (try simp only [List.map_toArray, List.map_cons, List.map_nil]); first | done | rfl | (simp only [List.length_drop, List.length_take]; rfl)) ?_; (with_reducible refine (Go.Proofs.Ytjffhhalmicodaa.PB.comfitref08_Valid.calls k _ _ l0_0 _ _ l0_1 false _ ?side1 ?side2 ?side3 ?side4 A8.out).mono ?_); (case side1 => repeat (first | exact (Kd.C_below HR0_0.out HB.out) | (with_reducible refine Kd.C_alloc ?_ _) | (with_reducible refine Kd.C_drewN ?_ _) | (with_reducible refine Kd.C_drew ?_))); (case side2 => exact HC0_0.out); (case side3 => repeat (first | exact (Kd.C_below HR0_1.out HB.out) | (with_reducible refine Kd.C_alloc ?_ _) | (with_reducible refine Kd.C_drewN ?_ _) | (with_reducible refine Kd.C_drew ?_))); (case side4 => exact HC0_1.out); rintro e w60 ⟨rfl, hb⟩; refine ⟨_, rfl, ?_⟩; have n0_ := Aside0.mk (Kd.R_below (by (with_reducible repeat (first | apply Kd.R_alloc | apply Kd.R_drewN | apply Kd.R_drew)); exact HO242.out) hb); have n1_ := Aside0.mk (Kd.R_below (by (with_reducible repeat (first | apply Kd.R_alloc | apply Kd.R_drewN | apply Kd.R_drew)); exact HO245.out) hb); have n2_ := Aside0.mk (Kd.R_below (by (with_reducible repeat (first | apply Kd.R_alloc | apply Kd.R_drewN | apply Kd.R_drew)); exact HO248.out) hb); have n3_ := Aside0.mk (Kd.R_below (by (with_reducible repeat (first | apply Kd.R_alloc | apply Kd.R_drewN | apply Kd.R_drew)); exact HO252.out) hb); have n4_ := Aside0.mk (Kd.R_below (by (with_reducible repeat (first | apply Kd.R_alloc | apply Kd.R_drewN | apply Kd.R_drew)); exact HO255.out) hb); have n5_ := Aside0.mk (blk_below (g := gb239) (o := .cells #[.slice A0_0 l0_0.length c0_0, .slice A0_1 l0_1.length c0_1] 24 (0, 0)) (by (with_reducible repeat (first | refine blk_drewN ?_ _ | refine blk_drew ?_ | refine blk_alloc ?_ _)); exact BK239.out) hb); have n6_ := Aside0.mk (below_step (by repeat (first | (with_reducible first | exact HB.out | apply below_alloc | apply pw_below_drewN | apply below_drew1 | refine below_set ?_ GE239.out) | exact HB.out)) hb); clear HO242; clear HO245; clear HO248; clear HO252; clear HO255; clear BK239; clear HB; have HO242 := n0_; have HO245 := n1_; have HO248 := n2_; have HO252 := n3_; have HO255 := n4_; have BK239 := n5_; have HB := n6_; clear n0_ n1_ n2_ n3_ n4_ n5_ n6_; (try clear hb); (try clear hb2); (try clear hk); (try clear hi)) | (go_at_call 22; (with_reducible refine (Go.Proofs.Ytjffhhalmicodaa.PB.comfitlaw08_awake.calls k  t260 _ A46.out).mono ?_); rintro e w61 ⟨rfl, hb⟩; have n0_ := Aside0.mk (Kd.R_below (by (with_reducible repeat (first | apply Kd.R_alloc | apply Kd.R_drewN | apply Kd.R_drew)); exact HO242.out) hb); have n1_ := Aside0.mk (Kd.R_below (by (with_reducible repeat (first | apply Kd.R_alloc | apply Kd.R_drewN | apply Kd.R_drew)); exact HO245.out) hb); have n2_ := Aside0.mk (Kd.R_below (by (with_reducible repeat (first | apply Kd.R_alloc | apply Kd.R_drewN | apply Kd.R_drew)); exact HO248.out) hb); have n3_ := Aside0.mk (Kd.R_below (by (with_reducible repeat (first | apply Kd.R_alloc | apply Kd.R_drewN | apply Kd.R_drew)); exact HO252.out) hb); have n4_ := Aside0.mk (Kd.R_below (by (with_reducible repeat (first | apply Kd.R_alloc | apply Kd.R_drewN | apply Kd.R_drew)); exact HO255.out) hb); have n5_ := Aside0.mk (blk_below (g := gb239) (o := .cells #[.slice A0_0 l0_0.length c0_0, .slice A0_1 l0_1.length c0_1] 24 (0, 0)) (by (with_reducible repeat (first | refine blk_drewN ?_ _ | refine blk_drew ?_ | refine blk_alloc ?_ _)); exact BK239.out) hb); have n6_ := Aside0.mk (below_step (by repeat (first | (with_reducible first | exact HB.out | apply below_alloc | apply pw_below_drewN | apply below_drew1 | refine below_set ?_ GE239.out) | exact HB.out)) hb); clear HO242; clear HO245; clear HO248; clear HO252; clear HO255; clear BK239; clear HB; have HO242 := n0_; have HO245 := n1_; have HO248 := n2_; have HO252 := n3_; have HO255 := n4_; have BK239 := n5_; have HB := n6_; clear n0_ n1_ n2_ n3_ n4_ n5_ n6_; (try clear hb); (try clear hb2); (try clear hk); (try clear hi)))
        go_ret
        exact ⟨by first | rfl | (simp [errW_none, errW_some] <;> rfl) | (simp [*, errW_none, errW_some] <;> rfl), by repeat (first | (with_reducible first | exact HB.out | apply below_alloc | apply pw_below_drewN | apply below_drew1 | refine below_set ?_ GE239.out) | exact HB.out)⟩
      · rw [if_neg c45] at H
        have c45b0 : (t258 == 2) = false := beq_eq_false_iff_ne.mpr c45
        have c45b1 : (t258 != 2) = true := bne_iff_ne.mpr c45
        obtain rfl := Option.some.inj H
        go_enter Try.func10, Try.ntmps10
        go_wp2_with (first | ((with_reducible refine gate_dst (N := 2) rfl ?_); refine box_event ?hg (N := 2) ?hd (cs := #[.slice A0_0 l0_0.length c0_0, .slice A0_1 l0_1.length c0_1]) (t := 24) ?hr ?_; (case hd => rfl); (case hg => rfl); (case hr => first | (go_simp; done) | (go_simp; rfl)); intro gb239 hg w62 hbox hb; have n0_ := Aside0.mk (below_step (by repeat (first | (with_reducible first | exact HB.out | apply below_alloc | apply pw_below_drewN | apply below_drew1) | exact HB.out)) hb); have n1_ := Aside0.mk (hbox); have n2_ := Aside0.mk ((by rw [hg]; exact (below_size (by repeat (first | (with_reducible first | exact HB.out | apply below_alloc | apply pw_below_drewN | apply below_drew1) | exact HB.out))) : w.heap.size ≤ gb239)); have n3_ := Aside0.mk ((by rw [hg]; exact (below_size (by repeat (first | (with_reducible first | exact HB.out | apply below_alloc | apply pw_below_drewN | apply below_drew1) | exact HB.out))) : w.heap.size ≤ gb239)); clear HB; have HB := n0_; have BK239 := n1_; have GW239 := n2_; have GE239 := n3_; clear n0_ n1_ n2_ n3_; clear hb hbox hg; have hcz63_0 : w62.cell? ⟨gb239, 0, none⟩ = some (.slice A0_0 l0_0.length c0_0) := (blk_cell BK239.out 0).trans rfl; have hcz63_1 : w62.cell? ⟨gb239, 1, none⟩ = some (.slice A0_1 l0_1.length c0_1) := (blk_cell BK239.out 1).trans rfl; have hfz63_0 := blk_frozen BK239.out 0; have hfz63_1 := blk_frozen BK239.out 1) | ((with_reducible refine gate_callee (f := 17) rfl ?_); refine goesL_ (some 14) rfl rfl Try.func17 (by kernel_rfl) rfl #[.agg #[.slice A0_0 l0_0.length c0_0, .slice A0_1 l0_1.length c0_1]] rfl (by (try simp only [List.map_toArray, List.map_cons, List.map_nil]); first | done | rfl | (simp only [List.length_drop, List.length_take]; rfl)) ?_; (with_reducible refine (Go.Proofs.Ytjffhhalmicodaa.PA.comfitlaw08_Of.calls _ _ l0_0 _ _ l0_1 t240 t243 _ ?side1 ?side2 ?side3 ?side4 A3.out).mono ?_); (case side1 => repeat (first | exact (Kd.C_below HR0_0.out HB.out) | (with_reducible refine Kd.C_alloc ?_ _) | (with_reducible refine Kd.C_drewN ?_ _) | (with_reducible refine Kd.C_drew ?_))); (case side2 => exact HC0_0.out); (case side3 => repeat (first | exact (Kd.C_below HR0_1.out HB.out) | (with_reducible refine Kd.C_alloc ?_ _) | (with_reducible refine Kd.C_drewN ?_ _) | (with_reducible refine Kd.C_drew ?_))); (case side4 => exact HC0_1.out); rintro e w64 ⟨v241, v244, rfl, ho0, ho1, hb⟩; refine ⟨_, rfl, ?_⟩; have n0_ := Aside0.mk (Kd.R_lower ho0 (below_size (by repeat (first | (with_reducible first | exact HB.out | apply below_alloc | apply pw_below_drewN | apply below_drew1 | refine below_set ?_ GE239.out) | exact HB.out)))); have n1_ := Aside0.mk (Kd.R_lower ho1 (below_size (by repeat (first | (with_reducible first | exact HB.out | apply below_alloc | apply pw_below_drewN | apply below_drew1 | refine below_set ?_ GE239.out) | exact HB.out)))); have n2_ := Aside0.mk (blk_below (g := gb239) (o := .cells #[.slice A0_0 l0_0.length c0_0, .slice A0_1 l0_1.length c0_1] 24 (0, 0)) (by (with_reducible repeat (first | refine blk_drewN ?_ _ | refine blk_drew ?_ | refine blk_alloc ?_ _)); exact BK239.out) hb); have n3_ := Aside0.mk (below_step (by repeat (first | (with_reducible first | exact HB.out | apply below_alloc | apply pw_below_drewN | apply below_drew1 | refine below_set ?_ GE239.out) | exact HB.out)) hb); clear BK239; clear HB; have HO242 := n0_; have HO245 := n1_; have BK239 := n2_; have HB := n3_; clear n0_ n1_ n2_ n3_; (try clear hb); (try clear hb2); (try clear hk); (try clear hi); (try clear ho0); (try clear ho1); obtain ⟨Ao65, co65, eo65⟩ := Kd.R_slice HO242.out; subst eo65; obtain ⟨Ao66, co66, eo66⟩ := Kd.R_slice HO245.out; subst eo66) | ((with_reducible refine gate_callee (f := 33) rfl ?_); refine goesL_ (some 15) rfl rfl Try.func33 (by kernel_rfl) rfl #[.agg #[.slice Ao65 t240.length co65, .slice Ao66 t243.length co66]] rfl (by (try simp only [List.map_toArray, List.map_cons, List.map_nil]); first | done | rfl | (simp only [List.length_drop, List.length_take]; rfl)) ?_; (with_reducible refine (fixes_Classes.calls k _ _ t240 _ _ t243 t246 t249 _ ?side1 ?side2 ?side3 ?side4 A4.out).mono ?_); (case side1 => repeat (first | exact (Kd.R_reads' HO242.out).2.2 | (with_reducible refine Kd.C_alloc ?_ _) | (with_reducible refine Kd.C_drewN ?_ _) | (with_reducible refine Kd.C_drew ?_))); (case side2 => exact (Kd.R_reads' HO242.out).2.1); (case side3 => repeat (first | exact (Kd.R_reads' HO245.out).2.2 | (with_reducible refine Kd.C_alloc ?_ _) | (with_reducible refine Kd.C_drewN ?_ _) | (with_reducible refine Kd.C_drew ?_))); (case side4 => exact (Kd.R_reads' HO245.out).2.1); rintro e w67 ⟨v247, rfl, ho0, hb⟩; refine ⟨_, rfl, ?_⟩; have n0_ := Aside0.mk (Kd.R_elder' (by (with_reducible repeat (first | apply Kd.R_alloc | apply Kd.R_drewN | apply Kd.R_drew)); exact HO242.out) (Kd.R_base ho0) hb); have n1_ := Aside0.mk (Kd.R_elder' (by (with_reducible repeat (first | apply Kd.R_alloc | apply Kd.R_drewN | apply Kd.R_drew)); exact HO245.out) (Kd.R_base ho0) hb); have n2_ := Aside0.mk (Kd.R_lower (Kd.R_new' (Kd.R_new' ho0 (Kd.R_lt (by (with_reducible repeat (first | apply Kd.R_alloc | apply Kd.R_drewN | apply Kd.R_drew)); exact HO242.out))) (Kd.R_lt (by (with_reducible repeat (first | apply Kd.R_alloc | apply Kd.R_drewN | apply Kd.R_drew)); exact HO245.out))) (below_size (by repeat (first | (with_reducible first | exact HB.out | apply below_alloc | apply pw_below_drewN | apply below_drew1 | refine below_set ?_ GE239.out) | exact HB.out)))); have n3_ := Aside0.mk (blk_below (g := gb239) (o := .cells #[.slice A0_0 l0_0.length c0_0, .slice A0_1 l0_1.length c0_1] 24 (0, 0)) (by (with_reducible repeat (first | refine blk_drewN ?_ _ | refine blk_drew ?_ | refine blk_alloc ?_ _)); exact BK239.out) hb); have n4_ := Aside0.mk (below_step (by repeat (first | (with_reducible first | exact HB.out | apply below_alloc | apply pw_below_drewN | apply below_drew1 | refine below_set ?_ GE239.out) | exact HB.out)) hb); clear HO242; clear HO245; clear BK239; clear HB; have HO242 := n0_; have HO245 := n1_; have HO248 := n2_; have BK239 := n3_; have HB := n4_; clear n0_ n1_ n2_ n3_ n4_; (try clear hb); (try clear hb2); (try clear hk); (try clear hi); (try clear ho0); have hcz68_0 : w67.cell? ⟨gb239, 0, none⟩ = some (.slice A0_0 l0_0.length c0_0) := (blk_cell BK239.out 0).trans rfl; have hcz68_1 : w67.cell? ⟨gb239, 1, none⟩ = some (.slice A0_1 l0_1.length c0_1) := (blk_cell BK239.out 1).trans rfl; have hfz68_0 := blk_frozen BK239.out 0; have hfz68_1 := blk_frozen BK239.out 1) | ((with_reducible refine gate_callee (f := 17) rfl ?_); refine goesL_ (some 20) rfl rfl Try.func17 (by kernel_rfl) rfl #[.agg #[.slice A0_0 l0_0.length c0_0, .slice A0_1 l0_1.length c0_1]] rfl (by (try simp only [List.map_toArray, List.map_cons, List.map_nil]); first | done | rfl | (simp only [List.length_drop, List.length_take]; rfl)) ?_; (with_reducible refine (Go.Proofs.Ytjffhhalmicodaa.PA.comfitlaw08_Of.calls _ _ l0_0 _ _ l0_1 t250 t253 _ ?side1 ?side2 ?side3 ?side4 A5.out).mono ?_); (case side1 => repeat (first | exact (Kd.C_below HR0_0.out HB.out) | (with_reducible refine Kd.C_alloc ?_ _) | (with_reducible refine Kd.C_drewN ?_ _) | (with_reducible refine Kd.C_drew ?_))); (case side2 => exact HC0_0.out); (case side3 => repeat (first | exact (Kd.C_below HR0_1.out HB.out) | (with_reducible refine Kd.C_alloc ?_ _) | (with_reducible refine Kd.C_drewN ?_ _) | (with_reducible refine Kd.C_drew ?_))); (case side4 => exact HC0_1.out); rintro e w69 ⟨v251, v254, rfl, ho0, ho1, hb⟩; refine ⟨_, rfl, ?_⟩; have n0_ := Aside0.mk (Kd.R_mono (Kd.R_told (Kd.R_told (Kd.R_old (by (with_reducible repeat (first | apply Kd.R_alloc | apply Kd.R_drewN | apply Kd.R_drew)); exact HO242.out) hb) (Kd.R_base ho0)) (Kd.R_base ho1)) (fun _ h_ => h_.1)); have n1_ := Aside0.mk (Kd.R_mono (Kd.R_told (Kd.R_told (Kd.R_old (by (with_reducible repeat (first | apply Kd.R_alloc | apply Kd.R_drewN | apply Kd.R_drew)); exact HO245.out) hb) (Kd.R_base ho0)) (Kd.R_base ho1)) (fun _ h_ => h_.1)); have n2_ := Aside0.mk (Kd.R_mono (Kd.R_told (Kd.R_told (Kd.R_old (by (with_reducible repeat (first | apply Kd.R_alloc | apply Kd.R_drewN | apply Kd.R_drew)); exact HO248.out) hb) (Kd.R_base ho0)) (Kd.R_base ho1)) (fun _ h_ => h_.1)); have n3_ := Aside0.mk (Kd.R_lower (Kd.R_new' (Kd.R_new' (Kd.R_new' ho0 (Kd.R_lt (by (with_reducible repeat (first | apply Kd.R_alloc | apply Kd.R_drewN | apply Kd.R_drew)); exact HO242.out))) (Kd.R_lt (by (with_reducible repeat (first | apply Kd.R_alloc | apply Kd.R_drewN | apply Kd.R_drew)); exact HO245.out))) (Kd.R_lt (by (with_reducible repeat (first | apply Kd.R_alloc | apply Kd.R_drewN | apply Kd.R_drew)); exact HO248.out))) (below_size (by repeat (first | (with_reducible first | exact HB.out | apply below_alloc | apply pw_below_drewN | apply below_drew1 | refine below_set ?_ GE239.out) | exact HB.out)))); have n4_ := Aside0.mk (Kd.R_lower (Kd.R_new' (Kd.R_new' (Kd.R_new' ho1 (Kd.R_lt (by (with_reducible repeat (first | apply Kd.R_alloc | apply Kd.R_drewN | apply Kd.R_drew)); exact HO242.out))) (Kd.R_lt (by (with_reducible repeat (first | apply Kd.R_alloc | apply Kd.R_drewN | apply Kd.R_drew)); exact HO245.out))) (Kd.R_lt (by (with_reducible repeat (first | apply Kd.R_alloc | apply Kd.R_drewN | apply Kd.R_drew)); exact HO248.out))) (below_size (by repeat (first | (with_reducible first | exact HB.out | apply below_alloc | apply pw_below_drewN | apply below_drew1 | refine below_set ?_ GE239.out) | exact HB.out)))); have n5_ := Aside0.mk (blk_below (g := gb239) (o := .cells #[.slice A0_0 l0_0.length c0_0, .slice A0_1 l0_1.length c0_1] 24 (0, 0)) (by (with_reducible repeat (first | refine blk_drewN ?_ _ | refine blk_drew ?_ | refine blk_alloc ?_ _)); exact BK239.out) hb); have n6_ := Aside0.mk (below_step (by repeat (first | (with_reducible first | exact HB.out | apply below_alloc | apply pw_below_drewN | apply below_drew1 | refine below_set ?_ GE239.out) | exact HB.out)) hb); clear HO242; clear HO245; clear HO248; clear BK239; clear HB; have HO242 := n0_; have HO245 := n1_; have HO248 := n2_; have HO252 := n3_; have HO255 := n4_; have BK239 := n5_; have HB := n6_; clear n0_ n1_ n2_ n3_ n4_ n5_ n6_; (try clear hb); (try clear hb2); (try clear hk); (try clear hi); (try clear ho0); (try clear ho1)) | ((with_reducible refine gate_callee (f := 18) rfl ?_); refine goesL_ (some 22) rfl rfl Try.func18 (by kernel_rfl) rfl #[.string a1] rfl (by (try simp only [List.map_toArray, List.map_cons, List.map_nil]); first | done | rfl | (simp only [List.length_drop, List.length_take]; rfl)) ?_; (with_reducible refine (Go.Proofs.Ytjffhhalmicodaa.PA.comfitlaw08_text.calls a1 t256 _ A6.out).mono ?_); rintro e w70 ⟨rfl, hb⟩; refine ⟨_, rfl, ?_⟩; have n0_ := Aside0.mk (Kd.R_below (by (with_reducible repeat (first | apply Kd.R_alloc | apply Kd.R_drewN | apply Kd.R_drew)); exact HO242.out) hb); have n1_ := Aside0.mk (Kd.R_below (by (with_reducible repeat (first | apply Kd.R_alloc | apply Kd.R_drewN | apply Kd.R_drew)); exact HO245.out) hb); have n2_ := Aside0.mk (Kd.R_below (by (with_reducible repeat (first | apply Kd.R_alloc | apply Kd.R_drewN | apply Kd.R_drew)); exact HO248.out) hb); have n3_ := Aside0.mk (Kd.R_below (by (with_reducible repeat (first | apply Kd.R_alloc | apply Kd.R_drewN | apply Kd.R_drew)); exact HO252.out) hb); have n4_ := Aside0.mk (Kd.R_below (by (with_reducible repeat (first | apply Kd.R_alloc | apply Kd.R_drewN | apply Kd.R_drew)); exact HO255.out) hb); have n5_ := Aside0.mk (blk_below (g := gb239) (o := .cells #[.slice A0_0 l0_0.length c0_0, .slice A0_1 l0_1.length c0_1] 24 (0, 0)) (by (with_reducible repeat (first | refine blk_drewN ?_ _ | refine blk_drew ?_ | refine blk_alloc ?_ _)); exact BK239.out) hb); have n6_ := Aside0.mk (below_step (by repeat (first | (with_reducible first | exact HB.out | apply below_alloc | apply pw_below_drewN | apply below_drew1 | refine below_set ?_ GE239.out) | exact HB.out)) hb); clear HO242; clear HO245; clear HO248; clear HO252; clear HO255; clear BK239; clear HB; have HO242 := n0_; have HO245 := n1_; have HO248 := n2_; have HO252 := n3_; have HO255 := n4_; have BK239 := n5_; have HB := n6_; clear n0_ n1_ n2_ n3_ n4_ n5_ n6_; (try clear hb); (try clear hb2); (try clear hk); (try clear hi); obtain ⟨Ao71, co71, eo71⟩ := Kd.R_slice HO252.out; subst eo71; obtain ⟨Ao72, co72, eo72⟩ := Kd.R_slice HO255.out; subst eo72) | ((with_reducible refine gate_callee (f := 16) rfl ?_); refine goesL_ (some 23) rfl rfl Try.func16 (by kernel_rfl) rfl #[.agg #[.slice Ao71 t250.length co71, .slice Ao72 t253.length co72], .string t256] rfl (by (try simp only [List.map_toArray, List.map_cons, List.map_nil]); first | done | rfl | (simp only [List.length_drop, List.length_take]; rfl)) ?_; (with_reducible refine (Go.Proofs.Ytjffhhalmicodaa.X.fixes_Holds.calls k _ _ t250 _ _ t253 t256 t257 t258 _ ?side1 ?side2 ?side3 ?side4 A7.out).mono ?_); (case side1 => repeat (first | exact (Kd.R_reads' HO252.out).2.2 | (with_reducible refine Kd.C_alloc ?_ _) | (with_reducible refine Kd.C_drewN ?_ _) | (with_reducible refine Kd.C_drew ?_))); (case side2 => exact (Kd.R_reads' HO252.out).2.1); (case side3 => repeat (first | exact (Kd.R_reads' HO255.out).2.2 | (with_reducible refine Kd.C_alloc ?_ _) | (with_reducible refine Kd.C_drewN ?_ _) | (with_reducible refine Kd.C_drew ?_))); (case side4 => exact (Kd.R_reads' HO255.out).2.1); rintro e w73 ⟨rfl, hb⟩; refine ⟨_, rfl, ?_⟩; have n0_ := Aside0.mk (Kd.R_below (by (with_reducible repeat (first | apply Kd.R_alloc | apply Kd.R_drewN | apply Kd.R_drew)); exact HO242.out) hb); have n1_ := Aside0.mk (Kd.R_below (by (with_reducible repeat (first | apply Kd.R_alloc | apply Kd.R_drewN | apply Kd.R_drew)); exact HO245.out) hb); have n2_ := Aside0.mk (Kd.R_below (by (with_reducible repeat (first | apply Kd.R_alloc | apply Kd.R_drewN | apply Kd.R_drew)); exact HO248.out) hb); have n3_ := Aside0.mk (Kd.R_below (by (with_reducible repeat (first | apply Kd.R_alloc | apply Kd.R_drewN | apply Kd.R_drew)); exact HO252.out) hb); have n4_ := Aside0.mk (Kd.R_below (by (with_reducible repeat (first | apply Kd.R_alloc | apply Kd.R_drewN | apply Kd.R_drew)); exact HO255.out) hb); have n5_ := Aside0.mk (blk_below (g := gb239) (o := .cells #[.slice A0_0 l0_0.length c0_0, .slice A0_1 l0_1.length c0_1] 24 (0, 0)) (by (with_reducible repeat (first | refine blk_drewN ?_ _ | refine blk_drew ?_ | refine blk_alloc ?_ _)); exact BK239.out) hb); have n6_ := Aside0.mk (below_step (by repeat (first | (with_reducible first | exact HB.out | apply below_alloc | apply pw_below_drewN | apply below_drew1 | refine below_set ?_ GE239.out) | exact HB.out)) hb); clear HO242; clear HO245; clear HO248; clear HO252; clear HO255; clear BK239; clear HB; have HO242 := n0_; have HO245 := n1_; have HO248 := n2_; have HO252 := n3_; have HO255 := n4_; have BK239 := n5_; have HB := n6_; clear n0_ n1_ n2_ n3_ n4_ n5_ n6_; (try clear hb); (try clear hb2); (try clear hk); (try clear hi); have hcz74_0 : w73.cell? ⟨gb239, 0, none⟩ = some (.slice A0_0 l0_0.length c0_0) := (blk_cell BK239.out 0).trans rfl; have hcz74_1 : w73.cell? ⟨gb239, 1, none⟩ = some (.slice A0_1 l0_1.length c0_1) := (blk_cell BK239.out 1).trans rfl; have hfz74_0 := blk_frozen BK239.out 0; have hfz74_1 := blk_frozen BK239.out 1) | ((with_reducible refine gate_callee (f := 21) rfl ?_); refine goesL_ (some 27) rfl rfl Try.func21 (by kernel_rfl) rfl #[.agg #[.slice A0_0 l0_0.length c0_0, .slice A0_1 l0_1.length c0_1]] rfl (by (try simp only [List.map_toArray, List.map_cons, List.map_nil]); first | done | rfl | (simp only [List.length_drop, List.length_take]; rfl)) ?_; (with_reducible refine (Go.Proofs.Ytjffhhalmicodaa.PB.comfitref08_Valid.calls k _ _ l0_0 _ _ l0_1 false _ ?side1 ?side2 ?side3 ?side4 A8.out).mono ?_); (case side1 => repeat (first | exact (Kd.C_below HR0_0.out HB.out) | (with_reducible refine Kd.C_alloc ?_ _) | (with_reducible refine Kd.C_drewN ?_ _) | (with_reducible refine Kd.C_drew ?_))); (case side2 => exact HC0_0.out); (case side3 => repeat (first | exact (Kd.C_below HR0_1.out HB.out) | (with_reducible refine Kd.C_alloc ?_ _) | (with_reducible refine Kd.C_drewN ?_ _) | (with_reducible refine Kd.C_drew ?_))); (case side4 => exact HC0_1.out); rintro e w75 ⟨rfl, hb⟩; refine ⟨_, rfl, ?_⟩; have n0_ := Aside0.mk (Kd.R_below (by (with_reducible repeat (first | apply Kd.R_alloc | apply Kd.R_drewN | apply Kd.R_drew)); exact HO242.out) hb); have n1_ := Aside0.mk (Kd.R_below (by (with_reducible repeat (first | apply Kd.R_alloc | apply Kd.R_drewN | apply Kd.R_drew)); exact HO245.out) hb); have n2_ := Aside0.mk (Kd.R_below (by (with_reducible repeat (first | apply Kd.R_alloc | apply Kd.R_drewN | apply Kd.R_drew)); exact HO248.out) hb); have n3_ := Aside0.mk (Kd.R_below (by (with_reducible repeat (first | apply Kd.R_alloc | apply Kd.R_drewN | apply Kd.R_drew)); exact HO252.out) hb); have n4_ := Aside0.mk (Kd.R_below (by (with_reducible repeat (first | apply Kd.R_alloc | apply Kd.R_drewN | apply Kd.R_drew)); exact HO255.out) hb); have n5_ := Aside0.mk (blk_below (g := gb239) (o := .cells #[.slice A0_0 l0_0.length c0_0, .slice A0_1 l0_1.length c0_1] 24 (0, 0)) (by (with_reducible repeat (first | refine blk_drewN ?_ _ | refine blk_drew ?_ | refine blk_alloc ?_ _)); exact BK239.out) hb); have n6_ := Aside0.mk (below_step (by repeat (first | (with_reducible first | exact HB.out | apply below_alloc | apply pw_below_drewN | apply below_drew1 | refine below_set ?_ GE239.out) | exact HB.out)) hb); clear HO242; clear HO245; clear HO248; clear HO252; clear HO255; clear BK239; clear HB; have HO242 := n0_; have HO245 := n1_; have HO248 := n2_; have HO252 := n3_; have HO255 := n4_; have BK239 := n5_; have HB := n6_; clear n0_ n1_ n2_ n3_ n4_ n5_ n6_; (try clear hb); (try clear hb2); (try clear hk); (try clear hi)))
        go_ret
        exact ⟨by first | rfl | (simp [errW_none, errW_some] <;> rfl) | (simp [*, errW_none, errW_some] <;> rfl), by repeat (first | (with_reducible first | exact HB.out | apply below_alloc | apply pw_below_drewN | apply below_drew1 | refine below_set ?_ GE239.out) | exact HB.out)⟩
    · rw [if_neg c44] at H
      have c44b0 : (t249 == 2) = false := beq_eq_false_iff_ne.mpr c44
      have c44b1 : (t249 != 2) = true := bne_iff_ne.mpr c44
      obtain rfl := Option.some.inj H
      go_enter Try.func10, Try.ntmps10
      go_wp2_with (first | ((with_reducible refine gate_dst (N := 2) rfl ?_); refine box_event ?hg (N := 2) ?hd (cs := #[.slice A0_0 l0_0.length c0_0, .slice A0_1 l0_1.length c0_1]) (t := 24) ?hr ?_; (case hd => rfl); (case hg => rfl); (case hr => first | (go_simp; done) | (go_simp; rfl)); intro gb239 hg w76 hbox hb; have n0_ := Aside0.mk (below_step (by repeat (first | (with_reducible first | exact HB.out | apply below_alloc | apply pw_below_drewN | apply below_drew1) | exact HB.out)) hb); have n1_ := Aside0.mk (hbox); have n2_ := Aside0.mk ((by rw [hg]; exact (below_size (by repeat (first | (with_reducible first | exact HB.out | apply below_alloc | apply pw_below_drewN | apply below_drew1) | exact HB.out))) : w.heap.size ≤ gb239)); have n3_ := Aside0.mk ((by rw [hg]; exact (below_size (by repeat (first | (with_reducible first | exact HB.out | apply below_alloc | apply pw_below_drewN | apply below_drew1) | exact HB.out))) : w.heap.size ≤ gb239)); clear HB; have HB := n0_; have BK239 := n1_; have GW239 := n2_; have GE239 := n3_; clear n0_ n1_ n2_ n3_; clear hb hbox hg; have hcz77_0 : w76.cell? ⟨gb239, 0, none⟩ = some (.slice A0_0 l0_0.length c0_0) := (blk_cell BK239.out 0).trans rfl; have hcz77_1 : w76.cell? ⟨gb239, 1, none⟩ = some (.slice A0_1 l0_1.length c0_1) := (blk_cell BK239.out 1).trans rfl; have hfz77_0 := blk_frozen BK239.out 0; have hfz77_1 := blk_frozen BK239.out 1) | ((with_reducible refine gate_callee (f := 17) rfl ?_); refine goesL_ (some 14) rfl rfl Try.func17 (by kernel_rfl) rfl #[.agg #[.slice A0_0 l0_0.length c0_0, .slice A0_1 l0_1.length c0_1]] rfl (by (try simp only [List.map_toArray, List.map_cons, List.map_nil]); first | done | rfl | (simp only [List.length_drop, List.length_take]; rfl)) ?_; (with_reducible refine (Go.Proofs.Ytjffhhalmicodaa.PA.comfitlaw08_Of.calls _ _ l0_0 _ _ l0_1 t240 t243 _ ?side1 ?side2 ?side3 ?side4 A3.out).mono ?_); (case side1 => repeat (first | exact (Kd.C_below HR0_0.out HB.out) | (with_reducible refine Kd.C_alloc ?_ _) | (with_reducible refine Kd.C_drewN ?_ _) | (with_reducible refine Kd.C_drew ?_))); (case side2 => exact HC0_0.out); (case side3 => repeat (first | exact (Kd.C_below HR0_1.out HB.out) | (with_reducible refine Kd.C_alloc ?_ _) | (with_reducible refine Kd.C_drewN ?_ _) | (with_reducible refine Kd.C_drew ?_))); (case side4 => exact HC0_1.out); rintro e w78 ⟨v241, v244, rfl, ho0, ho1, hb⟩; refine ⟨_, rfl, ?_⟩; have n0_ := Aside0.mk (Kd.R_lower ho0 (below_size (by repeat (first | (with_reducible first | exact HB.out | apply below_alloc | apply pw_below_drewN | apply below_drew1 | refine below_set ?_ GE239.out) | exact HB.out)))); have n1_ := Aside0.mk (Kd.R_lower ho1 (below_size (by repeat (first | (with_reducible first | exact HB.out | apply below_alloc | apply pw_below_drewN | apply below_drew1 | refine below_set ?_ GE239.out) | exact HB.out)))); have n2_ := Aside0.mk (blk_below (g := gb239) (o := .cells #[.slice A0_0 l0_0.length c0_0, .slice A0_1 l0_1.length c0_1] 24 (0, 0)) (by (with_reducible repeat (first | refine blk_drewN ?_ _ | refine blk_drew ?_ | refine blk_alloc ?_ _)); exact BK239.out) hb); have n3_ := Aside0.mk (below_step (by repeat (first | (with_reducible first | exact HB.out | apply below_alloc | apply pw_below_drewN | apply below_drew1 | refine below_set ?_ GE239.out) | exact HB.out)) hb); clear BK239; clear HB; have HO242 := n0_; have HO245 := n1_; have BK239 := n2_; have HB := n3_; clear n0_ n1_ n2_ n3_; (try clear hb); (try clear hb2); (try clear hk); (try clear hi); (try clear ho0); (try clear ho1); obtain ⟨Ao79, co79, eo79⟩ := Kd.R_slice HO242.out; subst eo79; obtain ⟨Ao80, co80, eo80⟩ := Kd.R_slice HO245.out; subst eo80) | ((with_reducible refine gate_callee (f := 33) rfl ?_); refine goesL_ (some 15) rfl rfl Try.func33 (by kernel_rfl) rfl #[.agg #[.slice Ao79 t240.length co79, .slice Ao80 t243.length co80]] rfl (by (try simp only [List.map_toArray, List.map_cons, List.map_nil]); first | done | rfl | (simp only [List.length_drop, List.length_take]; rfl)) ?_; (with_reducible refine (fixes_Classes.calls k _ _ t240 _ _ t243 t246 t249 _ ?side1 ?side2 ?side3 ?side4 A4.out).mono ?_); (case side1 => repeat (first | exact (Kd.R_reads' HO242.out).2.2 | (with_reducible refine Kd.C_alloc ?_ _) | (with_reducible refine Kd.C_drewN ?_ _) | (with_reducible refine Kd.C_drew ?_))); (case side2 => exact (Kd.R_reads' HO242.out).2.1); (case side3 => repeat (first | exact (Kd.R_reads' HO245.out).2.2 | (with_reducible refine Kd.C_alloc ?_ _) | (with_reducible refine Kd.C_drewN ?_ _) | (with_reducible refine Kd.C_drew ?_))); (case side4 => exact (Kd.R_reads' HO245.out).2.1); rintro e w81 ⟨v247, rfl, ho0, hb⟩; refine ⟨_, rfl, ?_⟩; have n0_ := Aside0.mk (Kd.R_elder' (by (with_reducible repeat (first | apply Kd.R_alloc | apply Kd.R_drewN | apply Kd.R_drew)); exact HO242.out) (Kd.R_base ho0) hb); have n1_ := Aside0.mk (Kd.R_elder' (by (with_reducible repeat (first | apply Kd.R_alloc | apply Kd.R_drewN | apply Kd.R_drew)); exact HO245.out) (Kd.R_base ho0) hb); have n2_ := Aside0.mk (Kd.R_lower (Kd.R_new' (Kd.R_new' ho0 (Kd.R_lt (by (with_reducible repeat (first | apply Kd.R_alloc | apply Kd.R_drewN | apply Kd.R_drew)); exact HO242.out))) (Kd.R_lt (by (with_reducible repeat (first | apply Kd.R_alloc | apply Kd.R_drewN | apply Kd.R_drew)); exact HO245.out))) (below_size (by repeat (first | (with_reducible first | exact HB.out | apply below_alloc | apply pw_below_drewN | apply below_drew1 | refine below_set ?_ GE239.out) | exact HB.out)))); have n3_ := Aside0.mk (blk_below (g := gb239) (o := .cells #[.slice A0_0 l0_0.length c0_0, .slice A0_1 l0_1.length c0_1] 24 (0, 0)) (by (with_reducible repeat (first | refine blk_drewN ?_ _ | refine blk_drew ?_ | refine blk_alloc ?_ _)); exact BK239.out) hb); have n4_ := Aside0.mk (below_step (by repeat (first | (with_reducible first | exact HB.out | apply below_alloc | apply pw_below_drewN | apply below_drew1 | refine below_set ?_ GE239.out) | exact HB.out)) hb); clear HO242; clear HO245; clear BK239; clear HB; have HO242 := n0_; have HO245 := n1_; have HO248 := n2_; have BK239 := n3_; have HB := n4_; clear n0_ n1_ n2_ n3_ n4_; (try clear hb); (try clear hb2); (try clear hk); (try clear hi); (try clear ho0); have hcz82_0 : w81.cell? ⟨gb239, 0, none⟩ = some (.slice A0_0 l0_0.length c0_0) := (blk_cell BK239.out 0).trans rfl; have hcz82_1 : w81.cell? ⟨gb239, 1, none⟩ = some (.slice A0_1 l0_1.length c0_1) := (blk_cell BK239.out 1).trans rfl; have hfz82_0 := blk_frozen BK239.out 0; have hfz82_1 := blk_frozen BK239.out 1) | ((with_reducible refine gate_callee (f := 17) rfl ?_); refine goesL_ (some 20) rfl rfl Try.func17 (by kernel_rfl) rfl #[.agg #[.slice A0_0 l0_0.length c0_0, .slice A0_1 l0_1.length c0_1]] rfl (by (try simp only [List.map_toArray, List.map_cons, List.map_nil]); first | done | rfl | (simp only [List.length_drop, List.length_take]; rfl)) ?_; (with_reducible refine (Go.Proofs.Ytjffhhalmicodaa.PA.comfitlaw08_Of.calls _ _ l0_0 _ _ l0_1 t250 t253 _ ?side1 ?side2 ?side3 ?side4 A5.out).mono ?_); (case side1 => repeat (first | exact (Kd.C_below HR0_0.out HB.out) | (with_reducible refine Kd.C_alloc ?_ _) | (with_reducible refine Kd.C_drewN ?_ _) | (with_reducible refine Kd.C_drew ?_))); (case side2 => exact HC0_0.out); (case side3 => repeat (first | exact (Kd.C_below HR0_1.out HB.out) | (with_reducible refine Kd.C_alloc ?_ _) | (with_reducible refine Kd.C_drewN ?_ _) | (with_reducible refine Kd.C_drew ?_))); (case side4 => exact HC0_1.out); rintro e w83 ⟨v251, v254, rfl, ho0, ho1, hb⟩; refine ⟨_, rfl, ?_⟩; have n0_ := Aside0.mk (Kd.R_mono (Kd.R_told (Kd.R_told (Kd.R_old (by (with_reducible repeat (first | apply Kd.R_alloc | apply Kd.R_drewN | apply Kd.R_drew)); exact HO242.out) hb) (Kd.R_base ho0)) (Kd.R_base ho1)) (fun _ h_ => h_.1)); have n1_ := Aside0.mk (Kd.R_mono (Kd.R_told (Kd.R_told (Kd.R_old (by (with_reducible repeat (first | apply Kd.R_alloc | apply Kd.R_drewN | apply Kd.R_drew)); exact HO245.out) hb) (Kd.R_base ho0)) (Kd.R_base ho1)) (fun _ h_ => h_.1)); have n2_ := Aside0.mk (Kd.R_mono (Kd.R_told (Kd.R_told (Kd.R_old (by (with_reducible repeat (first | apply Kd.R_alloc | apply Kd.R_drewN | apply Kd.R_drew)); exact HO248.out) hb) (Kd.R_base ho0)) (Kd.R_base ho1)) (fun _ h_ => h_.1)); have n3_ := Aside0.mk (Kd.R_lower (Kd.R_new' (Kd.R_new' (Kd.R_new' ho0 (Kd.R_lt (by (with_reducible repeat (first | apply Kd.R_alloc | apply Kd.R_drewN | apply Kd.R_drew)); exact HO242.out))) (Kd.R_lt (by (with_reducible repeat (first | apply Kd.R_alloc | apply Kd.R_drewN | apply Kd.R_drew)); exact HO245.out))) (Kd.R_lt (by (with_reducible repeat (first | apply Kd.R_alloc | apply Kd.R_drewN | apply Kd.R_drew)); exact HO248.out))) (below_size (by repeat (first | (with_reducible first | exact HB.out | apply below_alloc | apply pw_below_drewN | apply below_drew1 | refine below_set ?_ GE239.out) | exact HB.out)))); have n4_ := Aside0.mk (Kd.R_lower (Kd.R_new' (Kd.R_new' (Kd.R_new' ho1 (Kd.R_lt (by (with_reducible repeat (first | apply Kd.R_alloc | apply Kd.R_drewN | apply Kd.R_drew)); exact HO242.out))) (Kd.R_lt (by (with_reducible repeat (first | apply Kd.R_alloc | apply Kd.R_drewN | apply Kd.R_drew)); exact HO245.out))) (Kd.R_lt (by (with_reducible repeat (first | apply Kd.R_alloc | apply Kd.R_drewN | apply Kd.R_drew)); exact HO248.out))) (below_size (by repeat (first | (with_reducible first | exact HB.out | apply below_alloc | apply pw_below_drewN | apply below_drew1 | refine below_set ?_ GE239.out) | exact HB.out)))); have n5_ := Aside0.mk (blk_below (g := gb239) (o := .cells #[.slice A0_0 l0_0.length c0_0, .slice A0_1 l0_1.length c0_1] 24 (0, 0)) (by (with_reducible repeat (first | refine blk_drewN ?_ _ | refine blk_drew ?_ | refine blk_alloc ?_ _)); exact BK239.out) hb); have n6_ := Aside0.mk (below_step (by repeat (first | (with_reducible first | exact HB.out | apply below_alloc | apply pw_below_drewN | apply below_drew1 | refine below_set ?_ GE239.out) | exact HB.out)) hb); clear HO242; clear HO245; clear HO248; clear BK239; clear HB; have HO242 := n0_; have HO245 := n1_; have HO248 := n2_; have HO252 := n3_; have HO255 := n4_; have BK239 := n5_; have HB := n6_; clear n0_ n1_ n2_ n3_ n4_ n5_ n6_; (try clear hb); (try clear hb2); (try clear hk); (try clear hi); (try clear ho0); (try clear ho1)) | ((with_reducible refine gate_callee (f := 18) rfl ?_); refine goesL_ (some 22) rfl rfl Try.func18 (by kernel_rfl) rfl #[.string a1] rfl (by (try simp only [List.map_toArray, List.map_cons, List.map_nil]); first | done | rfl | (simp only [List.length_drop, List.length_take]; rfl)) ?_; (with_reducible refine (Go.Proofs.Ytjffhhalmicodaa.PA.comfitlaw08_text.calls a1 t256 _ A6.out).mono ?_); rintro e w84 ⟨rfl, hb⟩; refine ⟨_, rfl, ?_⟩; have n0_ := Aside0.mk (Kd.R_below (by (with_reducible repeat (first | apply Kd.R_alloc | apply Kd.R_drewN | apply Kd.R_drew)); exact HO242.out) hb); have n1_ := Aside0.mk (Kd.R_below (by (with_reducible repeat (first | apply Kd.R_alloc | apply Kd.R_drewN | apply Kd.R_drew)); exact HO245.out) hb); have n2_ := Aside0.mk (Kd.R_below (by (with_reducible repeat (first | apply Kd.R_alloc | apply Kd.R_drewN | apply Kd.R_drew)); exact HO248.out) hb); have n3_ := Aside0.mk (Kd.R_below (by (with_reducible repeat (first | apply Kd.R_alloc | apply Kd.R_drewN | apply Kd.R_drew)); exact HO252.out) hb); have n4_ := Aside0.mk (Kd.R_below (by (with_reducible repeat (first | apply Kd.R_alloc | apply Kd.R_drewN | apply Kd.R_drew)); exact HO255.out) hb); have n5_ := Aside0.mk (blk_below (g := gb239) (o := .cells #[.slice A0_0 l0_0.length c0_0, .slice A0_1 l0_1.length c0_1] 24 (0, 0)) (by (with_reducible repeat (first | refine blk_drewN ?_ _ | refine blk_drew ?_ | refine blk_alloc ?_ _)); exact BK239.out) hb); have n6_ := Aside0.mk (below_step (by repeat (first | (with_reducible first | exact HB.out | apply below_alloc | apply pw_below_drewN | apply below_drew1 | refine below_set ?_ GE239.out) | exact HB.out)) hb); clear HO242; clear HO245; clear HO248; clear HO252; clear HO255; clear BK239; clear HB; have HO242 := n0_; have HO245 := n1_; have HO248 := n2_; have HO252 := n3_; have HO255 := n4_; have BK239 := n5_; have HB := n6_; clear n0_ n1_ n2_ n3_ n4_ n5_ n6_; (try clear hb); (try clear hb2); (try clear hk); (try clear hi); obtain ⟨Ao85, co85, eo85⟩ := Kd.R_slice HO252.out; subst eo85; obtain ⟨Ao86, co86, eo86⟩ := Kd.R_slice HO255.out; subst eo86) | ((with_reducible refine gate_callee (f := 16) rfl ?_); refine goesL_ (some 23) rfl rfl Try.func16 (by kernel_rfl) rfl #[.agg #[.slice Ao85 t250.length co85, .slice Ao86 t253.length co86], .string t256] rfl (by (try simp only [List.map_toArray, List.map_cons, List.map_nil]); first | done | rfl | (simp only [List.length_drop, List.length_take]; rfl)) ?_; (with_reducible refine (Go.Proofs.Ytjffhhalmicodaa.X.fixes_Holds.calls k _ _ t250 _ _ t253 t256 t257 t258 _ ?side1 ?side2 ?side3 ?side4 A7.out).mono ?_); (case side1 => repeat (first | exact (Kd.R_reads' HO252.out).2.2 | (with_reducible refine Kd.C_alloc ?_ _) | (with_reducible refine Kd.C_drewN ?_ _) | (with_reducible refine Kd.C_drew ?_))); (case side2 => exact (Kd.R_reads' HO252.out).2.1); (case side3 => repeat (first | exact (Kd.R_reads' HO255.out).2.2 | (with_reducible refine Kd.C_alloc ?_ _) | (with_reducible refine Kd.C_drewN ?_ _) | (with_reducible refine Kd.C_drew ?_))); (case side4 => exact (Kd.R_reads' HO255.out).2.1); rintro e w87 ⟨rfl, hb⟩; refine ⟨_, rfl, ?_⟩; have n0_ := Aside0.mk (Kd.R_below (by (with_reducible repeat (first | apply Kd.R_alloc | apply Kd.R_drewN | apply Kd.R_drew)); exact HO242.out) hb); have n1_ := Aside0.mk (Kd.R_below (by (with_reducible repeat (first | apply Kd.R_alloc | apply Kd.R_drewN | apply Kd.R_drew)); exact HO245.out) hb); have n2_ := Aside0.mk (Kd.R_below (by (with_reducible repeat (first | apply Kd.R_alloc | apply Kd.R_drewN | apply Kd.R_drew)); exact HO248.out) hb); have n3_ := Aside0.mk (Kd.R_below (by (with_reducible repeat (first | apply Kd.R_alloc | apply Kd.R_drewN | apply Kd.R_drew)); exact HO252.out) hb); have n4_ := Aside0.mk (Kd.R_below (by (with_reducible repeat (first | apply Kd.R_alloc | apply Kd.R_drewN | apply Kd.R_drew)); exact HO255.out) hb); have n5_ := Aside0.mk (blk_below (g := gb239) (o := .cells #[.slice A0_0 l0_0.length c0_0, .slice A0_1 l0_1.length c0_1] 24 (0, 0)) (by (with_reducible repeat (first | refine blk_drewN ?_ _ | refine blk_drew ?_ | refine blk_alloc ?_ _)); exact BK239.out) hb); have n6_ := Aside0.mk (below_step (by repeat (first | (with_reducible first | exact HB.out | apply below_alloc | apply pw_below_drewN | apply below_drew1 | refine below_set ?_ GE239.out) | exact HB.out)) hb); clear HO242; clear HO245; clear HO248; clear HO252; clear HO255; clear BK239; clear HB; have HO242 := n0_; have HO245 := n1_; have HO248 := n2_; have HO252 := n3_; have HO255 := n4_; have BK239 := n5_; have HB := n6_; clear n0_ n1_ n2_ n3_ n4_ n5_ n6_; (try clear hb); (try clear hb2); (try clear hk); (try clear hi); have hcz88_0 : w87.cell? ⟨gb239, 0, none⟩ = some (.slice A0_0 l0_0.length c0_0) := (blk_cell BK239.out 0).trans rfl; have hcz88_1 : w87.cell? ⟨gb239, 1, none⟩ = some (.slice A0_1 l0_1.length c0_1) := (blk_cell BK239.out 1).trans rfl; have hfz88_0 := blk_frozen BK239.out 0; have hfz88_1 := blk_frozen BK239.out 1) | ((with_reducible refine gate_callee (f := 21) rfl ?_); refine goesL_ (some 27) rfl rfl Try.func21 (by kernel_rfl) rfl #[.agg #[.slice A0_0 l0_0.length c0_0, .slice A0_1 l0_1.length c0_1]] rfl (by (try simp only [List.map_toArray, List.map_cons, List.map_nil]); first | done | rfl | (simp only [List.length_drop, List.length_take]; rfl)) ?_; (with_reducible refine (Go.Proofs.Ytjffhhalmicodaa.PB.comfitref08_Valid.calls k _ _ l0_0 _ _ l0_1 false _ ?side1 ?side2 ?side3 ?side4 A8.out).mono ?_); (case side1 => repeat (first | exact (Kd.C_below HR0_0.out HB.out) | (with_reducible refine Kd.C_alloc ?_ _) | (with_reducible refine Kd.C_drewN ?_ _) | (with_reducible refine Kd.C_drew ?_))); (case side2 => exact HC0_0.out); (case side3 => repeat (first | exact (Kd.C_below HR0_1.out HB.out) | (with_reducible refine Kd.C_alloc ?_ _) | (with_reducible refine Kd.C_drewN ?_ _) | (with_reducible refine Kd.C_drew ?_))); (case side4 => exact HC0_1.out); rintro e w89 ⟨rfl, hb⟩; refine ⟨_, rfl, ?_⟩; have n0_ := Aside0.mk (Kd.R_below (by (with_reducible repeat (first | apply Kd.R_alloc | apply Kd.R_drewN | apply Kd.R_drew)); exact HO242.out) hb); have n1_ := Aside0.mk (Kd.R_below (by (with_reducible repeat (first | apply Kd.R_alloc | apply Kd.R_drewN | apply Kd.R_drew)); exact HO245.out) hb); have n2_ := Aside0.mk (Kd.R_below (by (with_reducible repeat (first | apply Kd.R_alloc | apply Kd.R_drewN | apply Kd.R_drew)); exact HO248.out) hb); have n3_ := Aside0.mk (Kd.R_below (by (with_reducible repeat (first | apply Kd.R_alloc | apply Kd.R_drewN | apply Kd.R_drew)); exact HO252.out) hb); have n4_ := Aside0.mk (Kd.R_below (by (with_reducible repeat (first | apply Kd.R_alloc | apply Kd.R_drewN | apply Kd.R_drew)); exact HO255.out) hb); have n5_ := Aside0.mk (blk_below (g := gb239) (o := .cells #[.slice A0_0 l0_0.length c0_0, .slice A0_1 l0_1.length c0_1] 24 (0, 0)) (by (with_reducible repeat (first | refine blk_drewN ?_ _ | refine blk_drew ?_ | refine blk_alloc ?_ _)); exact BK239.out) hb); have n6_ := Aside0.mk (below_step (by repeat (first | (with_reducible first | exact HB.out | apply below_alloc | apply pw_below_drewN | apply below_drew1 | refine below_set ?_ GE239.out) | exact HB.out)) hb); clear HO242; clear HO245; clear HO248; clear HO252; clear HO255; clear BK239; clear HB; have HO242 := n0_; have HO245 := n1_; have HO248 := n2_; have HO252 := n3_; have HO255 := n4_; have BK239 := n5_; have HB := n6_; clear n0_ n1_ n2_ n3_ n4_ n5_ n6_; (try clear hb); (try clear hb2); (try clear hk); (try clear hi)))
      go_ret
      exact ⟨by first | rfl | (simp [errW_none, errW_some] <;> rfl) | (simp [*, errW_none, errW_some] <;> rfl), by repeat (first | (with_reducible first | exact HB.out | apply below_alloc | apply pw_below_drewN | apply below_drew1 | refine below_set ?_ GE239.out) | exact HB.out)⟩
end Go.Proofs.Ytjffhhalmicodaa.PF
end

section
set_option linter.unusedVariables false
namespace Go.Proofs.Ytjffhhalmicodaa.L
open Go.RowKit Go.Proofs.YtjffhhalmicodaaW.PrintWords Go.Proofs.YtjffhhalmicodaaW.PrintLast Go.Proofs.YtjffhhalmicodaaW.PrintMore Go.Proofs.Ytjffhhalmicodaa.X Go.Proofs.Ytjffhhalmicodaa.PF Go.Proofs.Ytjffhhalmicodaa.PA Go.Proofs.Ytjffhhalmicodaa.PB
theorem Is_ev (a : ByteArray) : Evr (fun k => PB.comfitref08_Is.f k a) (IsB a) := Evr.of_mono (fun k => PB.comfitref08_Is.mono a k) (Is_eq a)
theorem Holds_ev {nx mk : List Int} (hv : VW nx mk) {a : ByteArray} {f : Fm} (ha : wholeS 40 a = some f) : Evr (fun k => fixes_Holds.f k (nx.take 9) (mk.take 9) (txt a)) (V nx mk f (0, 0, 0), 0) := by
  obtain ⟨k, h, _⟩ := Holds_some hv ha
  exact Evr.of_mono (fun k => fixes_Holds.mono _ _ _ k) ⟨k, h⟩
theorem getL_zero (c : Nat) : getL c (0, 0, 0) = 0 := by
  unfold getL
  split
  · rfl
  · split <;> rfl
theorem sat {nx mk : List Int} (hv : VW nx mk) {K : Nat} (hK : Last nx mk K) {f : Fm} (hf : WF f) {s t : Nat} (hs : s < nx.length) (ht : t < nx.length) (h : E nx mk K s t) : tb (V nx mk f (0, 0, 0)) s = tb (V nx mk f (0, 0, 0)) t :=
  V_ag hv hv (bi_E hv hK) f hf _ _ (inE_zero _) (inE_zero _) (fun c s t _ => by rw [getL_zero, tb_zero, tb_zero]) s t ⟨hs, ht, h⟩
theorem CL_pos {nx mk : List Int} (hv : VW nx mk) {K v : Nat} (h : v < nc nx mk K) : 0 < rd (CL nx mk K) (v : Int) := by
  obtain ⟨c1, c2⟩ := CL_spec hv h
  obtain ⟨i, i1, i2, _⟩ := cls_has (lkey nx mk K) nx.length v h
  refine pos_of_tb c1 (i := i) ?_
  rw [c2, lv_rd _ _ _ _ i1, i2]
  simp [i1]
theorem all_eq {nx : List Int} (h : nx.length ≤ 6) : wrap64 (shl .i64 1 (nx.length : Int) - 1) = allOf nx := by
  rw [shl1 (by omega), allOf_eq (by omega)]
  have h1 := Nat.two_pow_pos nx.length
  have h2 : 2 ^ nx.length ≤ 2 ^ 6 := Nat.pow_le_pow_right (by decide) h
  unfold wrap64
  omega
theorem Equal_loop {nx mk : List Int} (hv : VW nx mk) {K : Nat} (hK : Last nx mk K) {n e : Int} (hn : e = 0 → InS nx.length n ∧ ∀ s t, s < nx.length → t < nx.length → E nx mk K s t → tb n s = tb n t) :
    ∀ (d v : Nat) (m : Int), v + d = nc nx mk K → InS nx.length m → (∀ i, tb m i = (decide (i < nx.length) && decide (rd (lv nx mk K) i < (v : Int)))) → Evr (fun k => comfitlaw08_FixesEqual.l0 k n e m (CL nx mk K) (nc nx mk K : Int) (v : Int) nx mk) true := by
  have h6 := hv.le
  have hnc := nc_le nx mk K
  intro d
  induction d with
  | zero =>
    intro v m hvd hm hI
    obtain rfl : v = nc nx mk K := by omega
    refine Evr.step (h := fun k => (PB.comfitlaw08_awake.f k).bind fun t => some t) (fun k => ?_) (Evr.bind awake_ev (Evr.const _))
    simp only [comfitlaw08_FixesEqual.l0]
    have hme : m = wrap64 (shl .i64 1 (nx.length : Int) - 1) := by
      rw [all_eq h6]
      refine inS_ext hm (all_in (by omega)) fun i hi => ?_
      rw [hI, tb_all (by omega)]
      have : rd (lv nx mk K) i < (nc nx mk K : Int) := by
        rw [lv_rd _ _ _ _ hi]
        exact (cls_range (lkey nx mk K) hi).2
      simp [this]
    rw [if_neg (by omega), if_pos hme]
  | succ d ih =>
    intro v m hvd hm hI
    have hvn : v < nc nx mk K := by omega
    have hpos := CL_pos hv hvn
    obtain ⟨c1, c2⟩ := CL_spec hv hvn
    have hzero : bits .and .i64 (rd (CL nx mk K) (v : Int)) m = 0 := by
      rw [and_zero (by omega) c1 hm]
      intro i hi
      rw [c2] at hi
      rw [hI]
      simp at hi ⊢
      omega
    have hor : InS nx.length (bits .or .i64 m (rd (CL nx mk K) (v : Int))) ∧ ∀ i, tb (bits .or .i64 m (rd (CL nx mk K) (v : Int))) i = (decide (i < nx.length) && decide (rd (lv nx mk K) i < ((v + 1 : Nat) : Int))) := by
      refine ⟨or_in (by omega) hm c1, fun i => ?_⟩
      rw [tb_or (by omega) (by omega) hm c1, hI, c2, Bool.eq_iff_iff]
      simp
      omega
    have next := ih (v + 1) _ (by omega) hor.1 hor.2
    refine Evr.step (fun k => ?_) next
    simp only [comfitlaw08_FixesEqual.l0]
    rw [if_pos (by omega), if_pos (by omega), if_pos (by rw [CL_len]; omega), if_neg (by omega), if_pos hzero, wsucc (by omega)]
    by_cases he : e = 0
    · rw [if_pos he]
      obtain ⟨n1, n2⟩ := hn he
      by_cases h0 : bits .and .i64 n (rd (CL nx mk K) (v : Int)) = 0
      · rw [if_pos h0]
      · have hc : bits .and .i64 n (rd (CL nx mk K) (v : Int)) = rd (CL nx mk K) (v : Int) := by
          have hex : ∃ i, tb n i = true ∧ tb (rd (CL nx mk K) (v : Int)) i = true := by
            apply Classical.byContradiction
            intro q
            apply h0
            rw [and_zero (by omega) n1 c1]
            intro i hi
            cases hb : tb (rd (CL nx mk K) (v : Int)) i
            · rfl
            · exact absurd ⟨i, hi, hb⟩ q
          obtain ⟨i, i1, i2⟩ := hex
          refine inS_ext (and_in (by omega) n1 c1) c1 fun j hj => ?_
          rw [tb_and (by omega) (by omega) n1 c1]
          cases hb : tb (rd (CL nx mk K) (v : Int)) j
          · simp
          · rw [c2] at i2 hb
            simp at i2 hb
            have hE : E nx mk K i j := by unfold E; rw [i2.2, hb.2]
            rw [← n2 i j i2.1 hj hE, i1]
            rfl
        rw [if_neg h0, if_pos hc]
    · rw [if_neg he]
theorem Pure_FixesEqual (nx mk : List Int) (a : ByteArray) : ∃ k, comfitlaw08_FixesEqual.f k nx mk a = some true := by
  apply Evr.ex
  unfold comfitlaw08_FixesEqual.f
  simp only [Of_eq, text_eq, Option.bind_some]
  by_cases hv : VW nx mk
  · obtain ⟨e1, e2⟩ := take_of hv
    obtain ⟨K, hK, _⟩ := lv_last hv
    have hcl := Classes_ev hv hK
    have loop : ∀ n e : Int, (e = 0 → InS nx.length n ∧ ∀ s t, s < nx.length → t < nx.length → E nx mk K s t → tb n s = tb n t) → Evr (fun k => comfitlaw08_FixesEqual.j0 k (CL nx mk K) n e false nx mk) true := fun n e h => by
      refine Evr.step (fun k => ?_) (Equal_loop hv hK (e := e) h (nc nx mk K) 0 0 (by omega) (inS_zero _) (fun i => by
        rw [tb_zero]
        by_cases hi : i < nx.length
        · have := (lv_range (mk := mk) K i hi).1
          simp [hi]
          omega
        · simp [hi]))
      simp only [comfitlaw08_FixesEqual.j0]
      rw [CL_len]
      rfl
    have fin : ∀ n e : Int, ((e == 0) != IsB a) = false → (e = 0 → InS nx.length n ∧ ∀ s t, s < nx.length → t < nx.length → E nx mk K s t → tb n s = tb n t) → Evr (fun k => (PB.comfitref08_Valid.f k nx mk).bind fun t264 => (if t264 = true then (if (0 : Int) = 0 then ((PB.comfitref08_Is.f k a).bind fun t266 => (comfitlaw08_FixesEqual.j0 k (CL nx mk K) n e ((e == 0) != t266) nx mk)) else (comfitlaw08_FixesEqual.j0 k (CL nx mk K) n e true nx mk)) else (if (0 : Int) = 2 then (if e = 2 then ((PB.comfitlaw08_awake.f k).bind fun t265 => (some t265)) else (some false)) else (some false)))) true := by
      intro n e hb h
      refine Evr.bind (Valid_ev nx mk) ?_
      simp only [hv, decide_true, if_true]
      refine Evr.bind (Is_ev a) ?_
      rw [hb]
      exact loop n e h
    rw [e1, e2]
    refine Evr.bind hcl ?_
    cases hi : IsB a with
    | false =>
      have hh : ∀ k, fixes_Holds.f k nx mk (txt a) = some (0, 3) := fun k => by
        have := Holds_none hv hi k
        rwa [e1, e2] at this
      refine Evr.bind (Evr.of_all hh) (fin 0 3 ?_ (fun h => by cases h))
      rw [hi]
      rfl
    | true =>
      obtain ⟨f, h1, h2, h3⟩ := wholeS_some hi
      have hh := Holds_ev hv h1
      rw [e1, e2] at hh
      have hw : WF f := (whole_str h2).2
      refine Evr.bind hh (fin _ 0 ?_ (fun _ => ⟨(V_spec hv f hw).1 _ (inE_zero _), fun s t hs ht h => sat hv hK hw hs ht h⟩))
      rw [hi]
      rfl
  · have hv' := vw_no hv
    refine Evr.bind (Evr.of_all (Classes_bad hv')) (Evr.bind (Evr.of_all (Holds_bad hv a)) (Evr.bind (Valid_ev nx mk) ?_))
    simp only [hv, decide_false]
    refine Evr.congr (fun k => ?_) awake_ev
    simp
end Go.Proofs.Ytjffhhalmicodaa.L
end
