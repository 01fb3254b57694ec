/- Texts of this claim, merged by a program (wip/tools/shake.py); what nothing names is left out. -/
import Derived.Test.YtjffhhalmicodaaSth
section
namespace Go.Proofs.Ytjffhhalmicodaa.PH
open Go.RowKit Go.Proofs.G.PrintWords Go.Proofs.G.PrintLast Go.Proofs.G.PrintMore
attribute [local go_sem] max2_int min2_int max_two min_two max_three min_three max_four min_four
set_option linter.unusedVariables false
set_option linter.unusedSimpArgs false
def r8Told.l0 : Nat → Int → Int → ByteArray → Int → Int → List Int → List Int → Option (Int × Bool)
  | 0, _, _, _, _, _, _, _ => none
  | k + 1, x1, x2, x3, x18, x19, x103000, x103001 => if x19 < x18 then (if 0 ≤ x19 then (if x19 < (x3.size : Int) then ((PA.r8letter.f (bt x3 x19)).bind fun t103 => (if t103 ≥ 0 then (some (0, false)) else (if (bt x3 x19) = 109 then (some (0, false)) else (if (bt x3 x19) = 103 then (some (0, false)) else (r8Told.l0 k x1 x2 x3 x18 (wrap64 (x19 + 1)) x103000 x103001))))) else (none)) else (none)) else ((PB.r8read.f k x3 0 0).bind fun bt104 => (if bt104.1 = (x3.size : Int) then ((X.ref_Holds.f k x103000 x103001 x3).bind fun t106 => (if 0 ≤ x1 then (if (Go.bits .and .i64 (shr .i64 t106 x1) 1) = 0 then (some (0, false)) else (if 0 ≤ x2 then (if (Go.bits .and .i64 (shr .i64 t106 x2) 1) = 1 then (some (0, false)) else (some (bt104.2, true))) else (none))) else (none))) else (some (0, false))))
def r8Told.f (k : Nat) (l0_0 : List Int) (l0_1 : List Int) (a1 : Int) (a2 : Int) (a3 : ByteArray) : Option (Int × Bool) := if (a3.size : Int) > 4000 then (some (0, false)) else (r8Told.l0 k a1 a2 a3 (a3.size : Int) 0 l0_0 l0_1)
set_option maxHeartbeats 8000000 in
set_option maxRecDepth 100000 in
theorem r8Told.calls (k : Nat) (A0_0 : Option Addr) (c0_0 : Nat) (l0_0 : List Int) (A0_1 : Option Addr) (c0_1 : Nat) (l0_1 : List Int) (a1 : Int) (a2 : Int) (a3 : ByteArray) (r1 : Int) (r2 : Bool) (w : World) (hr0_0 : Kd.C (Kd.int .i64) w A0_0 l0_0.length l0_0) (hc0_0 : l0_0.length ≤ c0_0) (hr0_1 : Kd.C (Kd.int .i64) w A0_1 l0_1.length l0_1) (hc0_1 : l0_1.length ≤ c0_1) (h : r8Told.f k l0_0 l0_1 a1 a2 a3 = some (r1, r2)) :
  Calls Try.prog 44 #[.agg #[.slice A0_0 l0_0.length c0_0, .slice A0_1 l0_1.length c0_1], .int .i64 a1, .int .i64 a2, .string a3] w fun e w' => e = .returned (.tuple #[.int .i64 r1, .bool r2]) ∧ Below w.heap.size w w' := by
 have hu24 := Try.underlying24
 have HR0_0 := As0.mk hr0_0
 have HC0_0 := As0.mk hc0_0
 clear hr0_0 hc0_0
 have HR0_1 := As0.mk hr0_1
 have HC0_1 := As0.mk hc0_1
 clear hr0_1 hc0_1
 have HB := As0.mk (Below.refl w.heap.size w)
 have H : (if (a3.size : Int) > 4000 then (some (0, false)) else (r8Told.l0 k a1 a2 a3 (a3.size : Int) 0 l0_0 l0_1)) = some (r1, r2) := h
 clear h
 by_cases c5 : (a3.size : Int) > 4000
 ·rw [if_pos c5] at H
  have c5b0 : decide (4000 < (a3.size : Int)) = true := decide_eq_true c5
  have c5b1 : decide (4000 < a3.size) = true := decide_eq_true (by omega)
  clear c5
  simp only [Option.some.injEq, Prod.mk.injEq] at H
  obtain ⟨rfl, rfl⟩ := H
  go_enter Try.func44, Try.ntmps44
  go_wp2_with (first | ((with_reducible refine gate_dst (N := 4) rfl ?_); refine box_event ?hg (N := 4) ?hd (cs := #[.slice A0_0 l0_0.length c0_0, .slice A0_1 l0_1.length c0_1]) (t := 24) ?hr ?_; (case hd => rfl); (case hg => rfl); (case hr => first | (go_simp; done) | (go_simp; rfl)); intro gb102 hg w6 hbox hb; have n0_ := As0.mk (bst (by repeat (first | (with_reducible first | exact HB.out | apply below_alloc | apply pwd | apply bd1) | exact HB.out)) hb); have n1_ := As0.mk (hbox); have n2_ := As0.mk ((by rw [hg]; exact (below_size (by repeat (first | (with_reducible first | exact HB.out | apply below_alloc | apply pwd | apply bd1) | exact HB.out))) : w.heap.size ≤ gb102)); have n3_ := As0.mk ((by rw [hg]; exact (below_size (by repeat (first | (with_reducible first | exact HB.out | apply below_alloc | apply pwd | apply bd1) | exact HB.out))) : w.heap.size ≤ gb102)); clear HB; have HB := n0_; have BK102 := n1_; have GW102 := n2_; have GE102 := n3_; clear n0_ n1_ n2_ n3_; clear hb hbox hg))
  go_ret2
  exact ⟨by first | rfl | (simp [errW_none, errW_some] <;> rfl) | (simp [*, errW_none, errW_some] <;> rfl), by repeat (first | (with_reducible first | exact HB.out | apply below_alloc | apply pwd | apply bd1 | refine below_set ?_ GE102.out) | exact HB.out)⟩
 ·rw [if_neg c5] at H
  have c5b0 : decide (4000 < (a3.size : Int)) = false := decide_eq_false c5
  have c5b1 : decide (4000 < a3.size) = false := decide_eq_false (by omega)
  clear c5
  have H' := As0.mk H
  clear H
  go_enter Try.func44, Try.ntmps44
  go_wp2_with (first | ((with_reducible refine gate_dst (N := 4) rfl ?_); refine box_event ?hg (N := 4) ?hd (cs := #[.slice A0_0 l0_0.length c0_0, .slice A0_1 l0_1.length c0_1]) (t := 24) ?hr ?_; (case hd => rfl); (case hg => rfl); (case hr => first | (go_simp; done) | (go_simp; rfl)); intro gb102 hg w7 hbox hb; have n0_ := As0.mk (bst (by repeat (first | (with_reducible first | exact HB.out | apply below_alloc | apply pwd | apply bd1) | exact HB.out)) hb); have n1_ := As0.mk (hbox); have n2_ := As0.mk ((by rw [hg]; exact (below_size (by repeat (first | (with_reducible first | exact HB.out | apply below_alloc | apply pwd | apply bd1) | exact HB.out))) : w.heap.size ≤ gb102)); have n3_ := As0.mk ((by rw [hg]; exact (below_size (by repeat (first | (with_reducible first | exact HB.out | apply below_alloc | apply pwd | apply bd1) | exact HB.out))) : w.heap.size ≤ gb102)); clear HB; have HB := n0_; have BK102 := n1_; have GW102 := n2_; have GE102 := n3_; clear n0_ n1_ n2_ n3_; clear hb hbox hg))
  go_loopg [19] k (fun kq v19 w' => ∃ (x19_1 : Int), v19 = .int .i64 x19_1 ∧ As0 (r8Told.l0 kq a1 a2 a3 (a3.size : Int) x19_1 l0_0 l0_1 = some (r1, r2)) ∧ As0 (kq ≤ k) ∧ As0 (w'.heap[gb102]? = some (.cells #[(.slice A0_0 l0_0.length c0_0), (.slice A0_1 l0_1.length c0_1)] 24 (0, 0))) ∧ As0 (Below w.heap.size w w'))
  case atStart => exact ⟨(0), (by first | rfl | (simp; done) | (simp [*]; done)), H', ⟨Nat.le_refl _⟩, ⟨by (with_reducible repeat (first | refine blk_drewN ?_ _ | refine blk_drew ?_ | refine blk_alloc ?_ _)); exact BK102.out⟩, ⟨by repeat (first | (with_reducible first | exact HB.out | apply below_alloc | apply pwd | apply bd1 | refine below_set ?_ GE102.out) | exact HB.out)⟩⟩
  case round =>
   clear H'
   try clear p2
   try clear c4
   try clear c5
   try clear c5b0
   try clear c5b1
   obtain ⟨x19_1, rfl, HA, HK1, BK102, HB⟩ := hrel
   cases gk with
   | zero => exact absurd HA.out (by simp [r8Told.l0])
   | succ k1 =>
    have H := HA.out
    clear HA
    simp only [r8Told.l0] at H
    by_cases c8 : x19_1 < (a3.size : Int)
    ·rw [if_pos c8] at H
     have c8b0 : decide (x19_1 < (a3.size : Int)) = true := decide_eq_true c8
     clear c8
     by_cases c9 : 0 ≤ x19_1
     ·rw [if_pos c9] at H
      have c9b0 : decide (0 ≤ x19_1) = true := decide_eq_true c9
      clear c9
      by_cases c10 : x19_1 < (a3.size : Int)
      ·rw [if_pos c10] at H
       have c10b0 : decide (x19_1 < (a3.size : Int)) = true := decide_eq_true c10
       clear c10
       replace H := Option.bind_eq_some_iff.mp H
       obtain ⟨t103, A120, H⟩ := H
       replace H : (if t103 ≥ 0 then (some (0, false)) else (if (bt a3 x19_1) = 109 then (some (0, false)) else (if (bt a3 x19_1) = 103 then (some (0, false)) else (r8Told.l0 k1 a1 a2 a3 (a3.size : Int) (wrap64 (x19_1 + 1)) l0_0 l0_1)))) = some (r1, r2) := H
       have A12 := As0.mk A120
       clear A120
       by_cases c13 : t103 ≥ 0
       ·rw [if_pos c13] at H
        have c13b0 : decide (0 ≤ t103) = true := decide_eq_true c13
        clear c13
        simp only [Option.some.injEq, Prod.mk.injEq] at H
        obtain ⟨rfl, rfl⟩ := H
        have p11 : 0 ≤ (x19_1 : Int) := of_decide_eq_true (by first | (with_reducible assumption) | assumption)
        have q11 : x19_1 < (a3.size : Int) := of_decide_eq_true (by first | (with_reducible assumption) | assumption)
        have hx11 := bt_at a3 x19_1
        replace p11 := eq_true p11
        replace q11 := eq_true q11
        go_wp2_with (first | ((with_reducible refine gate_callee (f := 60) rfl ?_); refine goesL_ (some 25) rfl rfl Try.func60 (by kernel_rfl) rfl #[.int .u8 (bt a3 x19_1)] rfl (by (try simp only [sm]); first | done | rfl | (simp only [List.length_drop, List.length_take]; rfl)) ?_; (with_reducible refine (PA.r8letter.calls (bt a3 x19_1) t103 _ A12.out).mono ?_); rintro e w' ⟨rfl, ⟨nd, rfl⟩⟩; refine ⟨_, rfl, ?_⟩))
        go_ret2
        exact ⟨by first | rfl | (simp [errW_none, errW_some] <;> rfl) | (simp [*, errW_none, errW_some] <;> rfl), by repeat (first | (with_reducible first | exact HB.out | apply below_alloc | apply pwd | apply bd1 | refine below_set ?_ GE102.out) | exact HB.out)⟩
       ·rw [if_neg c13] at H
        have c13b0 : decide (0 ≤ t103) = false := decide_eq_false c13
        clear c13
        by_cases c15 : (bt a3 x19_1) = 109
        ·rw [if_pos c15] at H
         have c15b0 : ((bt a3 x19_1) == 109) = true := beq_iff_eq.mpr c15
         have c15b1 : ((bt a3 x19_1) != 109) = false := bne_eq_false_iff_eq.mpr c15
         clear c15
         simp only [Option.some.injEq, Prod.mk.injEq] at H
         obtain ⟨rfl, rfl⟩ := H
         have p11 : 0 ≤ (x19_1 : Int) := of_decide_eq_true (by first | (with_reducible assumption) | assumption)
         have q11 : x19_1 < (a3.size : Int) := of_decide_eq_true (by first | (with_reducible assumption) | assumption)
         have hx11 := bt_at a3 x19_1
         replace p11 := eq_true p11
         replace q11 := eq_true q11
         go_wp2_with (first | ((with_reducible refine gate_callee (f := 60) rfl ?_); refine goesL_ (some 25) rfl rfl Try.func60 (by kernel_rfl) rfl #[.int .u8 (bt a3 x19_1)] rfl (by (try simp only [sm]); first | done | rfl | (simp only [List.length_drop, List.length_take]; rfl)) ?_; (with_reducible refine (PA.r8letter.calls (bt a3 x19_1) t103 _ A12.out).mono ?_); rintro e w' ⟨rfl, ⟨nd, rfl⟩⟩; refine ⟨_, rfl, ?_⟩; have p14 : 0 ≤ (x19_1 : Int) := of_decide_eq_true (by first | (with_reducible assumption) | assumption); have q14 : x19_1 < (a3.size : Int) := of_decide_eq_true (by first | (with_reducible assumption) | assumption); have hx14 := bt_at a3 x19_1; replace p14 := eq_true p14; replace q14 := eq_true q14))
         go_ret2
         exact ⟨by first | rfl | (simp [errW_none, errW_some] <;> rfl) | (simp [*, errW_none, errW_some] <;> rfl), by repeat (first | (with_reducible first | exact HB.out | apply below_alloc | apply pwd | apply bd1 | refine below_set ?_ GE102.out) | exact HB.out)⟩
        ·rw [if_neg c15] at H
         have c15b0 : ((bt a3 x19_1) == 109) = false := beq_eq_false_iff_ne.mpr c15
         have c15b1 : ((bt a3 x19_1) != 109) = true := bne_iff_ne.mpr c15
         by_cases c17 : (bt a3 x19_1) = 103
         ·rw [if_pos c17] at H
          have c17b0 : ((bt a3 x19_1) == 103) = true := beq_iff_eq.mpr c17
          have c17b1 : ((bt a3 x19_1) != 103) = false := bne_eq_false_iff_eq.mpr c17
          clear c17
          simp only [Option.some.injEq, Prod.mk.injEq] at H
          obtain ⟨rfl, rfl⟩ := H
          have p11 : 0 ≤ (x19_1 : Int) := of_decide_eq_true (by first | (with_reducible assumption) | assumption)
          have q11 : x19_1 < (a3.size : Int) := of_decide_eq_true (by first | (with_reducible assumption) | assumption)
          have hx11 := bt_at a3 x19_1
          replace p11 := eq_true p11
          replace q11 := eq_true q11
          go_wp2_with (first | ((with_reducible refine gate_callee (f := 60) rfl ?_); refine goesL_ (some 25) rfl rfl Try.func60 (by kernel_rfl) rfl #[.int .u8 (bt a3 x19_1)] rfl (by (try simp only [sm]); first | done | rfl | (simp only [List.length_drop, List.length_take]; rfl)) ?_; (with_reducible refine (PA.r8letter.calls (bt a3 x19_1) t103 _ A12.out).mono ?_); rintro e w' ⟨rfl, ⟨nd, rfl⟩⟩; refine ⟨_, rfl, ?_⟩; have p14 : 0 ≤ (x19_1 : Int) := of_decide_eq_true (by first | (with_reducible assumption) | assumption); have q14 : x19_1 < (a3.size : Int) := of_decide_eq_true (by first | (with_reducible assumption) | assumption); have hx14 := bt_at a3 x19_1; replace p14 := eq_true p14; replace q14 := eq_true q14; have p16 : 0 ≤ (x19_1 : Int) := of_decide_eq_true (by first | (with_reducible assumption) | assumption); have q16 : x19_1 < (a3.size : Int) := of_decide_eq_true (by first | (with_reducible assumption) | assumption); have hx16 := bt_at a3 x19_1; replace p16 := eq_true p16; replace q16 := eq_true q16))
          go_ret2
          exact ⟨by first | rfl | (simp [errW_none, errW_some] <;> rfl) | (simp [*, errW_none, errW_some] <;> rfl), by repeat (first | (with_reducible first | exact HB.out | apply below_alloc | apply pwd | apply bd1 | refine below_set ?_ GE102.out) | exact HB.out)⟩
         ·rw [if_neg c17] at H
          have c17b0 : ((bt a3 x19_1) == 103) = false := beq_eq_false_iff_ne.mpr c17
          have c17b1 : ((bt a3 x19_1) != 103) = true := bne_iff_ne.mpr c17
          have H' := As0.mk H
          clear H
          have p11 : 0 ≤ (x19_1 : Int) := of_decide_eq_true (by first | (with_reducible assumption) | assumption)
          have q11 : x19_1 < (a3.size : Int) := of_decide_eq_true (by first | (with_reducible assumption) | assumption)
          have hx11 := bt_at a3 x19_1
          replace p11 := eq_true p11
          replace q11 := eq_true q11
          go_wp2_with (first | ((with_reducible refine gate_callee (f := 60) rfl ?_); refine goesL_ (some 25) rfl rfl Try.func60 (by kernel_rfl) rfl #[.int .u8 (bt a3 x19_1)] rfl (by (try simp only [sm]); first | done | rfl | (simp only [List.length_drop, List.length_take]; rfl)) ?_; (with_reducible refine (PA.r8letter.calls (bt a3 x19_1) t103 _ A12.out).mono ?_); rintro e w' ⟨rfl, ⟨nd, rfl⟩⟩; refine ⟨_, rfl, ?_⟩; have p14 : 0 ≤ (x19_1 : Int) := of_decide_eq_true (by first | (with_reducible assumption) | assumption); have q14 : x19_1 < (a3.size : Int) := of_decide_eq_true (by first | (with_reducible assumption) | assumption); have hx14 := bt_at a3 x19_1; replace p14 := eq_true p14; replace q14 := eq_true q14; have p16 : 0 ≤ (x19_1 : Int) := of_decide_eq_true (by first | (with_reducible assumption) | assumption); have q16 : x19_1 < (a3.size : Int) := of_decide_eq_true (by first | (with_reducible assumption) | assumption); have hx16 := bt_at a3 x19_1; replace p16 := eq_true p16; replace q16 := eq_true q16))
          go_roundg k1
          case measure => have := HK1.out; omega
          case rel => exact ⟨(wrap64 (x19_1 + 1)), (by first | rfl | (simp; done) | (simp [*]; done)), H', ⟨by have := HK1.out; omega⟩, ⟨by (with_reducible repeat (first | refine blk_drewN ?_ _ | refine blk_drew ?_ | refine blk_alloc ?_ _)); exact BK102.out⟩, ⟨by repeat (first | (with_reducible first | exact HB.out | apply below_alloc | apply pwd | apply bd1 | refine below_set ?_ GE102.out) | exact HB.out)⟩⟩
      ·rw [if_neg c10] at H
       exact absurd H (by simp)
     ·rw [if_neg c9] at H
      exact absurd H (by simp)
    ·rw [if_neg c8] at H
     have c8b0 : decide (x19_1 < (a3.size : Int)) = false := decide_eq_false c8
     clear c8
     replace H := Option.bind_eq_some_iff.mp H
     obtain ⟨⟨t104, t105⟩, A180, H⟩ := H
     replace H : (if t104 = (a3.size : Int) then ((X.ref_Holds.f k1 l0_0 l0_1 a3).bind fun t106 => (if 0 ≤ a1 then (if (Go.bits .and .i64 (shr .i64 t106 a1) 1) = 0 then (some (0, false)) else (if 0 ≤ a2 then (if (Go.bits .and .i64 (shr .i64 t106 a2) 1) = 1 then (some (0, false)) else (some (t105, true))) else (none))) else (none))) else (some (0, false))) = some (r1, r2) := H
     have A18 := As0.mk A180
     clear A180
     by_cases c19 : t104 = (a3.size : Int)
     ·rw [if_pos c19] at H
      have c19b0 : (t104 == (a3.size : Int)) = true := beq_iff_eq.mpr c19
      have c19b1 : (t104 != (a3.size : Int)) = false := bne_eq_false_iff_eq.mpr c19
      clear c19
      replace H := Option.bind_eq_some_iff.mp H
      obtain ⟨t106, A200, H⟩ := H
      replace H : (if 0 ≤ a1 then (if (Go.bits .and .i64 (shr .i64 t106 a1) 1) = 0 then (some (0, false)) else (if 0 ≤ a2 then (if (Go.bits .and .i64 (shr .i64 t106 a2) 1) = 1 then (some (0, false)) else (some (t105, true))) else (none))) else (none)) = some (r1, r2) := H
      have A20 := As0.mk A200
      clear A200
      by_cases c21 : 0 ≤ a1
      ·rw [if_pos c21] at H
       have c21b0 := eq_true c21
       have c21b1 : decide (0 ≤ a1) = true := decide_eq_true c21
       clear c21
       obtain ⟨ji22, hji22⟩ : ∃ j_ : Int, (shr .i64 t106 a1) = j_ := ⟨_, rfl⟩
       replace H : (if (Go.bits .and .i64 (ji22) 1) = 0 then (some (0, false)) else (if 0 ≤ a2 then (if (Go.bits .and .i64 (shr .i64 t106 a2) 1) = 1 then (some (0, false)) else (some (t105, true))) else (none))) = some (r1, r2) := by first | (rw [hji22] at H; exact H) | (simp only [hji22] at H ⊢; exact H)
       (try rw [hji22] at A18)
       (try rw [hji22] at A20)
       have hji22_ : (t106 / 2 ^ min a1.toNat 64) = ji22 := hji22
       have hji22z : a1 ≤ 64 → (t106 / 2 ^ a1.toNat) = ji22 := shr_small hji22
       by_cases c23 : (Go.bits .and .i64 (ji22) 1) = 0
       ·rw [if_pos c23] at H
        have c23b0 : ((Go.bits .and .i64 (ji22) 1) == 0) = true := beq_iff_eq.mpr c23
        have c23b1 : ((Go.bits .and .i64 (ji22) 1) != 0) = false := bne_eq_false_iff_eq.mpr c23
        clear c23
        simp only [Option.some.injEq, Prod.mk.injEq] at H
        obtain ⟨rfl, rfl⟩ := H
        go_wp2_with (first | ((with_reducible refine gate_callee (f := 50) rfl ?_); refine goesL_ (some 42) rfl rfl Try.func50 (by kernel_rfl) rfl #[.string a3, .int .i64 0, .int .i64 0] rfl (by (try simp only [sm]); first | done | rfl | (simp only [List.length_drop, List.length_take]; rfl)) ?_; (with_reducible refine (PB.r8read.calls k1 a3 0 0 t104 t105 _ A18.out).mono ?_); rintro e w24 ⟨rfl, hb⟩; refine ⟨_, rfl, ?_⟩; have n0_ := As0.mk (blk_below (g := gb102) (o := .cells #[.slice A0_0 l0_0.length c0_0, .slice A0_1 l0_1.length c0_1] 24 (0, 0)) (by (with_reducible repeat (first | refine blk_drewN ?_ _ | refine blk_drew ?_ | refine blk_alloc ?_ _)); exact BK102.out) hb); have n1_ := As0.mk (bst (by repeat (first | (with_reducible first | exact HB.out | apply below_alloc | apply pwd | apply bd1 | refine below_set ?_ GE102.out) | exact HB.out)) hb); clear BK102; clear HB; have BK102 := n0_; have HB := n1_; clear n0_ n1_; (try clear hb); (try clear hb2); (try clear hk); (try clear hi); have hcz25_0 : w24.cell? ⟨gb102, 0, none⟩ = some (.slice A0_0 l0_0.length c0_0) := (blk_cell BK102.out 0).trans rfl; have hcz25_1 : w24.cell? ⟨gb102, 1, none⟩ = some (.slice A0_1 l0_1.length c0_1) := (blk_cell BK102.out 1).trans rfl; have hfz25_0 := blk_frozen BK102.out 0; have hfz25_1 := blk_frozen BK102.out 1) | ((with_reducible refine gate_callee (f := 23) rfl ?_); refine goesL_ (some 51) rfl rfl Try.func23 (by kernel_rfl) rfl #[.agg #[.slice A0_0 l0_0.length c0_0, .slice A0_1 l0_1.length c0_1], .string a3] rfl (by (try simp only [sm]); first | done | rfl | (simp only [List.length_drop, List.length_take]; rfl)) ?_; (with_reducible refine (X.ref_Holds.calls k1 _ _ l0_0 _ _ l0_1 a3 t106 _ ?side1 ?side2 ?side3 ?side4 A20.out).mono ?_); (case side1 => repeat (first | exact (Kd.C_below HR0_0.out HB.out) | (with_reducible refine Kd.C_alloc ?_ _) | (with_reducible refine Kd.C_drewN ?_ _) | (with_reducible refine Kd.C_drew ?_))); (case side2 => exact HC0_0.out); (case side3 => repeat (first | exact (Kd.C_below HR0_1.out HB.out) | (with_reducible refine Kd.C_alloc ?_ _) | (with_reducible refine Kd.C_drewN ?_ _) | (with_reducible refine Kd.C_drew ?_))); (case side4 => exact HC0_1.out); rintro e w26 ⟨rfl, hb⟩; refine ⟨_, rfl, ?_⟩; have n0_ := As0.mk (blk_below (g := gb102) (o := .cells #[.slice A0_0 l0_0.length c0_0, .slice A0_1 l0_1.length c0_1] 24 (0, 0)) (by (with_reducible repeat (first | refine blk_drewN ?_ _ | refine blk_drew ?_ | refine blk_alloc ?_ _)); exact BK102.out) hb); have n1_ := As0.mk (bst (by repeat (first | (with_reducible first | exact HB.out | apply below_alloc | apply pwd | apply bd1 | refine below_set ?_ GE102.out) | exact HB.out)) hb); clear BK102; clear HB; have BK102 := n0_; have HB := n1_; clear n0_ n1_; (try clear hb); (try clear hb2); (try clear hk); (try clear hi)))
        go_ret2
        exact ⟨by first | rfl | (simp [errW_none, errW_some] <;> rfl) | (simp only [← hji22]; first | rfl | (simp [errW_none, errW_some] <;> rfl)) | (simp [*, errW_none, errW_some] <;> rfl), by repeat (first | (with_reducible first | exact HB.out | apply below_alloc | apply pwd | apply bd1 | refine below_set ?_ GE102.out) | exact HB.out)⟩
       ·rw [if_neg c23] at H
        have c23b0 : ((Go.bits .and .i64 (ji22) 1) == 0) = false := beq_eq_false_iff_ne.mpr c23
        have c23b1 : ((Go.bits .and .i64 (ji22) 1) != 0) = true := bne_iff_ne.mpr c23
        by_cases c27 : 0 ≤ a2
        ·rw [if_pos c27] at H
         have c27b0 := eq_true c27
         have c27b1 : decide (0 ≤ a2) = true := decide_eq_true c27
         clear c27
         obtain ⟨ji28, hji28⟩ : ∃ j_ : Int, (shr .i64 t106 a2) = j_ := ⟨_, rfl⟩
         replace H : (if (Go.bits .and .i64 (ji28) 1) = 1 then (some (0, false)) else (some (t105, true))) = some (r1, r2) := by first | (rw [hji28] at H; exact H) | (simp only [hji28] at H ⊢; exact H)
         (try rw [hji28] at A18)
         (try rw [hji28] at A20)
         have hji28_ : (t106 / 2 ^ min a2.toNat 64) = ji28 := hji28
         have hji28z : a2 ≤ 64 → (t106 / 2 ^ a2.toNat) = ji28 := shr_small hji28
         by_cases c29 : (Go.bits .and .i64 (ji28) 1) = 1
         ·rw [if_pos c29] at H
          have c29b0 : ((Go.bits .and .i64 (ji28) 1) == 1) = true := beq_iff_eq.mpr c29
          have c29b1 : ((Go.bits .and .i64 (ji28) 1) != 1) = false := bne_eq_false_iff_eq.mpr c29
          clear c29
          simp only [Option.some.injEq, Prod.mk.injEq] at H
          obtain ⟨rfl, rfl⟩ := H
          go_wp2_with (first | ((with_reducible refine gate_callee (f := 50) rfl ?_); refine goesL_ (some 42) rfl rfl Try.func50 (by kernel_rfl) rfl #[.string a3, .int .i64 0, .int .i64 0] rfl (by (try simp only [sm]); first | done | rfl | (simp only [List.length_drop, List.length_take]; rfl)) ?_; (with_reducible refine (PB.r8read.calls k1 a3 0 0 t104 t105 _ A18.out).mono ?_); rintro e w30 ⟨rfl, hb⟩; refine ⟨_, rfl, ?_⟩; have n0_ := As0.mk (blk_below (g := gb102) (o := .cells #[.slice A0_0 l0_0.length c0_0, .slice A0_1 l0_1.length c0_1] 24 (0, 0)) (by (with_reducible repeat (first | refine blk_drewN ?_ _ | refine blk_drew ?_ | refine blk_alloc ?_ _)); exact BK102.out) hb); have n1_ := As0.mk (bst (by repeat (first | (with_reducible first | exact HB.out | apply below_alloc | apply pwd | apply bd1 | refine below_set ?_ GE102.out) | exact HB.out)) hb); clear BK102; clear HB; have BK102 := n0_; have HB := n1_; clear n0_ n1_; (try clear hb); (try clear hb2); (try clear hk); (try clear hi); have hcz31_0 : w30.cell? ⟨gb102, 0, none⟩ = some (.slice A0_0 l0_0.length c0_0) := (blk_cell BK102.out 0).trans rfl; have hcz31_1 : w30.cell? ⟨gb102, 1, none⟩ = some (.slice A0_1 l0_1.length c0_1) := (blk_cell BK102.out 1).trans rfl; have hfz31_0 := blk_frozen BK102.out 0; have hfz31_1 := blk_frozen BK102.out 1) | ((with_reducible refine gate_callee (f := 23) rfl ?_); refine goesL_ (some 51) rfl rfl Try.func23 (by kernel_rfl) rfl #[.agg #[.slice A0_0 l0_0.length c0_0, .slice A0_1 l0_1.length c0_1], .string a3] rfl (by (try simp only [sm]); first | done | rfl | (simp only [List.length_drop, List.length_take]; rfl)) ?_; (with_reducible refine (X.ref_Holds.calls k1 _ _ l0_0 _ _ l0_1 a3 t106 _ ?side1 ?side2 ?side3 ?side4 A20.out).mono ?_); (case side1 => repeat (first | exact (Kd.C_below HR0_0.out HB.out) | (with_reducible refine Kd.C_alloc ?_ _) | (with_reducible refine Kd.C_drewN ?_ _) | (with_reducible refine Kd.C_drew ?_))); (case side2 => exact HC0_0.out); (case side3 => repeat (first | exact (Kd.C_below HR0_1.out HB.out) | (with_reducible refine Kd.C_alloc ?_ _) | (with_reducible refine Kd.C_drewN ?_ _) | (with_reducible refine Kd.C_drew ?_))); (case side4 => exact HC0_1.out); rintro e w32 ⟨rfl, hb⟩; refine ⟨_, rfl, ?_⟩; have n0_ := As0.mk (blk_below (g := gb102) (o := .cells #[.slice A0_0 l0_0.length c0_0, .slice A0_1 l0_1.length c0_1] 24 (0, 0)) (by (with_reducible repeat (first | refine blk_drewN ?_ _ | refine blk_drew ?_ | refine blk_alloc ?_ _)); exact BK102.out) hb); have n1_ := As0.mk (bst (by repeat (first | (with_reducible first | exact HB.out | apply below_alloc | apply pwd | apply bd1 | refine below_set ?_ GE102.out) | exact HB.out)) hb); clear BK102; clear HB; have BK102 := n0_; have HB := n1_; clear n0_ n1_; (try clear hb); (try clear hb2); (try clear hk); (try clear hi)))
          go_ret2
          exact ⟨by first | rfl | (simp [errW_none, errW_some] <;> rfl) | (simp only [← hji22, ← hji28]; first | rfl | (simp [errW_none, errW_some] <;> rfl)) | (simp [*, errW_none, errW_some] <;> rfl), by repeat (first | (with_reducible first | exact HB.out | apply below_alloc | apply pwd | apply bd1 | refine below_set ?_ GE102.out) | exact HB.out)⟩
         ·rw [if_neg c29] at H
          have c29b0 : ((Go.bits .and .i64 (ji28) 1) == 1) = false := beq_eq_false_iff_ne.mpr c29
          have c29b1 : ((Go.bits .and .i64 (ji28) 1) != 1) = true := bne_iff_ne.mpr c29
          simp only [Option.some.injEq, Prod.mk.injEq] at H
          obtain ⟨rfl, rfl⟩ := H
          go_wp2_with (first | ((with_reducible refine gate_callee (f := 50) rfl ?_); refine goesL_ (some 42) rfl rfl Try.func50 (by kernel_rfl) rfl #[.string a3, .int .i64 0, .int .i64 0] rfl (by (try simp only [sm]); first | done | rfl | (simp only [List.length_drop, List.length_take]; rfl)) ?_; (with_reducible refine (PB.r8read.calls k1 a3 0 0 t104 t105 _ A18.out).mono ?_); rintro e w33 ⟨rfl, hb⟩; refine ⟨_, rfl, ?_⟩; have n0_ := As0.mk (blk_below (g := gb102) (o := .cells #[.slice A0_0 l0_0.length c0_0, .slice A0_1 l0_1.length c0_1] 24 (0, 0)) (by (with_reducible repeat (first | refine blk_drewN ?_ _ | refine blk_drew ?_ | refine blk_alloc ?_ _)); exact BK102.out) hb); have n1_ := As0.mk (bst (by repeat (first | (with_reducible first | exact HB.out | apply below_alloc | apply pwd | apply bd1 | refine below_set ?_ GE102.out) | exact HB.out)) hb); clear BK102; clear HB; have BK102 := n0_; have HB := n1_; clear n0_ n1_; (try clear hb); (try clear hb2); (try clear hk); (try clear hi); have hcz34_0 : w33.cell? ⟨gb102, 0, none⟩ = some (.slice A0_0 l0_0.length c0_0) := (blk_cell BK102.out 0).trans rfl; have hcz34_1 : w33.cell? ⟨gb102, 1, none⟩ = some (.slice A0_1 l0_1.length c0_1) := (blk_cell BK102.out 1).trans rfl; have hfz34_0 := blk_frozen BK102.out 0; have hfz34_1 := blk_frozen BK102.out 1) | ((with_reducible refine gate_callee (f := 23) rfl ?_); refine goesL_ (some 51) rfl rfl Try.func23 (by kernel_rfl) rfl #[.agg #[.slice A0_0 l0_0.length c0_0, .slice A0_1 l0_1.length c0_1], .string a3] rfl (by (try simp only [sm]); first | done | rfl | (simp only [List.length_drop, List.length_take]; rfl)) ?_; (with_reducible refine (X.ref_Holds.calls k1 _ _ l0_0 _ _ l0_1 a3 t106 _ ?side1 ?side2 ?side3 ?side4 A20.out).mono ?_); (case side1 => repeat (first | exact (Kd.C_below HR0_0.out HB.out) | (with_reducible refine Kd.C_alloc ?_ _) | (with_reducible refine Kd.C_drewN ?_ _) | (with_reducible refine Kd.C_drew ?_))); (case side2 => exact HC0_0.out); (case side3 => repeat (first | exact (Kd.C_below HR0_1.out HB.out) | (with_reducible refine Kd.C_alloc ?_ _) | (with_reducible refine Kd.C_drewN ?_ _) | (with_reducible refine Kd.C_drew ?_))); (case side4 => exact HC0_1.out); rintro e w35 ⟨rfl, hb⟩; refine ⟨_, rfl, ?_⟩; have n0_ := As0.mk (blk_below (g := gb102) (o := .cells #[.slice A0_0 l0_0.length c0_0, .slice A0_1 l0_1.length c0_1] 24 (0, 0)) (by (with_reducible repeat (first | refine blk_drewN ?_ _ | refine blk_drew ?_ | refine blk_alloc ?_ _)); exact BK102.out) hb); have n1_ := As0.mk (bst (by repeat (first | (with_reducible first | exact HB.out | apply below_alloc | apply pwd | apply bd1 | refine below_set ?_ GE102.out) | exact HB.out)) hb); clear BK102; clear HB; have BK102 := n0_; have HB := n1_; clear n0_ n1_; (try clear hb); (try clear hb2); (try clear hk); (try clear hi)))
          go_ret2
          exact ⟨by first | rfl | (simp [errW_none, errW_some] <;> rfl) | (simp only [← hji22, ← hji28]; first | rfl | (simp [errW_none, errW_some] <;> rfl)) | (simp [*, errW_none, errW_some] <;> rfl), by repeat (first | (with_reducible first | exact HB.out | apply below_alloc | apply pwd | apply bd1 | refine below_set ?_ GE102.out) | exact HB.out)⟩
        ·rw [if_neg c27] at H
         exact absurd H (by simp)
      ·rw [if_neg c21] at H
       exact absurd H (by simp)
     ·rw [if_neg c19] at H
      have c19b0 : (t104 == (a3.size : Int)) = false := beq_eq_false_iff_ne.mpr c19
      have c19b1 : (t104 != (a3.size : Int)) = true := bne_iff_ne.mpr c19
      simp only [Option.some.injEq, Prod.mk.injEq] at H
      obtain ⟨rfl, rfl⟩ := H
      go_wp2_with (first | ((with_reducible refine gate_callee (f := 50) rfl ?_); refine goesL_ (some 42) rfl rfl Try.func50 (by kernel_rfl) rfl #[.string a3, .int .i64 0, .int .i64 0] rfl (by (try simp only [sm]); first | done | rfl | (simp only [List.length_drop, List.length_take]; rfl)) ?_; (with_reducible refine (PB.r8read.calls k1 a3 0 0 t104 t105 _ A18.out).mono ?_); rintro e w36 ⟨rfl, hb⟩; refine ⟨_, rfl, ?_⟩; have n0_ := As0.mk (blk_below (g := gb102) (o := .cells #[.slice A0_0 l0_0.length c0_0, .slice A0_1 l0_1.length c0_1] 24 (0, 0)) (by (with_reducible repeat (first | refine blk_drewN ?_ _ | refine blk_drew ?_ | refine blk_alloc ?_ _)); exact BK102.out) hb); have n1_ := As0.mk (bst (by repeat (first | (with_reducible first | exact HB.out | apply below_alloc | apply pwd | apply bd1 | refine below_set ?_ GE102.out) | exact HB.out)) hb); clear BK102; clear HB; have BK102 := n0_; have HB := n1_; clear n0_ n1_; (try clear hb); (try clear hb2); (try clear hk); (try clear hi)))
      go_ret2
      exact ⟨by first | rfl | (simp [errW_none, errW_some] <;> rfl) | (simp [*, errW_none, errW_some] <;> rfl), by repeat (first | (with_reducible first | exact HB.out | apply below_alloc | apply pwd | apply bd1 | refine below_set ?_ GE102.out) | exact HB.out)⟩
def r8Depth.l0 : Nat → Int → Int → Int → List Int → List Int → Option (Int)
  | 0, _, _, _, _, _ => none
  | k + 1, x1, x2, x7, x108000, x108001 => (PF.r8Level.f k x108000 x108001 x7).bind fun t108 => (if 0 ≤ x1 then (if x1 < (t108.length : Int) then (if 0 ≤ x2 then (if x2 < (t108.length : Int) then (if (rd t108 x1) = (rd t108 x2) then (r8Depth.l0 k x1 x2 (wrap64 (x7 + 1)) x108000 x108001) else (some x7)) else (none)) else (none)) else (none)) else (none))
def r8Depth.f (k : Nat) (l0_0 : List Int) (l0_1 : List Int) (a1 : Int) (a2 : Int) : Option (Int) := r8Depth.l0 k a1 a2 0 l0_0 l0_1
set_option maxHeartbeats 8000000 in
set_option maxRecDepth 100000 in
theorem r8Depth.calls (k : Nat) (A0_0 : Option Addr) (c0_0 : Nat) (l0_0 : List Int) (A0_1 : Option Addr) (c0_1 : Nat) (l0_1 : List Int) (a1 : Int) (a2 : Int) (r : Int) (w : World) (hr0_0 : Kd.C (Kd.int .i64) w A0_0 l0_0.length l0_0) (hc0_0 : l0_0.length ≤ c0_0) (hr0_1 : Kd.C (Kd.int .i64) w A0_1 l0_1.length l0_1) (hc0_1 : l0_1.length ≤ c0_1) (h : r8Depth.f k l0_0 l0_1 a1 a2 = some r) :
  Calls Try.prog 45 #[.agg #[.slice A0_0 l0_0.length c0_0, .slice A0_1 l0_1.length c0_1], .int .i64 a1, .int .i64 a2] w fun e w' => e = .returned (.int .i64 r) ∧ Below w.heap.size w w' := by
 have hu24 := Try.underlying24
 have HR0_0 := As0.mk hr0_0
 have HC0_0 := As0.mk hc0_0
 clear hr0_0 hc0_0
 have HR0_1 := As0.mk hr0_1
 have HC0_1 := As0.mk hc0_1
 clear hr0_1 hc0_1
 have HB := As0.mk (Below.refl w.heap.size w)
 have H : (r8Depth.l0 k a1 a2 0 l0_0 l0_1) = some r := h
 clear h
 have H' := As0.mk H
 clear H
 go_enter Try.func45, Try.ntmps45
 go_wp2_with (first | ((with_reducible refine gate_dst (N := 3) rfl ?_); refine box_event ?hg (N := 3) ?hd (cs := #[.slice A0_0 l0_0.length c0_0, .slice A0_1 l0_1.length c0_1]) (t := 24) ?hr ?_; (case hd => rfl); (case hg => rfl); (case hr => first | (go_simp; done) | (go_simp; rfl)); intro gb107 hg w4 hbox hb; have n0_ := As0.mk (bst (by repeat (first | (with_reducible first | exact HB.out | apply below_alloc | apply pwd | apply bd1) | exact HB.out)) hb); have n1_ := As0.mk (hbox); have n2_ := As0.mk ((by rw [hg]; exact (below_size (by repeat (first | (with_reducible first | exact HB.out | apply below_alloc | apply pwd | apply bd1) | exact HB.out))) : w.heap.size ≤ gb107)); have n3_ := As0.mk ((by rw [hg]; exact (below_size (by repeat (first | (with_reducible first | exact HB.out | apply below_alloc | apply pwd | apply bd1) | exact HB.out))) : w.heap.size ≤ gb107)); clear HB; have HB := n0_; have BK107 := n1_; have GW107 := n2_; have GE107 := n3_; clear n0_ n1_ n2_ n3_; clear hb hbox hg))
 repeat (go_quiet (first | ((with_reducible refine gate_dst (N := 3) rfl ?_); refine box_event ?hg (N := 3) ?hd (cs := #[.slice A0_0 l0_0.length c0_0, .slice A0_1 l0_1.length c0_1]) (t := 24) ?hr ?_; (case hd => rfl); (case hg => rfl); (case hr => first | (go_simp; done) | (go_simp; rfl)); intro gb107 hg w4 hbox hb; have n0_ := As0.mk (bst (by repeat (first | (with_reducible first | exact HB.out | apply below_alloc | apply pwd | apply bd1) | exact HB.out)) hb); have n1_ := As0.mk (hbox); have n2_ := As0.mk ((by rw [hg]; exact (below_size (by repeat (first | (with_reducible first | exact HB.out | apply below_alloc | apply pwd | apply bd1) | exact HB.out))) : w.heap.size ≤ gb107)); have n3_ := As0.mk ((by rw [hg]; exact (below_size (by repeat (first | (with_reducible first | exact HB.out | apply below_alloc | apply pwd | apply bd1) | exact HB.out))) : w.heap.size ≤ gb107)); clear HB; have HB := n0_; have BK107 := n1_; have GW107 := n2_; have GE107 := n3_; clear n0_ n1_ n2_ n3_; clear hb hbox hg)); try go_wp2_with (first | ((with_reducible refine gate_dst (N := 3) rfl ?_); refine box_event ?hg (N := 3) ?hd (cs := #[.slice A0_0 l0_0.length c0_0, .slice A0_1 l0_1.length c0_1]) (t := 24) ?hr ?_; (case hd => rfl); (case hg => rfl); (case hr => first | (go_simp; done) | (go_simp; rfl)); intro gb107 hg w4 hbox hb; have n0_ := As0.mk (bst (by repeat (first | (with_reducible first | exact HB.out | apply below_alloc | apply pwd | apply bd1) | exact HB.out)) hb); have n1_ := As0.mk (hbox); have n2_ := As0.mk ((by rw [hg]; exact (below_size (by repeat (first | (with_reducible first | exact HB.out | apply below_alloc | apply pwd | apply bd1) | exact HB.out))) : w.heap.size ≤ gb107)); have n3_ := As0.mk ((by rw [hg]; exact (below_size (by repeat (first | (with_reducible first | exact HB.out | apply below_alloc | apply pwd | apply bd1) | exact HB.out))) : w.heap.size ≤ gb107)); clear HB; have HB := n0_; have BK107 := n1_; have GW107 := n2_; have GE107 := n3_; clear n0_ n1_ n2_ n3_; clear hb hbox hg)))
 go_loopg [7] k (fun kq v7 w' => ∃ (x7_1 : Int), v7 = .int .i64 x7_1 ∧ As0 (r8Depth.l0 kq a1 a2 x7_1 l0_0 l0_1 = some r) ∧ As0 (kq ≤ k) ∧ As0 (w'.heap[gb107]? = some (.cells #[(.slice A0_0 l0_0.length c0_0), (.slice A0_1 l0_1.length c0_1)] 24 (0, 0))) ∧ As0 (Below w.heap.size w w'))
 case atStart => exact ⟨(0), (by first | rfl | (simp; done) | (simp [*]; done)), H', ⟨Nat.le_refl _⟩, ⟨by (with_reducible repeat (first | refine blk_drewN ?_ _ | refine blk_drew ?_ | refine blk_alloc ?_ _)); exact BK107.out⟩, ⟨by repeat (first | (with_reducible first | exact HB.out | apply below_alloc | apply pwd | apply bd1 | refine below_set ?_ GE107.out) | exact HB.out)⟩⟩
 case round =>
  clear H'
  try clear p2
  try clear c4
  obtain ⟨x7_1, rfl, HA, HK1, BK107, HB⟩ := hrel
  cases gk with
  | zero => exact absurd HA.out (by simp [r8Depth.l0])
  | succ k1 =>
   have H := HA.out
   clear HA
   simp only [r8Depth.l0] at H
   replace H := Option.bind_eq_some_iff.mp H
   obtain ⟨t108, A50, H⟩ := H
   replace H : (if 0 ≤ a1 then (if a1 < (t108.length : Int) then (if 0 ≤ a2 then (if a2 < (t108.length : Int) then (if (rd t108 a1) = (rd t108 a2) then (r8Depth.l0 k1 a1 a2 (wrap64 (x7_1 + 1)) l0_0 l0_1) else (some x7_1)) else (none)) else (none)) else (none)) else (none)) = some r := H
   have A5 := As0.mk A50
   clear A50
   by_cases c6 : 0 ≤ a1
   ·rw [if_pos c6] at H
    have c6b0 : decide (0 ≤ a1) = true := decide_eq_true c6
    clear c6
    by_cases c7 : a1 < (t108.length : Int)
    ·rw [if_pos c7] at H
     have c7b0 : decide (a1 < (t108.length : Int)) = true := decide_eq_true c7
     clear c7
     by_cases c8 : 0 ≤ a2
     ·rw [if_pos c8] at H
      have c8b0 : decide (0 ≤ a2) = true := decide_eq_true c8
      clear c8
      by_cases c9 : a2 < (t108.length : Int)
      ·rw [if_pos c9] at H
       have c9b0 : decide (a2 < (t108.length : Int)) = true := decide_eq_true c9
       clear c9
       by_cases c10 : (rd t108 a1) = (rd t108 a2)
       ·rw [if_pos c10] at H
        have c10b0 : ((rd t108 a1) == (rd t108 a2)) = true := beq_iff_eq.mpr c10
        have c10b1 : ((rd t108 a1) != (rd t108 a2)) = false := bne_eq_false_iff_eq.mpr c10
        clear c10
        have H' := As0.mk H
        clear H
        have hcz11_0 : wr.cell? ⟨gb107, 0, none⟩ = some (.slice A0_0 l0_0.length c0_0) := (blk_cell BK107.out 0).trans rfl
        have hcz11_1 : wr.cell? ⟨gb107, 1, none⟩ = some (.slice A0_1 l0_1.length c0_1) := (blk_cell BK107.out 1).trans rfl
        have hfz11_0 := blk_frozen BK107.out 0
        have hfz11_1 := blk_frozen BK107.out 1
        go_wp2_with (first | (go_at_call 65; (with_reducible refine (PF.r8Level.calls k1 _ _ l0_0 _ _ l0_1 x7_1 t108 _ ?side1 ?side2 ?side3 ?side4 A5.out).mono ?_); (case side1 => repeat (first | exact (Kd.C_below HR0_0.out HB.out) | (with_reducible refine Kd.C_alloc ?_ _) | (with_reducible refine Kd.C_drewN ?_ _) | (with_reducible refine Kd.C_drew ?_))); (case side2 => exact HC0_0.out); (case side3 => repeat (first | exact (Kd.C_below HR0_1.out HB.out) | (with_reducible refine Kd.C_alloc ?_ _) | (with_reducible refine Kd.C_drewN ?_ _) | (with_reducible refine Kd.C_drew ?_))); (case side4 => exact HC0_1.out); rintro e w12 ⟨v109, rfl, ho0, hb⟩; have n0_ := As0.mk (Kd.R_lower ho0 (below_size (by repeat (first | (with_reducible first | exact HB.out | apply below_alloc | apply pwd | apply bd1 | refine below_set ?_ GE107.out) | exact HB.out)))); have n1_ := As0.mk (blk_below (g := gb107) (o := .cells #[.slice A0_0 l0_0.length c0_0, .slice A0_1 l0_1.length c0_1] 24 (0, 0)) (by (with_reducible repeat (first | refine blk_drewN ?_ _ | refine blk_drew ?_ | refine blk_alloc ?_ _)); exact BK107.out) hb); have n2_ := As0.mk (bst (by repeat (first | (with_reducible first | exact HB.out | apply below_alloc | apply pwd | apply bd1 | refine below_set ?_ GE107.out) | exact HB.out)) hb); clear BK107; clear HB; have HO110 := n0_; have BK107 := n1_; have HB := n2_; clear n0_ n1_ n2_; (try clear hb); (try clear hb2); (try clear hk); (try clear hi); (try clear ho0); obtain ⟨Ao13, co13, eo13⟩ := Kd.R_slice HO110.out; subst eo13; have p111 : 0 ≤ (a1 : Int) := of_decide_eq_true (by first | (with_reducible assumption) | assumption); have q111 : a1 < (t108.length : Int) := of_decide_eq_true (by first | (with_reducible assumption) | assumption); obtain ⟨ad111, e111, hx111_0⟩ := Kd.at_int (Kd.R_reads' HO110.out).2.2 a1 p111 q111; cases e111; replace p111 := eq_true p111; replace q111 := eq_true q111; have p112 : 0 ≤ (a2 : Int) := of_decide_eq_true (by first | (with_reducible assumption) | assumption); have q112 : a2 < (t108.length : Int) := of_decide_eq_true (by first | (with_reducible assumption) | assumption); obtain ⟨ad112, e112, hx112_0⟩ := Kd.at_int (Kd.R_reads' HO110.out).2.2 a2 p112 q112; obtain rfl : ad111 = ad112 := (by injection e112); replace p112 := eq_true p112; replace q112 := eq_true q112))
        repeat (go_quiet (first | (go_at_call 65; (with_reducible refine (PF.r8Level.calls k1 _ _ l0_0 _ _ l0_1 x7_1 t108 _ ?side1 ?side2 ?side3 ?side4 A5.out).mono ?_); (case side1 => repeat (first | exact (Kd.C_below HR0_0.out HB.out) | (with_reducible refine Kd.C_alloc ?_ _) | (with_reducible refine Kd.C_drewN ?_ _) | (with_reducible refine Kd.C_drew ?_))); (case side2 => exact HC0_0.out); (case side3 => repeat (first | exact (Kd.C_below HR0_1.out HB.out) | (with_reducible refine Kd.C_alloc ?_ _) | (with_reducible refine Kd.C_drewN ?_ _) | (with_reducible refine Kd.C_drew ?_))); (case side4 => exact HC0_1.out); rintro e w12 ⟨v109, rfl, ho0, hb⟩; have n0_ := As0.mk (Kd.R_lower ho0 (below_size (by repeat (first | (with_reducible first | exact HB.out | apply below_alloc | apply pwd | apply bd1 | refine below_set ?_ GE107.out) | exact HB.out)))); have n1_ := As0.mk (blk_below (g := gb107) (o := .cells #[.slice A0_0 l0_0.length c0_0, .slice A0_1 l0_1.length c0_1] 24 (0, 0)) (by (with_reducible repeat (first | refine blk_drewN ?_ _ | refine blk_drew ?_ | refine blk_alloc ?_ _)); exact BK107.out) hb); have n2_ := As0.mk (bst (by repeat (first | (with_reducible first | exact HB.out | apply below_alloc | apply pwd | apply bd1 | refine below_set ?_ GE107.out) | exact HB.out)) hb); clear BK107; clear HB; have HO110 := n0_; have BK107 := n1_; have HB := n2_; clear n0_ n1_ n2_; (try clear hb); (try clear hb2); (try clear hk); (try clear hi); (try clear ho0); obtain ⟨Ao13, co13, eo13⟩ := Kd.R_slice HO110.out; subst eo13; have p111 : 0 ≤ (a1 : Int) := of_decide_eq_true (by first | (with_reducible assumption) | assumption); have q111 : a1 < (t108.length : Int) := of_decide_eq_true (by first | (with_reducible assumption) | assumption); obtain ⟨ad111, e111, hx111_0⟩ := Kd.at_int (Kd.R_reads' HO110.out).2.2 a1 p111 q111; cases e111; replace p111 := eq_true p111; replace q111 := eq_true q111; have p112 : 0 ≤ (a2 : Int) := of_decide_eq_true (by first | (with_reducible assumption) | assumption); have q112 : a2 < (t108.length : Int) := of_decide_eq_true (by first | (with_reducible assumption) | assumption); obtain ⟨ad112, e112, hx112_0⟩ := Kd.at_int (Kd.R_reads' HO110.out).2.2 a2 p112 q112; obtain rfl : ad111 = ad112 := (by injection e112); replace p112 := eq_true p112; replace q112 := eq_true q112)); try go_wp2_with (first | (go_at_call 65; (with_reducible refine (PF.r8Level.calls k1 _ _ l0_0 _ _ l0_1 x7_1 t108 _ ?side1 ?side2 ?side3 ?side4 A5.out).mono ?_); (case side1 => repeat (first | exact (Kd.C_below HR0_0.out HB.out) | (with_reducible refine Kd.C_alloc ?_ _) | (with_reducible refine Kd.C_drewN ?_ _) | (with_reducible refine Kd.C_drew ?_))); (case side2 => exact HC0_0.out); (case side3 => repeat (first | exact (Kd.C_below HR0_1.out HB.out) | (with_reducible refine Kd.C_alloc ?_ _) | (with_reducible refine Kd.C_drewN ?_ _) | (with_reducible refine Kd.C_drew ?_))); (case side4 => exact HC0_1.out); rintro e w12 ⟨v109, rfl, ho0, hb⟩; have n0_ := As0.mk (Kd.R_lower ho0 (below_size (by repeat (first | (with_reducible first | exact HB.out | apply below_alloc | apply pwd | apply bd1 | refine below_set ?_ GE107.out) | exact HB.out)))); have n1_ := As0.mk (blk_below (g := gb107) (o := .cells #[.slice A0_0 l0_0.length c0_0, .slice A0_1 l0_1.length c0_1] 24 (0, 0)) (by (with_reducible repeat (first | refine blk_drewN ?_ _ | refine blk_drew ?_ | refine blk_alloc ?_ _)); exact BK107.out) hb); have n2_ := As0.mk (bst (by repeat (first | (with_reducible first | exact HB.out | apply below_alloc | apply pwd | apply bd1 | refine below_set ?_ GE107.out) | exact HB.out)) hb); clear BK107; clear HB; have HO110 := n0_; have BK107 := n1_; have HB := n2_; clear n0_ n1_ n2_; (try clear hb); (try clear hb2); (try clear hk); (try clear hi); (try clear ho0); obtain ⟨Ao13, co13, eo13⟩ := Kd.R_slice HO110.out; subst eo13; have p111 : 0 ≤ (a1 : Int) := of_decide_eq_true (by first | (with_reducible assumption) | assumption); have q111 : a1 < (t108.length : Int) := of_decide_eq_true (by first | (with_reducible assumption) | assumption); obtain ⟨ad111, e111, hx111_0⟩ := Kd.at_int (Kd.R_reads' HO110.out).2.2 a1 p111 q111; cases e111; replace p111 := eq_true p111; replace q111 := eq_true q111; have p112 : 0 ≤ (a2 : Int) := of_decide_eq_true (by first | (with_reducible assumption) | assumption); have q112 : a2 < (t108.length : Int) := of_decide_eq_true (by first | (with_reducible assumption) | assumption); obtain ⟨ad112, e112, hx112_0⟩ := Kd.at_int (Kd.R_reads' HO110.out).2.2 a2 p112 q112; obtain rfl : ad111 = ad112 := (by injection e112); replace p112 := eq_true p112; replace q112 := eq_true q112)))
        go_roundg k1
        case measure => have := HK1.out; omega
        case rel => exact ⟨(wrap64 (x7_1 + 1)), (by first | rfl | (simp; done) | (simp [*]; done)), H', ⟨by have := HK1.out; omega⟩, ⟨by (with_reducible repeat (first | refine blk_drewN ?_ _ | refine blk_drew ?_ | refine blk_alloc ?_ _)); exact BK107.out⟩, ⟨by repeat (first | (with_reducible first | exact HB.out | apply below_alloc | apply pwd | apply bd1 | refine below_set ?_ GE107.out) | exact HB.out)⟩⟩
       ·rw [if_neg c10] at H
        have c10b0 : ((rd t108 a1) == (rd t108 a2)) = false := beq_eq_false_iff_ne.mpr c10
        have c10b1 : ((rd t108 a1) != (rd t108 a2)) = true := bne_iff_ne.mpr c10
        obtain rfl := Option.some.inj H
        have hcz14_0 : wr.cell? ⟨gb107, 0, none⟩ = some (.slice A0_0 l0_0.length c0_0) := (blk_cell BK107.out 0).trans rfl
        have hcz14_1 : wr.cell? ⟨gb107, 1, none⟩ = some (.slice A0_1 l0_1.length c0_1) := (blk_cell BK107.out 1).trans rfl
        have hfz14_0 := blk_frozen BK107.out 0
        have hfz14_1 := blk_frozen BK107.out 1
        go_wp2_with (first | (go_at_call 65; (with_reducible refine (PF.r8Level.calls k1 _ _ l0_0 _ _ l0_1 x7_1 t108 _ ?side1 ?side2 ?side3 ?side4 A5.out).mono ?_); (case side1 => repeat (first | exact (Kd.C_below HR0_0.out HB.out) | (with_reducible refine Kd.C_alloc ?_ _) | (with_reducible refine Kd.C_drewN ?_ _) | (with_reducible refine Kd.C_drew ?_))); (case side2 => exact HC0_0.out); (case side3 => repeat (first | exact (Kd.C_below HR0_1.out HB.out) | (with_reducible refine Kd.C_alloc ?_ _) | (with_reducible refine Kd.C_drewN ?_ _) | (with_reducible refine Kd.C_drew ?_))); (case side4 => exact HC0_1.out); rintro e w15 ⟨v109, rfl, ho0, hb⟩; have n0_ := As0.mk (Kd.R_lower ho0 (below_size (by repeat (first | (with_reducible first | exact HB.out | apply below_alloc | apply pwd | apply bd1 | refine below_set ?_ GE107.out) | exact HB.out)))); have n1_ := As0.mk (blk_below (g := gb107) (o := .cells #[.slice A0_0 l0_0.length c0_0, .slice A0_1 l0_1.length c0_1] 24 (0, 0)) (by (with_reducible repeat (first | refine blk_drewN ?_ _ | refine blk_drew ?_ | refine blk_alloc ?_ _)); exact BK107.out) hb); have n2_ := As0.mk (bst (by repeat (first | (with_reducible first | exact HB.out | apply below_alloc | apply pwd | apply bd1 | refine below_set ?_ GE107.out) | exact HB.out)) hb); clear BK107; clear HB; have HO110 := n0_; have BK107 := n1_; have HB := n2_; clear n0_ n1_ n2_; (try clear hb); (try clear hb2); (try clear hk); (try clear hi); (try clear ho0); obtain ⟨Ao16, co16, eo16⟩ := Kd.R_slice HO110.out; subst eo16; have p111 : 0 ≤ (a1 : Int) := of_decide_eq_true (by first | (with_reducible assumption) | assumption); have q111 : a1 < (t108.length : Int) := of_decide_eq_true (by first | (with_reducible assumption) | assumption); obtain ⟨ad111, e111, hx111_0⟩ := Kd.at_int (Kd.R_reads' HO110.out).2.2 a1 p111 q111; cases e111; replace p111 := eq_true p111; replace q111 := eq_true q111; have p112 : 0 ≤ (a2 : Int) := of_decide_eq_true (by first | (with_reducible assumption) | assumption); have q112 : a2 < (t108.length : Int) := of_decide_eq_true (by first | (with_reducible assumption) | assumption); obtain ⟨ad112, e112, hx112_0⟩ := Kd.at_int (Kd.R_reads' HO110.out).2.2 a2 p112 q112; obtain rfl : ad111 = ad112 := (by injection e112); replace p112 := eq_true p112; replace q112 := eq_true q112))
        repeat (go_quiet (first | (go_at_call 65; (with_reducible refine (PF.r8Level.calls k1 _ _ l0_0 _ _ l0_1 x7_1 t108 _ ?side1 ?side2 ?side3 ?side4 A5.out).mono ?_); (case side1 => repeat (first | exact (Kd.C_below HR0_0.out HB.out) | (with_reducible refine Kd.C_alloc ?_ _) | (with_reducible refine Kd.C_drewN ?_ _) | (with_reducible refine Kd.C_drew ?_))); (case side2 => exact HC0_0.out); (case side3 => repeat (first | exact (Kd.C_below HR0_1.out HB.out) | (with_reducible refine Kd.C_alloc ?_ _) | (with_reducible refine Kd.C_drewN ?_ _) | (with_reducible refine Kd.C_drew ?_))); (case side4 => exact HC0_1.out); rintro e w15 ⟨v109, rfl, ho0, hb⟩; have n0_ := As0.mk (Kd.R_lower ho0 (below_size (by repeat (first | (with_reducible first | exact HB.out | apply below_alloc | apply pwd | apply bd1 | refine below_set ?_ GE107.out) | exact HB.out)))); have n1_ := As0.mk (blk_below (g := gb107) (o := .cells #[.slice A0_0 l0_0.length c0_0, .slice A0_1 l0_1.length c0_1] 24 (0, 0)) (by (with_reducible repeat (first | refine blk_drewN ?_ _ | refine blk_drew ?_ | refine blk_alloc ?_ _)); exact BK107.out) hb); have n2_ := As0.mk (bst (by repeat (first | (with_reducible first | exact HB.out | apply below_alloc | apply pwd | apply bd1 | refine below_set ?_ GE107.out) | exact HB.out)) hb); clear BK107; clear HB; have HO110 := n0_; have BK107 := n1_; have HB := n2_; clear n0_ n1_ n2_; (try clear hb); (try clear hb2); (try clear hk); (try clear hi); (try clear ho0); obtain ⟨Ao16, co16, eo16⟩ := Kd.R_slice HO110.out; subst eo16; have p111 : 0 ≤ (a1 : Int) := of_decide_eq_true (by first | (with_reducible assumption) | assumption); have q111 : a1 < (t108.length : Int) := of_decide_eq_true (by first | (with_reducible assumption) | assumption); obtain ⟨ad111, e111, hx111_0⟩ := Kd.at_int (Kd.R_reads' HO110.out).2.2 a1 p111 q111; cases e111; replace p111 := eq_true p111; replace q111 := eq_true q111; have p112 : 0 ≤ (a2 : Int) := of_decide_eq_true (by first | (with_reducible assumption) | assumption); have q112 : a2 < (t108.length : Int) := of_decide_eq_true (by first | (with_reducible assumption) | assumption); obtain ⟨ad112, e112, hx112_0⟩ := Kd.at_int (Kd.R_reads' HO110.out).2.2 a2 p112 q112; obtain rfl : ad111 = ad112 := (by injection e112); replace p112 := eq_true p112; replace q112 := eq_true q112)); try go_wp2_with (first | (go_at_call 65; (with_reducible refine (PF.r8Level.calls k1 _ _ l0_0 _ _ l0_1 x7_1 t108 _ ?side1 ?side2 ?side3 ?side4 A5.out).mono ?_); (case side1 => repeat (first | exact (Kd.C_below HR0_0.out HB.out) | (with_reducible refine Kd.C_alloc ?_ _) | (with_reducible refine Kd.C_drewN ?_ _) | (with_reducible refine Kd.C_drew ?_))); (case side2 => exact HC0_0.out); (case side3 => repeat (first | exact (Kd.C_below HR0_1.out HB.out) | (with_reducible refine Kd.C_alloc ?_ _) | (with_reducible refine Kd.C_drewN ?_ _) | (with_reducible refine Kd.C_drew ?_))); (case side4 => exact HC0_1.out); rintro e w15 ⟨v109, rfl, ho0, hb⟩; have n0_ := As0.mk (Kd.R_lower ho0 (below_size (by repeat (first | (with_reducible first | exact HB.out | apply below_alloc | apply pwd | apply bd1 | refine below_set ?_ GE107.out) | exact HB.out)))); have n1_ := As0.mk (blk_below (g := gb107) (o := .cells #[.slice A0_0 l0_0.length c0_0, .slice A0_1 l0_1.length c0_1] 24 (0, 0)) (by (with_reducible repeat (first | refine blk_drewN ?_ _ | refine blk_drew ?_ | refine blk_alloc ?_ _)); exact BK107.out) hb); have n2_ := As0.mk (bst (by repeat (first | (with_reducible first | exact HB.out | apply below_alloc | apply pwd | apply bd1 | refine below_set ?_ GE107.out) | exact HB.out)) hb); clear BK107; clear HB; have HO110 := n0_; have BK107 := n1_; have HB := n2_; clear n0_ n1_ n2_; (try clear hb); (try clear hb2); (try clear hk); (try clear hi); (try clear ho0); obtain ⟨Ao16, co16, eo16⟩ := Kd.R_slice HO110.out; subst eo16; have p111 : 0 ≤ (a1 : Int) := of_decide_eq_true (by first | (with_reducible assumption) | assumption); have q111 : a1 < (t108.length : Int) := of_decide_eq_true (by first | (with_reducible assumption) | assumption); obtain ⟨ad111, e111, hx111_0⟩ := Kd.at_int (Kd.R_reads' HO110.out).2.2 a1 p111 q111; cases e111; replace p111 := eq_true p111; replace q111 := eq_true q111; have p112 : 0 ≤ (a2 : Int) := of_decide_eq_true (by first | (with_reducible assumption) | assumption); have q112 : a2 < (t108.length : Int) := of_decide_eq_true (by first | (with_reducible assumption) | assumption); obtain ⟨ad112, e112, hx112_0⟩ := Kd.at_int (Kd.R_reads' HO110.out).2.2 a2 p112 q112; obtain rfl : ad111 = ad112 := (by injection e112); replace p112 := eq_true p112; replace q112 := eq_true q112)))
        go_ret
        exact ⟨by first | rfl | (simp [errW_none, errW_some] <;> rfl) | (simp [*, errW_none, errW_some] <;> rfl), by repeat (first | (with_reducible first | exact HB.out | apply below_alloc | apply pwd | apply bd1 | refine below_set ?_ GE107.out) | exact HB.out)⟩
      ·rw [if_neg c9] at H
       exact absurd H (by simp)
     ·rw [if_neg c8] at H
      exact absurd H (by simp)
    ·rw [if_neg c7] at H
     exact absurd H (by simp)
   ·rw [if_neg c6] at H
    exact absurd H (by simp)
end Go.Proofs.Ytjffhhalmicodaa.PH
end

section
set_option linter.unusedVariables false
set_option linter.unusedSimpArgs false
namespace Go.Proofs.Ytjffhhalmicodaa.L
open Go.RowKit Go.Proofs.G.PrintWords Go.Proofs.G.PrintLast Go.Proofs.G.PrintMore Go.Proofs.Ytjffhhalmicodaa.X Go.Proofs.Ytjffhhalmicodaa.PH
theorem parse_back : ∀ f b n l, WF f → Sc b f → (str f).length < n → parse n (str f ++ l) b = some (f, l) := by
 intro f
 induction f with
 | mark neg j =>
  intro b n l hw hs hn
  have hj : j ≤ 3 := hw
  have hm : isMk (48 + j) = true := isMk_iff.2 (by omega)
  cases neg with
  | true =>
   obtain ⟨n, rfl⟩ : ∃ m, n = m + 1 := ⟨n - 1, by omega⟩
   show parse (n + 1) (45 :: (48 + j) :: l) b = _
   rw [parse_cons, if_neg (by decide), if_pos rfl, parseDash, if_pos hm, Nat.add_sub_cancel_left]
  | false =>
   obtain ⟨n, rfl⟩ : ∃ m, n = m + 1 := ⟨n - 1, by omega⟩
   show parse (n + 1) ((48 + j) :: l) b = _
   rw [parse_cons, if_pos hm, Nat.add_sub_cancel_left]
 | con c =>
  intro b n l hw hs hn
  have hc : c = 116 ∨ c = 102 := hw
  obtain ⟨n, rfl⟩ : ∃ m, n = m + 1 := ⟨n - 1, by omega⟩
  show parse (n + 1) (c :: l) b = _
  rw [parse_cons, if_neg (by rw [isMk_iff]; omega), if_neg (by omega), if_pos hc]
 | var c =>
  intro b n l hw hs hn
  have hc : 120 ≤ c ∧ c ≤ 122 := hw
  obtain ⟨n, rfl⟩ : ∃ m, n = m + 1 := ⟨n - 1, by omega⟩
  show parse (n + 1) (c :: l) b = _
  rw [parse_cons, if_neg (by rw [isMk_iff]; omega), if_neg (by omega), if_neg (by omega), if_pos (isLt_iff.2 hc), if_pos (show c ∈ b from hs)]
 | two c p q ihp ihq =>
  intro b n l hw hs hn
  have hc : c = 38 ∨ c = 124 := hw.1
  simp only [str, List.length_cons, List.length_append] at hn
  obtain ⟨n, rfl⟩ : ∃ m, n = m + 1 := ⟨n - 1, by omega⟩
  show parse (n + 1) (c :: ((str p ++ str q) ++ l)) b = _
  rw [parse_cons, if_neg (by rw [isMk_iff]; omega), if_neg (by omega), if_neg (by omega), if_neg (by rw [isLt_iff]; omega), if_neg (by omega), if_pos hc, List.append_assoc, ihp b n _ hw.2.1 hs.1 (by omega)]
  simp only [Option.bind_some]
  rw [ihq b n _ hw.2.2 hs.2 (by omega)]
  rfl
 | one c p ihp =>
  intro b n l hw hs hn
  have hc : c = 60 ∨ c = 91 := hw.1
  simp only [str, List.length_cons] at hn
  obtain ⟨n, rfl⟩ : ∃ m, n = m + 1 := ⟨n - 1, by omega⟩
  show parse (n + 1) (c :: (str p ++ l)) b = _
  rw [parse_cons, if_neg (by rw [isMk_iff]; omega), if_neg (by omega), if_neg (by omega), if_neg (by rw [isLt_iff]; omega), if_neg (by omega), if_neg (by omega), if_pos hc, ihp b n _ hw.2 hs (by omega)]
  rfl
 | fix c x p ihp =>
  intro b n l hw hs hn
  have hc : c = 109 ∨ c = 103 := hw.1
  simp only [str, List.length_cons] at hn
  obtain ⟨n, rfl⟩ : ∃ m, n = m + 1 := ⟨n - 1, by omega⟩
  show parse (n + 1) (c :: (x :: (str p ++ l))) b = _
  rw [parse_cons, if_neg (by rw [isMk_iff]; omega), if_neg (by omega), if_neg (by omega), if_neg (by rw [isLt_iff]; omega), if_pos hc, parseFix, if_pos ⟨isLt_iff.2 hw.2.1, hs.1⟩, ihp (b ++ [x]) n _ hw.2.2 hs.2 (by omega)]
  rfl
theorem whole_back {f : Fm} (hw : WF f) (hs : Sc [] f) : whole (str f) = some f := by
  unfold whole
  have h := parse_back f [] ((str f).length + 1) [] hw hs (by omega)
  rw [List.append_nil] at h
  rw [h]
  rfl
def Lt3 (c : Nat) : Prop := (120 ≤ c ∧ c ≤ 122) ∨ c = 109 ∨ c = 103
theorem dep_all : ∀ f, WF f → (depF f = some (dep f) ∧ ∀ c, c ∈ str f → ¬ Lt3 c) ∨ (depF f = none ∧ ∃ c, c ∈ str f ∧ Lt3 c) := by
 intro f
 induction f with
 | mark neg k =>
  intro hw
  have hk : k ≤ 3 := hw
  refine .inl ⟨rfl, fun c hc => ?_⟩
  unfold Lt3
  cases neg <;> simp [str] at hc <;> omega
 | con c =>
  intro hw
  have hk : c = 116 ∨ c = 102 := hw
  refine .inl ⟨rfl, fun c hc => ?_⟩
  unfold Lt3
  simp [str] at hc
  omega
 | var c =>
  intro hw
  exact .inr ⟨rfl, c, by simp [str], .inl hw⟩
 | fix c x a _ =>
  intro hw
  exact .inr ⟨rfl, c, by simp [str], by have := hw.1; unfold Lt3; omega⟩
 | two c a b iha ihb =>
  intro hw
  rcases iha hw.2.1 with ⟨a1, a2⟩ | ⟨a1, d, a2, a3⟩
  ·rcases ihb hw.2.2 with ⟨b1, b2⟩ | ⟨b1, d, b2, b3⟩
   ·refine .inl ⟨by rw [depF, a1, b1]; rfl, fun d hd => ?_⟩
    simp only [str, List.mem_cons, List.mem_append] at hd
    rcases hd with rfl | hd | hd
    ·have := hw.1
     unfold Lt3
     omega
    ·exact a2 d hd
    ·exact b2 d hd
   ·refine .inr ⟨by rw [depF, a1, b1]; rfl, d, ?_, b3⟩
    simp [str, b2]
  ·refine .inr ⟨by rw [depF, a1]; rfl, d, ?_, a3⟩
   simp [str, a2]
 | one c a iha =>
  intro hw
  rcases iha hw.2 with ⟨a1, a2⟩ | ⟨a1, d, a2, a3⟩
  ·refine .inl ⟨by rw [depF, a1, Option.map_some, if_pos hw.1]; rfl, fun d hd => ?_⟩
   simp only [str, List.mem_cons] at hd
   rcases hd with rfl | hd
   ·have := hw.1
    unfold Lt3
    omega
   ·exact a2 d hd
  ·refine .inr ⟨by rw [depF, a1]; rfl, d, ?_, a3⟩
   simp [str, a2]
theorem sc_of : ∀ f m b, depF f = some m → Sc b f := by
 intro f
 induction f with
 | mark neg k => intros; trivial
 | con c => intros; trivial
 | var c => intro m b h; simp [depF] at h
 | fix c x a _ => intro m b h; simp [depF] at h
 | two c a b iha ihb =>
  intro m l hm
  rw [depF] at hm
  obtain ⟨x, hx, hm⟩ := Option.bind_eq_some_iff.mp hm
  obtain ⟨y, hy, hm⟩ := Option.bind_eq_some_iff.mp hm
  exact ⟨iha x l hx, ihb y l hy⟩
 | one c a iha =>
  intro m l hm
  rw [depF, Option.map_eq_some_iff] at hm
  obtain ⟨x, hx, hm⟩ := hm
  exact (show Sc l a from iha x l hx)
def toldV (nx mk : List Int) (s t : Nat) (a : ByteArray) : Int × Bool := if a.size ≤ 4000 then (match whole (cs a) with
  | none => (0, false)
  | some f => match depF f with
    | none => (0, false)
    | some d => if tb (V nx mk f (0, 0, 0)) s = false then (0, false) else if tb (V nx mk f (0, 0, 0)) t = true then (0, false) else ((d : Int), true)) else (0, false)
theorem toldV_bad {nx mk : List Int} {s t : Nat} {a : ByteArray} {c : Nat} (h : c ∈ cs a) (hc : Lt3 c) : toldV nx mk s t a = (0, false) := by
 unfold toldV
 split
 ·cases hw : whole (cs a) with
  | none => rfl
  | some f =>
   obtain ⟨h1, h2⟩ := whole_str hw
   rcases dep_all f h2 with ⟨_, g⟩ | ⟨g, _⟩
   ·rw [h1] at h
    exact absurd hc (g c h)
   ·simp only [g]
 ·rfl
theorem told_end {nx mk : List Int} (hv : VW nx mk) {s t : Nat} (hs : s < nx.length) (ht : t < nx.length) {a : ByteArray} (ha : a.size ≤ 4000) (hb : ∀ c, c ∈ cs a → ¬ Lt3 c) :
    Evr (fun k => (PB.r8read.f k a 0 0).bind fun bt104 => (if bt104.1 = (a.size : Int) then ((ref_Holds.f k nx mk a).bind fun t106 => (if 0 ≤ (s : Int) then (if (Go.bits .and .i64 (shr .i64 t106 (s : Int)) 1) = 0 then (some (0, false)) else (if 0 ≤ (t : Int) then (if (Go.bits .and .i64 (shr .i64 t106 (t : Int)) 1) = 1 then (some (0, false)) else (some (bt104.2, true))) else (none))) else (none))) else (some (0, false)))) (toldV nx mk s t a) := by
  have h6 := hv.le
  obtain ⟨k, e, d, g1, _, _, g4⟩ := L.read_all a (by omega) ((cs a).length + 1) 0 0 [] (cs a) rfl (Nat.zero_le _) (by omega) ⟨inS_zero 3, fun c _ _ => by simp [tb_zero]⟩
  have hread : Evr (fun k => PB.r8read.f k a 0 0) (e, d) := Evr.of_mono (fun k => read_mono k a 0 0) ⟨k, g1⟩
  refine Evr.bind (f := fun bt104 k => _) hread ?_
  unfold toldV
  rw [if_pos ha]
  have hwh : whole (cs a) = (parse ((cs a).length + 1) (cs a) []).bind fun p => if p.2 = [] then some p.1 else none := rfl
  cases hp : parse ((cs a).length + 1) (cs a) [] with
  | none =>
    rw [hp] at g4 hwh
    obtain rfl : e = -1 := g4
    rw [hwh]
    refine Evr.of_all fun k => ?_
    rw [if_neg (by show ¬ (-1 : Int) = _; omega)]
    rfl
  | some p =>
    obtain ⟨f, r⟩ := p
    rw [hp] at g4 hwh
    obtain ⟨q1, q2⟩ := (g4 : e = (a.size : Int) - r.length ∧ d = dep f)
    subst q2
    cases r with
    | cons x r =>
      rw [show whole (cs a) = none by rw [hwh]; rfl]
      refine Evr.of_all fun k => ?_
      rw [if_neg (by simp only [q1, List.length_cons]; omega)]
    | nil =>
      have hw : whole (cs a) = some f := by rw [hwh]; rfl
      obtain ⟨w1, w2⟩ := whole_str hw
      obtain ⟨k1, m1, r1, _⟩ := both_holds hv hw
      have hr : Evr (fun k => ref_Holds.f k nx mk a) (V nx mk f (0, 0, 0)) := Evr.of_mono (fun k => ref_Holds.mono nx mk a k) ⟨k1, by unfold ref_Holds.f; rw [if_pos (by omega), hw]; exact r1⟩
      have hdep : depF f = some (dep f) := by
        rcases dep_all f w2 with ⟨g, _⟩ | ⟨_, c, g, g'⟩
        · exact g
        · rw [← w1] at g
          exact absurd g' (hb c g)
      have iV := (V_spec hv f w2).1 _ (inE_zero nx.length)
      rw [hw]
      simp only [hdep]
      have hcnd : e = (a.size : Int) := by simp only [q1, List.length_nil]; omega
      simp only [if_pos hcnd]
      refine Evr.bind (f := fun t106 k => _) hr (Evr.of_all fun k => ?_)
      have e1 := bit_of (n := nx.length) (by omega) iV (show s ≤ 64 by omega)
      have e2 := bit_of (n := nx.length) (by omega) iV (show t ≤ 64 by omega)
      simp only [e1, e2, if_pos (show (0 : Int) ≤ (s : Int) by omega), if_pos (show (0 : Int) ≤ (t : Int) by omega)]
      cases tb (V nx mk f (0, 0, 0)) s <;> cases tb (V nx mk f (0, 0, 0)) t <;> rfl
theorem Told_ev {nx mk : List Int} (hv : VW nx mk) {s t : Nat} (hs : s < nx.length) (ht : t < nx.length) (a : ByteArray) : Evr (fun k => r8Told.f k nx mk (s : Int) (t : Int) a) (toldV nx mk s t a) := by
 by_cases ha : a.size ≤ 4000
 ·have loop : ∀ d i : Nat, i + d = a.size → (∀ j c, j < i → (cs a)[j]? = some c → ¬ Lt3 c) → Evr (fun k => r8Told.l0 k (s : Int) (t : Int) a (a.size : Int) (i : Int) nx mk) (toldV nx mk s t a) := by
   intro d
   induction d with
   | zero =>
    intro i hi hno
    refine Evr.step (fun k => ?_) (told_end hv hs ht ha fun c hc => ?_)
    ·rw [r8Told.l0, if_neg (by omega)]
    ·obtain ⟨j, hj⟩ := List.mem_iff_getElem?.1 hc
     have : j < (cs a).length := by
      obtain ⟨q, _⟩ := List.getElem?_eq_some_iff.1 hj
      exact q
     rw [cs_length] at this
     exact hno j c (by omega) hj
   | succ d ih =>
    intro i hi hno
    have hlt : i < (cs a).length := by rw [cs_length]; omega
    have hdrop : (cs a).drop i = (cs a)[i] :: (cs a).drop (i + 1) := List.drop_eq_getElem_cons hlt
    obtain ⟨h1, h2, _, _, h5⟩ := drop_bt hdrop
    have hmem : (cs a)[i] ∈ cs a := List.getElem_mem hlt
    generalize hc : (cs a)[i] = c at *
    by_cases hl : isLt c = true
    ·have hb : Lt3 c := .inl (isLt_iff.1 hl)
     rw [toldV_bad hmem hb]
     refine Evr.step (h := fun _ => some (0, false)) (fun k => ?_) (Evr.const _)
     rw [r8Told.l0, if_pos (by omega), if_pos (by omega), if_pos (by omega), h2, letter_in hl]
     simp only [Option.bind_some]
     rw [if_pos (by omega)]
    ·have hl' : isLt c = false := by simpa using hl
     by_cases hg : c = 109 ∨ c = 103
     ·have hb : Lt3 c := .inr hg
      rw [toldV_bad hmem hb]
      refine Evr.step (h := fun _ => some (0, false)) (fun k => ?_) (Evr.const _)
      rw [r8Told.l0, if_pos (by omega), if_pos (by omega), if_pos (by omega), h2, letter_out hl']
      simp only [Option.bind_some]
      rw [if_neg (by omega)]
      rcases hg with rfl | rfl
      ·rw [if_pos (by omega)]
      ·rw [if_neg (by omega), if_pos (by omega)]
     ·refine Evr.step (fun k => ?_) (ih (i + 1) (by omega) fun j x hj hx => ?_)
      ·rw [r8Told.l0, if_pos (by omega), if_pos (by omega), if_pos (by omega), h2, letter_out hl']
       simp only [Option.bind_some]
       rw [if_neg (by omega), if_neg (by omega), if_neg (by omega), wsucc (by omega)]
      ·by_cases q : j = i
       ·subst q
        rw [List.getElem?_eq_getElem hlt, hc] at hx
        obtain rfl : c = x := by simpa using hx
        rintro (h | h)
        ·exact hl (isLt_iff.2 h)
        ·exact hg h
       ·exact hno j x (by omega) hx
  unfold r8Told.f
  refine Evr.congr (fun k => if_neg (by omega)) (loop a.size 0 (by omega) (fun j c hj _ => by omega))
 ·refine Evr.of_all fun k => ?_
  unfold r8Told.f toldV
  rw [if_pos (by omega), if_neg ha]
theorem bit_div {x : Int} {n : Nat} (hn : n ≤ 61) (h : InS n x) {t : Nat} (ht : t ≤ 64) : bits .and .i64 (x / 2 ^ t) 1 = if tb x t = true then 1 else 0 := by
  rw [← shr_at x ht]
  exact bit_of hn h ht
theorem Check_ev {nx mk : List Int} (hv : VW nx mk) {s t : Nat} (hs : s < nx.length) (ht : t < nx.length) (a : ByteArray) : Evr (fun k => fixes_CheckTell.f k nx mk (s : Int) (t : Int) a) ((toldV nx mk s t a).1, (toldV nx mk s t a).2, 0) := by
 have h6 := hv.le
 unfold fixes_CheckTell.f
 rw [isState_ok hv, decide_eq_true (show St nx (s : Int) ∧ St nx (t : Int) from ⟨⟨by omega, by omega⟩, ⟨by omega, by omega⟩⟩)]
 simp only [Option.bind_some, if_true]
 unfold toldV
 by_cases ha : a.size ≤ 4000
 ·rw [if_pos (show (a.size : Int) ≤ 4000 by omega), if_pos ha]
  cases hw : whole (cs a) with
  | none => exact Evr.const _
  | some f =>
   simp only
   obtain ⟨w1, w2⟩ := whole_str hw
   cases hd : depF f with
   | none => exact Evr.const _
   | some d =>
    simp only
    obtain ⟨k1, m1, _, r1⟩ := both_holds hv hw
    have iV := (V_spec hv f w2).1 _ (inE_zero nx.length)
    have hr : Evr (fun k => holdF nx mk k f []) (V nx mk f (0, 0, 0), m1) := Evr.of_mono (fun k => (holdF_mono nx mk k).1 f []) ⟨k1, r1⟩
    have hcnd : nx.length ≤ 61 := by omega
    simp only [if_pos hcnd]
    refine Evr.bind (f := fun p k => _) hr (Evr.of_all fun k => ?_)
    have e1 := bit_div (n := nx.length) (by omega) iV (show s ≤ 64 by omega)
    have e2 := bit_div (n := nx.length) (by omega) iV (show t ≤ 64 by omega)
    simp only [Int.toNat_natCast, e1, e2]
    cases tb (V nx mk f (0, 0, 0)) s <;> cases tb (V nx mk f (0, 0, 0)) t <;> rfl
 ·rw [if_neg (show ¬ (a.size : Int) ≤ 4000 by omega), if_neg ha]
  exact Evr.const _
theorem Depth_ev {nx mk : List Int} (hv : VW nx mk) {s t e : Nat} (hs : s < nx.length) (ht : t < nx.length) (h : Lvl nx mk s t e) (he : e ≤ 1000) : Evr (fun k => r8Depth.f k nx mk (s : Int) (t : Int)) (e : Int) := by
 have loop : ∀ d j : Nat, j + d = e → Evr (fun k => r8Depth.l0 k (s : Int) (t : Int) (j : Int) nx mk) (e : Int) := by
  intro d
  induction d with
  | zero =>
   intro j hj
   obtain rfl : j = e := by omega
   obtain ⟨l, hl, hev⟩ := Level_ev hv j he
   refine Evr.step (fun k => by rw [r8Depth.l0]) (Evr.bind (f := fun x _ => _) hev (Evr.of_all fun k => ?_))
   rw [hl.1, if_pos (by omega), if_pos (by omega), if_pos (by omega), if_pos (by omega), if_neg (fun q => h.no ((hl.eq_iff hs ht).1 q))]
  | succ d ih =>
   intro j hj
   obtain ⟨l, hl, hev⟩ := Level_ev hv j (by omega)
   refine Evr.step (fun k => by rw [r8Depth.l0]) (Evr.bind (f := fun t108 k => (if 0 ≤ (s : Int) then (if (s : Int) < (t108.length : Int) then (if 0 ≤ (t : Int) then (if (t : Int) < (t108.length : Int) then (if (rd t108 (s : Int)) = (rd t108 (t : Int)) then (r8Depth.l0 k (s : Int) (t : Int) (wrap64 ((j : Int) + 1)) nx mk) else (some (j : Int))) else (none)) else (none)) else (none)) else (none))) hev (Evr.congr (fun k => ?_) (ih (j + 1) (by omega))))
   rw [hl.1, if_pos (by omega), if_pos (by omega), if_pos (by omega), if_pos (by omega), if_pos ((hl.eq_iff hs ht).2 (h.yes j (by omega))), wsucc (by omega)]
 exact loop e 0 (by omega)
theorem gd_told {nx mk : List Int} (hv : VW nx mk) {s t e : Nat} (hs : s < nx.length) (ht : t < nx.length) (h : Lvl nx mk s t e) {r : ByteArray} {F : Fm} (hg : Gd nx mk r F e (Bd e) s t true) : toldV nx mk s t r = ((e : Int), true) := by
 obtain ⟨g1, g2, g3, ⟨d, g4, g4'⟩, g5, g6, g7⟩ := hg
 have hbd := Bd_le e
 have hde : d = e := by
  apply Classical.byContradiction
  intro q
  have := V_depth hv (0, 0, 0) (inE_zero _) F g2 d g4 s t hs ht (h.yes d (by omega))
  rw [g5, g6] at this
  cases this
 subst hde
 unfold toldV
 rw [if_pos (by omega), g1, whole_back g2 (sc_of F d [] g4)]
 simp only [g4]
 rw [g5, g6]
 rfl
theorem Tell_off_ev {nx mk : List Int} (hv : VW nx mk) {a b : Int} (h : ¬ (St nx a ∧ St nx b)) (k : Nat) : fixes_Tell.f k nx mk a b = some (⟨#[]⟩, 2) := by
  unfold fixes_Tell.f
  rw [isState_ok hv, decide_eq_false h]
  rfl
theorem Check_off_ev {nx mk : List Int} (hv : VW nx mk) {a b : Int} (h : ¬ (St nx a ∧ St nx b)) (s : ByteArray) (k : Nat) : fixes_CheckTell.f k nx mk a b s = some (0, false, 2) := by
  unfold fixes_CheckTell.f
  rw [isState_ok hv, decide_eq_false h]
  rfl
theorem Tell_bad {nx mk : List Int} (h : ¬ VW nx mk) (a b : Int) (k : Nat) : fixes_Tell.f k nx mk a b = some (⟨#[]⟩, 2) := by
  unfold fixes_Tell.f fixes_isState.f
  simp only [valid_false h, Option.bind_some]
  rfl
theorem Check_bad {nx mk : List Int} (h : ¬ VW nx mk) (a b : Int) (s : ByteArray) (k : Nat) : fixes_CheckTell.f k nx mk a b s = some (0, false, 2) := by
  unfold fixes_CheckTell.f fixes_isState.f
  simp only [valid_false h, Option.bind_some]
  rfl
theorem Tell_on {nx mk : List Int} (hv : VW nx mk) {K : Nat} (hK : Last nx mk K) {s t : Nat} (hs : s < nx.length) (ht : t < nx.length) {r : ByteArray × Int} (h : Evr (fun k => if rd (lv nx mk K) (s : Int) = rd (lv nx mk K) (t : Int) then some ((⟨#[]⟩ : ByteArray), (4 : Int)) else (tellK nx mk (levs nx mk K) k K s t).bind fun r => some (r, 0)) r) : Evr (fun k => fixes_Tell.f k nx mk (s : Int) (t : Int)) r := by
 have h6 := hv.le
 have hl := hK.le hv
 unfold fixes_Tell.f
 rw [isState_ok hv, decide_eq_true (show St nx (s : Int) ∧ St nx (t : Int) from ⟨⟨by omega, by omega⟩, ⟨by omega, by omega⟩⟩)]
 simp only [Option.bind_some, if_true]
 refine Evr.bind (f := fun L k => if L ≠ [] ∧ L.length ≤ 1000 ∧ nx.length ≤ (L.getLastD []).length then (if rd (L.getLastD []) (s : Int) = rd (L.getLastD []) (t : Int) then some ((⟨#[]⟩ : ByteArray), (4 : Int)) else (tellK nx mk L k (L.length - 1) ((s : Int)).toNat ((t : Int)).toNat).bind fun r => some (r, 0)) else none) (levels_ev hv hK) ?_
 refine Evr.congr (fun k => ?_) h
 have hne : levs nx mk K ≠ [] := by
  intro q
  have := levs_len nx mk K
  rw [q] at this
  simp at this
 rw [levs_last, levs_len, if_pos ⟨hne, by omega, by rw [lv_len]; exact Nat.le_refl _⟩, Int.toNat_natCast, Int.toNat_natCast, Nat.add_sub_cancel]
theorem Tell_same_ev {nx mk : List Int} (hv : VW nx mk) {K : Nat} (hK : Last nx mk K) {s t : Nat} (hs : s < nx.length) (ht : t < nx.length) (h : E nx mk K s t) : Evr (fun k => fixes_Tell.f k nx mk (s : Int) (t : Int)) ((⟨#[]⟩ : ByteArray), (4 : Int)) :=
  Tell_on hv hK hs ht (Evr.of_all fun k => if_pos h)
theorem Tell_yes_ev {nx mk : List Int} (hv : VW nx mk) {K : Nat} (hK : Last nx mk K) (hnc : ∀ j, j ≤ K → j + 1 ≤ nc nx mk j) {s t : Nat} (hs : s < nx.length) (ht : t < nx.length) (h : ¬ E nx mk K s t) : ∃ r e, Lvl nx mk s t e ∧ e ≤ K ∧ Evr (fun k => fixes_Tell.f k nx mk (s : Int) (t : Int)) (r, (0 : Int)) ∧ toldV nx mk s t r = ((e : Int), true) := by
  have hl := hK.le hv
  have hlvl := dec_lvl hv hs ht (Nat.le_refl K) h
  obtain ⟨r, F, g1, g2⟩ := tell_ok hv hl hnc _ K s t rfl (Nat.le_refl _) hs ht h
  refine ⟨r, _, hlvl, decTo_le _ _ _ _, Tell_on hv hK hs ht ?_, gd_told hv hs ht hlvl g2⟩
  refine Evr.congr (fun k => if_neg h) (Evr.bind (f := fun r _ => some (r, (0 : Int))) (Evr.of_mono (fun k => tellK_mono nx mk _ k K s t) ⟨_, g1⟩) (Evr.const _))
end Go.Proofs.Ytjffhhalmicodaa.L
end

section
namespace Go.Proofs.Ytjffhhalmicodaa.PH
open Go.RowKit Go.Proofs.G.PrintWords Go.Proofs.G.PrintLast Go.Proofs.G.PrintMore
attribute [local go_sem] max2_int min2_int max_two min_two max_three min_three max_four min_four
set_option linter.unusedVariables false
set_option linter.unusedSimpArgs false
mutual
def q8FixesTells.j0 : Nat → Int → Int → ByteArray → ByteArray → Int → Int → Bool → Int → Bool → List Int → List Int → Option (Bool)
  | 0, _, _, _, _, _, _, _, _, _, _, _ => none
  | k + 1, x1, x2, x3, x9, x10, x11, x12, x13, x54, x114000, x114001 => if x54 = true then (if x9.toList = ([] : List UInt8) then (if x11 = 0 then (if x12 = true then (some false) else (if x10 = 2 then (if x13 = 2 then ((PB.q8awake.f k).bind fun t134 => (some t134)) else (some false)) else (some false))) else (some false)) else (some false)) else ((PF.r8Alike.f k x114000 x114001 x1 x2).bind fun t135 => (if t135 = true then (if x9.toList = ([] : List UInt8) then (q8FixesTells.j1 k x1 x2 x3 x11 x12 x13 (x10 != 4) x114000 x114001) else (q8FixesTells.j1 k x1 x2 x3 x11 x12 x13 true x114000 x114001)) else ((r8Told.f k x114000 x114001 x1 x2 x9).bind fun bt139 => (if x10 = 0 then (if bt139.2 = true then ((r8Depth.f k x114000 x114001 x1 x2).bind fun t141 => (q8FixesTells.j2 k x1 x2 x3 x11 x12 x13 (bt139.1 != t141) x114000 x114001)) else (q8FixesTells.j2 k x1 x2 x3 x11 x12 x13 true x114000 x114001)) else (q8FixesTells.j2 k x1 x2 x3 x11 x12 x13 true x114000 x114001)))))
def q8FixesTells.j1 : Nat → Int → Int → ByteArray → Int → Bool → Int → Bool → List Int → List Int → Option (Bool)
  | 0, _, _, _, _, _, _, _, _, _ => none
  | k + 1, x1, x2, x3, x11, x12, x13, x85, x114000, x114001 => if x85 = true then (some false) else ((r8Told.f k x114000 x114001 x1 x2 x3).bind fun bt136 => (if x11 = bt136.1 then (if (x12 == bt136.2) = true then (if x13 = 0 then ((PB.q8awake.f k).bind fun t138 => (some t138)) else (some false)) else (some false)) else (some false)))
def q8FixesTells.j2 : Nat → Int → Int → ByteArray → Int → Bool → Int → Bool → List Int → List Int → Option (Bool)
  | 0, _, _, _, _, _, _, _, _, _ => none
  | k + 1, x1, x2, x3, x11, x12, x13, x107, x114000, x114001 => if x107 = true then (some false) else ((r8Told.f k x114000 x114001 x1 x2 x3).bind fun bt142 => (if x11 = bt142.1 then (if (x12 == bt142.2) = true then (if x13 = 0 then ((PB.q8awake.f k).bind fun t144 => (some t144)) else (some false)) else (some false)) else (some false)))
end
def q8FixesTells.f (k : Nat) (l0_0 : List Int) (l0_1 : List Int) (a1 : Int) (a2 : Int) (a3 : ByteArray) : Option (Bool) := (PA.q8Of.f l0_0 l0_1).bind fun bt114 => ((X.fixes_Tell.f k bt114.1 bt114.2 a1 a2).bind fun bt120 => ((PA.q8Of.f l0_0 l0_1).bind fun bt122 => (if 0 ≤ (mn (a3.size : Int) 4010) then (if (mn (a3.size : Int) 4010) ≤ (a3.size : Int) then ((X.fixes_CheckTell.f k bt122.1 bt122.2 a1 a2 (a3.extract 0 ((mn (a3.size : Int) 4010) : Int).toNat)).bind fun bt128 => ((PB.r8Valid.f k l0_0 l0_1).bind fun t131 => (if t131 = true then ((PF.r8State.f l0_0 l0_1 a1).bind fun t132 => (if t132 = true then ((PF.r8State.f l0_0 l0_1 a2).bind fun t133 => (q8FixesTells.j0 k a1 a2 a3 bt120.1 bt120.2 bt128.1 bt128.2.1 bt128.2.2 (!t133) l0_0 l0_1)) else (q8FixesTells.j0 k a1 a2 a3 bt120.1 bt120.2 bt128.1 bt128.2.1 bt128.2.2 true l0_0 l0_1))) else (q8FixesTells.j0 k a1 a2 a3 bt120.1 bt120.2 bt128.1 bt128.2.1 bt128.2.2 true l0_0 l0_1)))) else (none)) else (none))))
def q8FixesTells.T2 : Bool × List (List Nat × List Nat) := (true, [([], []), ([0], [0]), ([], []), ([], []), ([], []), ([], []), ([5], [5]), ([6], [6]), ([4, 7], [4, 7]), ([1, 2, 3, 8, 1], [1, 2, 3, 8]), ([9], [9]), ([10], [10]), ([10], [10]), ([10], [10]), ([11, 9, 0, 1, 2, 3, 4, 5, 6, 7, 8, 9, 10, 11], [11]), ([12, 14, 0, 1, 2, 3, 4, 5, 6, 7, 8, 9, 10, 11, 12, 14], [12]), ([13, 15, 0, 1, 2, 3, 4, 5, 6, 7, 8, 9, 10, 11, 12, 13, 14, 15], [13])])
def q8FixesTells.B2 : List Nat := [0, 1, 0, 0, 0, 0, 32, 96, 240, 511, 1023, 2047, 2047, 2047, 4095, 24575, 65535]
theorem q8FixesTells.tab2 : rtab .any (opsOf Try.f14 2) = q8FixesTells.T2 := by kernel_rfl
theorem q8FixesTells.bits2 : waitsOk q8FixesTells.T2.2 q8FixesTells.B2 = true := by kernel_rfl
set_option maxHeartbeats 8000000 in
set_option maxRecDepth 100000 in
theorem q8FixesTells.calls (k : Nat) (A0_0 : Option Addr) (c0_0 : Nat) (l0_0 : List Int) (A0_1 : Option Addr) (c0_1 : Nat) (l0_1 : List Int) (a1 : Int) (a2 : Int) (a3 : ByteArray) (r : Bool) (w : World) (hr0_0 : Kd.C (Kd.int .i64) w A0_0 l0_0.length l0_0) (hc0_0 : l0_0.length ≤ c0_0) (hr0_1 : Kd.C (Kd.int .i64) w A0_1 l0_1.length l0_1) (hc0_1 : l0_1.length ≤ c0_1) (h : q8FixesTells.f k l0_0 l0_1 a1 a2 a3 = some r) :
  Calls Try.prog 14 #[.agg #[.slice A0_0 l0_0.length c0_0, .slice A0_1 l0_1.length c0_1], .int .i64 a1, .int .i64 a2, .string a3] w fun e w' => e = .returned (.bool r) ∧ Below w.heap.size w w' := by
 have hu24 := Try.underlying24
 have HR0_0 := As0.mk hr0_0
 have HC0_0 := As0.mk hc0_0
 clear hr0_0 hc0_0
 have HR0_1 := As0.mk hr0_1
 have HC0_1 := As0.mk hc0_1
 clear hr0_1 hc0_1
 have HB := As0.mk (Below.refl w.heap.size w)
 have H : ((PA.q8Of.f l0_0 l0_1).bind fun bt114 => ((X.fixes_Tell.f k bt114.1 bt114.2 a1 a2).bind fun bt120 => ((PA.q8Of.f l0_0 l0_1).bind fun bt122 => (if 0 ≤ (mn (a3.size : Int) 4010) then (if (mn (a3.size : Int) 4010) ≤ (a3.size : Int) then ((X.fixes_CheckTell.f k bt122.1 bt122.2 a1 a2 (a3.extract 0 ((mn (a3.size : Int) 4010) : Int).toNat)).bind fun bt128 => ((PB.r8Valid.f k l0_0 l0_1).bind fun t131 => (if t131 = true then ((PF.r8State.f l0_0 l0_1 a1).bind fun t132 => (if t132 = true then ((PF.r8State.f l0_0 l0_1 a2).bind fun t133 => (q8FixesTells.j0 k a1 a2 a3 bt120.1 bt120.2 bt128.1 bt128.2.1 bt128.2.2 (!t133) l0_0 l0_1)) else (q8FixesTells.j0 k a1 a2 a3 bt120.1 bt120.2 bt128.1 bt128.2.1 bt128.2.2 true l0_0 l0_1))) else (q8FixesTells.j0 k a1 a2 a3 bt120.1 bt120.2 bt128.1 bt128.2.1 bt128.2.2 true l0_0 l0_1)))) else (none)) else (none))))) = some r := h
 clear h
 replace H := Option.bind_eq_some_iff.mp H
 obtain ⟨⟨t114, t117⟩, A50, H⟩ := H
 replace H : ((X.fixes_Tell.f k t114 t117 a1 a2).bind fun bt120 => ((PA.q8Of.f l0_0 l0_1).bind fun bt122 => (if 0 ≤ (mn (a3.size : Int) 4010) then (if (mn (a3.size : Int) 4010) ≤ (a3.size : Int) then ((X.fixes_CheckTell.f k bt122.1 bt122.2 a1 a2 (a3.extract 0 ((mn (a3.size : Int) 4010) : Int).toNat)).bind fun bt128 => ((PB.r8Valid.f k l0_0 l0_1).bind fun t131 => (if t131 = true then ((PF.r8State.f l0_0 l0_1 a1).bind fun t132 => (if t132 = true then ((PF.r8State.f l0_0 l0_1 a2).bind fun t133 => (q8FixesTells.j0 k a1 a2 a3 bt120.1 bt120.2 bt128.1 bt128.2.1 bt128.2.2 (!t133) l0_0 l0_1)) else (q8FixesTells.j0 k a1 a2 a3 bt120.1 bt120.2 bt128.1 bt128.2.1 bt128.2.2 true l0_0 l0_1))) else (q8FixesTells.j0 k a1 a2 a3 bt120.1 bt120.2 bt128.1 bt128.2.1 bt128.2.2 true l0_0 l0_1)))) else (none)) else (none)))) = some r := H
 have A5 := As0.mk A50
 clear A50
 replace H := Option.bind_eq_some_iff.mp H
 obtain ⟨⟨t120, t121⟩, A60, H⟩ := H
 replace H : ((PA.q8Of.f l0_0 l0_1).bind fun bt122 => (if 0 ≤ (mn (a3.size : Int) 4010) then (if (mn (a3.size : Int) 4010) ≤ (a3.size : Int) then ((X.fixes_CheckTell.f k bt122.1 bt122.2 a1 a2 (a3.extract 0 ((mn (a3.size : Int) 4010) : Int).toNat)).bind fun bt128 => ((PB.r8Valid.f k l0_0 l0_1).bind fun t131 => (if t131 = true then ((PF.r8State.f l0_0 l0_1 a1).bind fun t132 => (if t132 = true then ((PF.r8State.f l0_0 l0_1 a2).bind fun t133 => (q8FixesTells.j0 k a1 a2 a3 t120 t121 bt128.1 bt128.2.1 bt128.2.2 (!t133) l0_0 l0_1)) else (q8FixesTells.j0 k a1 a2 a3 t120 t121 bt128.1 bt128.2.1 bt128.2.2 true l0_0 l0_1))) else (q8FixesTells.j0 k a1 a2 a3 t120 t121 bt128.1 bt128.2.1 bt128.2.2 true l0_0 l0_1)))) else (none)) else (none))) = some r := H
 have A6 := As0.mk A60
 clear A60
 replace H := Option.bind_eq_some_iff.mp H
 obtain ⟨⟨t122, t125⟩, A70, H⟩ := H
 replace H : (if 0 ≤ (mn (a3.size : Int) 4010) then (if (mn (a3.size : Int) 4010) ≤ (a3.size : Int) then ((X.fixes_CheckTell.f k t122 t125 a1 a2 (a3.extract 0 ((mn (a3.size : Int) 4010) : Int).toNat)).bind fun bt128 => ((PB.r8Valid.f k l0_0 l0_1).bind fun t131 => (if t131 = true then ((PF.r8State.f l0_0 l0_1 a1).bind fun t132 => (if t132 = true then ((PF.r8State.f l0_0 l0_1 a2).bind fun t133 => (q8FixesTells.j0 k a1 a2 a3 t120 t121 bt128.1 bt128.2.1 bt128.2.2 (!t133) l0_0 l0_1)) else (q8FixesTells.j0 k a1 a2 a3 t120 t121 bt128.1 bt128.2.1 bt128.2.2 true l0_0 l0_1))) else (q8FixesTells.j0 k a1 a2 a3 t120 t121 bt128.1 bt128.2.1 bt128.2.2 true l0_0 l0_1)))) else (none)) else (none)) = some r := H
 have A7 := As0.mk A70
 clear A70
 obtain ⟨ji8, hji8⟩ : ∃ j_ : Int, (mn (a3.size : Int) 4010) = j_ := ⟨_, rfl⟩
 replace H : (if 0 ≤ (ji8) then (if (ji8) ≤ (a3.size : Int) then ((X.fixes_CheckTell.f k t122 t125 a1 a2 (a3.extract 0 ((ji8) : Int).toNat)).bind fun bt128 => ((PB.r8Valid.f k l0_0 l0_1).bind fun t131 => (if t131 = true then ((PF.r8State.f l0_0 l0_1 a1).bind fun t132 => (if t132 = true then ((PF.r8State.f l0_0 l0_1 a2).bind fun t133 => (q8FixesTells.j0 k a1 a2 a3 t120 t121 bt128.1 bt128.2.1 bt128.2.2 (!t133) l0_0 l0_1)) else (q8FixesTells.j0 k a1 a2 a3 t120 t121 bt128.1 bt128.2.1 bt128.2.2 true l0_0 l0_1))) else (q8FixesTells.j0 k a1 a2 a3 t120 t121 bt128.1 bt128.2.1 bt128.2.2 true l0_0 l0_1)))) else (none)) else (none)) = some r := by first | (rw [hji8] at H; exact H) | (simp only [hji8] at H ⊢; exact H)
 (try rw [hji8] at A5)
 (try rw [hji8] at A6)
 (try rw [hji8] at A7)
 (try (have hji8h : ji8 ≤ 4010 := by (rw [← hji8]; unfold mn; (repeat' split) <;> omega)))
 (try (have hji8g : ji8 ≤ 64 := by omega))
 (try (have hji8l : 0 ≤ ji8 := by (rw [← hji8]; unfold mn; (repeat' split) <;> omega)))
 (try (have hji8m : 0 ≤ ji8 := by omega))
 have hji8_ : (if 4010 < (a3.size : Int) then 4010 else (a3.size : Int)) = ji8 := hji8
 by_cases c9 : 0 ≤ (ji8)
 ·rw [if_pos c9] at H
  have c9b0 := eq_true c9
  have c9b1 : decide (0 ≤ (ji8)) = true := decide_eq_true c9
  clear c9
  by_cases c10 : (ji8) ≤ (a3.size : Int)
  ·rw [if_pos c10] at H
   have c10b0 := eq_true c10
   have c10b1 : decide ((ji8) ≤ (a3.size : Int)) = true := decide_eq_true c10
   clear c10
   replace H := Option.bind_eq_some_iff.mp H
   obtain ⟨⟨t128, t129, t130⟩, A110, H⟩ := H
   replace H : ((PB.r8Valid.f k l0_0 l0_1).bind fun t131 => (if t131 = true then ((PF.r8State.f l0_0 l0_1 a1).bind fun t132 => (if t132 = true then ((PF.r8State.f l0_0 l0_1 a2).bind fun t133 => (q8FixesTells.j0 k a1 a2 a3 t120 t121 t128 t129 t130 (!t133) l0_0 l0_1)) else (q8FixesTells.j0 k a1 a2 a3 t120 t121 t128 t129 t130 true l0_0 l0_1))) else (q8FixesTells.j0 k a1 a2 a3 t120 t121 t128 t129 t130 true l0_0 l0_1))) = some r := H
   have A11 := As0.mk A110
   clear A110
   have HC12 := As0.mk H
   clear H
   go_enter Try.func14, Try.ntmps14
   try go_wp2_with (first | ((with_reducible refine gate_dst (N := 4) rfl ?_); refine box_event ?hg (N := 4) ?hd (cs := #[.slice A0_0 l0_0.length c0_0, .slice A0_1 l0_1.length c0_1]) (t := 24) ?hr ?_; (case hd => rfl); (case hg => rfl); (case hr => first | (go_simp; done) | (go_simp; rfl)); intro gb113 hg w13 hbox hb; have n0_ := As0.mk (bst (by repeat (first | (with_reducible first | exact HB.out | apply below_alloc | apply pwd | apply bd1) | exact HB.out)) hb); have n1_ := As0.mk (hbox); have n2_ := As0.mk ((by rw [hg]; exact (below_size (by repeat (first | (with_reducible first | exact HB.out | apply below_alloc | apply pwd | apply bd1) | exact HB.out))) : w.heap.size ≤ gb113)); have n3_ := As0.mk ((by rw [hg]; exact (below_size (by repeat (first | (with_reducible first | exact HB.out | apply below_alloc | apply pwd | apply bd1) | exact HB.out))) : w.heap.size ≤ gb113)); clear HB; have HB := n0_; have BK113 := n1_; have GW113 := n2_; have GE113 := n3_; clear n0_ n1_ n2_ n3_; clear hb hbox hg; have hcz14_0 : w13.cell? ⟨gb113, 0, none⟩ = some (.slice A0_0 l0_0.length c0_0) := (blk_cell BK113.out 0).trans rfl; have hcz14_1 : w13.cell? ⟨gb113, 1, none⟩ = some (.slice A0_1 l0_1.length c0_1) := (blk_cell BK113.out 1).trans rfl; have hfz14_0 := blk_frozen BK113.out 0; have hfz14_1 := blk_frozen BK113.out 1) | ((with_reducible refine gate_callee (f := 17) rfl ?_); refine goesL_ (some 20) rfl rfl Try.func17 (by kernel_rfl) rfl #[.agg #[.slice A0_0 l0_0.length c0_0, .slice A0_1 l0_1.length c0_1]] rfl (by (try simp only [sm]); first | done | rfl | (simp only [List.length_drop, List.length_take]; rfl)) ?_; (with_reducible refine (PA.q8Of.calls _ _ l0_0 _ _ l0_1 t114 t117 _ ?side1 ?side2 ?side3 ?side4 A5.out).mono ?_); (case side1 => repeat (first | exact (Kd.C_below HR0_0.out HB.out) | (with_reducible refine Kd.C_alloc ?_ _) | (with_reducible refine Kd.C_drewN ?_ _) | (with_reducible refine Kd.C_drew ?_))); (case side2 => exact HC0_0.out); (case side3 => repeat (first | exact (Kd.C_below HR0_1.out HB.out) | (with_reducible refine Kd.C_alloc ?_ _) | (with_reducible refine Kd.C_drewN ?_ _) | (with_reducible refine Kd.C_drew ?_))); (case side4 => exact HC0_1.out); rintro e w15 ⟨v115, v118, rfl, ho0, ho1, hb⟩; refine ⟨_, rfl, ?_⟩; have n0_ := As0.mk (Kd.R_lower ho0 (below_size (by repeat (first | (with_reducible first | exact HB.out | apply below_alloc | apply pwd | apply bd1 | refine below_set ?_ GE113.out) | exact HB.out)))); have n1_ := As0.mk (Kd.R_lower ho1 (below_size (by repeat (first | (with_reducible first | exact HB.out | apply below_alloc | apply pwd | apply bd1 | refine below_set ?_ GE113.out) | exact HB.out)))); have n2_ := As0.mk (blk_below (g := gb113) (o := .cells #[.slice A0_0 l0_0.length c0_0, .slice A0_1 l0_1.length c0_1] 24 (0, 0)) (by (with_reducible repeat (first | refine blk_drewN ?_ _ | refine blk_drew ?_ | refine blk_alloc ?_ _)); exact BK113.out) hb); have n3_ := As0.mk (bst (by repeat (first | (with_reducible first | exact HB.out | apply below_alloc | apply pwd | apply bd1 | refine below_set ?_ GE113.out) | exact HB.out)) hb); clear BK113; clear HB; have HO116 := n0_; have HO119 := n1_; have BK113 := n2_; have HB := n3_; clear n0_ n1_ n2_ n3_; (try clear hb); (try clear hb2); (try clear hk); (try clear hi); (try clear ho0); (try clear ho1); obtain ⟨Ao16, co16, eo16⟩ := Kd.R_slice HO116.out; subst eo16; obtain ⟨Ao17, co17, eo17⟩ := Kd.R_slice HO119.out; subst eo17) | ((with_reducible refine gate_callee (f := 42) rfl ?_); refine goesL_ (some 23) rfl rfl Try.func42 (by kernel_rfl) rfl #[.agg #[.slice Ao16 t114.length co16, .slice Ao17 t117.length co17], .int .i64 a1, .int .i64 a2] rfl (by (try simp only [sm]); first | done | rfl | (simp only [List.length_drop, List.length_take]; rfl)) ?_; (with_reducible refine (X.fixes_Tell.calls k _ _ t114 _ _ t117 a1 a2 t120 t121 _ ?side1 ?side2 ?side3 ?side4 A6.out).mono ?_); (case side1 => repeat (first | exact (Kd.R_reads' HO116.out).2.2 | (with_reducible refine Kd.C_alloc ?_ _) | (with_reducible refine Kd.C_drewN ?_ _) | (with_reducible refine Kd.C_drew ?_))); (case side2 => exact (Kd.R_reads' HO116.out).2.1); (case side3 => repeat (first | exact (Kd.R_reads' HO119.out).2.2 | (with_reducible refine Kd.C_alloc ?_ _) | (with_reducible refine Kd.C_drewN ?_ _) | (with_reducible refine Kd.C_drew ?_))); (case side4 => exact (Kd.R_reads' HO119.out).2.1); rintro e w18 ⟨rfl, hb⟩; refine ⟨_, rfl, ?_⟩; have n0_ := As0.mk (Kd.R_below (by (with_reducible repeat (first | apply Kd.R_alloc | apply Kd.R_drewN | apply Kd.R_drew)); exact HO116.out) hb); have n1_ := As0.mk (Kd.R_below (by (with_reducible repeat (first | apply Kd.R_alloc | apply Kd.R_drewN | apply Kd.R_drew)); exact HO119.out) hb); have n2_ := As0.mk (blk_below (g := gb113) (o := .cells #[.slice A0_0 l0_0.length c0_0, .slice A0_1 l0_1.length c0_1] 24 (0, 0)) (by (with_reducible repeat (first | refine blk_drewN ?_ _ | refine blk_drew ?_ | refine blk_alloc ?_ _)); exact BK113.out) hb); have n3_ := As0.mk (bst (by repeat (first | (with_reducible first | exact HB.out | apply below_alloc | apply pwd | apply bd1 | refine below_set ?_ GE113.out) | exact HB.out)) hb); clear HO116; clear HO119; clear BK113; clear HB; have HO116 := n0_; have HO119 := n1_; have BK113 := n2_; have HB := n3_; clear n0_ n1_ n2_ n3_; (try clear hb); (try clear hb2); (try clear hk); (try clear hi)))
   have n0_ := As0.mk (Kd.R_drew HO116.out)
   have n1_ := As0.mk (Kd.R_drew HO119.out)
   have n2_ := As0.mk (blk_drew BK113.out)
   have n3_ := As0.mk (bd1 HB.out)
   clear HO116
   clear HO119
   clear BK113
   clear HB
   have HO116 := n0_
   have HO119 := n1_
   have BK113 := n2_
   have HB := n3_
   clear n0_ n1_ n2_ n3_
   refine start_ (n := 17) (S := fun w' => w'.cell? ⟨gb113, 0, none⟩ = some (.slice A0_0 l0_0.length c0_0) ∧ w'.cell? ⟨gb113, 1, none⟩ = some (.slice A0_1 l0_1.length c0_1)) (ds := []) #[false, false, false, false, false, false, false, false, false, false, false, false, false, false, false, false, false] (by kernel_rfl) rfl rfl ⟨(blk_cell BK113.out 0).trans rfl, (blk_cell BK113.out 1).trans rfl⟩ (fun hHeld => ?_); refine with_tabW q8FixesTells.tab2 q8FixesTells.bits2 (fun HT_ HW_ => ?_)
   generalize w18.drew = w19 at HO116 HO119 BK113 HB hHeld ⊢
   refine pure_ (i := 2) (N := some 29) (v := ?_) (a' := ?_) #[false, false, true, false, false, false, false, false, false, false, false, false, false, false, false, false, false] rfl rfl (any_of HT_.out (by kernel_rfl)) (fun _ _ _ h => h) (Or.inl ⟨by rfl, ?_⟩) ?_ ?_
   rotate_left;(intro w';go_simp;with_reducible rfl);rotate_left;(simp only [Act.put, sq];rfl)
   refine pure_ (i := 3) (N := some 30) (v := ?_) (a' := ?_) #[false, false, true, true, false, false, false, false, false, false, false, false, false, false, false, false, false] rfl rfl (any_of HT_.out (by kernel_rfl)) (fun _ _ _ h => h) (Or.inl ⟨by rfl, ?_⟩) ?_ ?_
   rotate_left;(intro w';go_simp;with_reducible rfl);rotate_left;(simp only [Act.put, sq];rfl)
   refine pure_ (i := 4) (N := some 31) (v := ?_) (a' := ?_) #[false, false, true, true, true, false, false, false, false, false, false, false, false, false, false, false, false] rfl rfl (any_of HT_.out (by kernel_rfl)) (fun _ _ _ h => h) (Or.inl ⟨by rfl, ?_⟩) ?_ ?_
   rotate_left;(intro w';go_simp;with_reducible rfl);rotate_left;(simp only [Act.put, sq];rfl)
   refine pure_ (i := 5) (N := some 32) (v := ?_) (a' := ?_) #[false, false, true, true, true, true, false, false, false, false, false, false, false, false, false, false, false] rfl rfl (any_of HT_.out (by kernel_rfl)) (fun _ _ _ h => h) (Or.inl ⟨by rfl, ?_⟩) ?_ ?_
   rotate_left;(intro w';go_simp;with_reducible rfl);rotate_left;(simp only [Act.put, sq];rfl)
   refine pure_ (i := 6) (N := some 33) (v := ?_) (a' := ?_) #[false, false, true, true, true, true, true, false, false, false, false, false, false, false, false, false, false] rfl rfl (any_of HT_.out (by kernel_rfl)) (fun _ _ _ h => h) (Or.inl ⟨by rfl, ?_⟩) ?_ ?_
   rotate_left;(intro w';go_simp;with_reducible rfl);rotate_left;(simp only [Act.put, sq];rfl)
   refine pure_ (i := 7) (N := some 34) (v := ?_) (a' := ?_) #[false, false, true, true, true, true, true, true, false, false, false, false, false, false, false, false, false] rfl rfl (any_of HT_.out (by kernel_rfl)) (fun _ _ _ h => h) (Or.inl ⟨by rfl, ?_⟩) ?_ ?_
   rotate_left;(intro w';go_simp;with_reducible rfl);rotate_left;(simp only [Act.put, sq];rfl)
   refine pure_ (i := 8) (N := some 35) (v := ?_) (a' := ?_) #[false, false, true, true, true, true, true, true, true, false, false, false, false, false, false, false, false] rfl rfl (any_of HT_.out (by kernel_rfl)) (fun _ _ _ h => h) (Or.inl ⟨by rfl, ?_⟩) ?_ ?_
   rotate_left;(intro w';go_simp;with_reducible rfl);rotate_left;(simp only [Act.put, sq];rfl)
   refine take_ (i := 0) (N := some 27) (v := ?_) (a' := ?_) #[true, false, true, true, true, true, true, true, true, false, false, false, false, false, false, false, false] rfl rfl (take_ofW HT_.out HW_.out (by kernel_rfl)) (fun _ _ _ h => h) (Or.inl ⟨by rfl, ?_⟩) hHeld ?_ ?_
   rotate_left
   ·rintro w' ⟨s0, s1⟩
    go_simp
    with_reducible rfl
   rotate_left
   ·simp only [Act.put, sq]
    rfl
   refine one_ (i := 1) (N := some 28) #[true, true, true, true, true, true, true, true, true, false, false, false, false, false, false, false, false] rfl rfl (one_of HT_.out (by kernel_rfl)) (by decide) (fun K hK => ?_)
   refine goes_ Try.func17 (by kernel_rfl) rfl #[.agg #[.slice A0_0 l0_0.length c0_0, .slice A0_1 l0_1.length c0_1]] (by rfl) rfl rfl (by (try simp only [sm]); first | done | rfl | (simp only [List.length_drop, List.length_take]; rfl)) ?_
   with_reducible refine (PA.q8Of.calls _ _ l0_0 _ _ l0_1 t122 t125 _ ?side1 ?side2 ?side3 ?side4 A7.out).mono ?_
   (case side1 => repeat (first | exact (Kd.C_below HR0_0.out HB.out) | (with_reducible refine Kd.C_alloc ?_ _) | (with_reducible refine Kd.C_drewN ?_ _) | (with_reducible refine Kd.C_drew ?_)))
   (case side2 => exact HC0_0.out)
   (case side3 => repeat (first | exact (Kd.C_below HR0_1.out HB.out) | (with_reducible refine Kd.C_alloc ?_ _) | (with_reducible refine Kd.C_drewN ?_ _) | (with_reducible refine Kd.C_drew ?_)))
   (case side4 => exact HC0_1.out)
   rintro e w20 ⟨v123, v126, rfl, ho0, ho1, hb⟩
   refine ⟨_, rfl, ?_⟩
   have n0_ := As0.mk (Kd.R_mono (Kd.R_told (Kd.R_told (Kd.R_old (by (with_reducible repeat (first | apply Kd.R_alloc | apply Kd.R_drewN | apply Kd.R_drew)); exact HO116.out) hb) (Kd.R_base ho0)) (Kd.R_base ho1)) (fun _ h_ => h_.1))
   have n1_ := As0.mk (Kd.R_mono (Kd.R_told (Kd.R_told (Kd.R_old (by (with_reducible repeat (first | apply Kd.R_alloc | apply Kd.R_drewN | apply Kd.R_drew)); exact HO119.out) hb) (Kd.R_base ho0)) (Kd.R_base ho1)) (fun _ h_ => h_.1))
   have n2_ := As0.mk (Kd.R_lower (Kd.R_new' (Kd.R_new' ho0 (Kd.R_lt (by (with_reducible repeat (first | apply Kd.R_alloc | apply Kd.R_drewN | apply Kd.R_drew)); exact HO116.out))) (Kd.R_lt (by (with_reducible repeat (first | apply Kd.R_alloc | apply Kd.R_drewN | apply Kd.R_drew)); exact HO119.out))) (below_size (by repeat (first | (with_reducible first | exact HB.out | apply below_alloc | apply pwd | apply bd1 | refine below_set ?_ GE113.out) | exact HB.out))))
   have n3_ := As0.mk (Kd.R_lower (Kd.R_new' (Kd.R_new' ho1 (Kd.R_lt (by (with_reducible repeat (first | apply Kd.R_alloc | apply Kd.R_drewN | apply Kd.R_drew)); exact HO116.out))) (Kd.R_lt (by (with_reducible repeat (first | apply Kd.R_alloc | apply Kd.R_drewN | apply Kd.R_drew)); exact HO119.out))) (below_size (by repeat (first | (with_reducible first | exact HB.out | apply below_alloc | apply pwd | apply bd1 | refine below_set ?_ GE113.out) | exact HB.out))))
   have n4_ := As0.mk (blk_below (g := gb113) (o := .cells #[.slice A0_0 l0_0.length c0_0, .slice A0_1 l0_1.length c0_1] 24 (0, 0)) (by (with_reducible repeat (first | refine blk_drewN ?_ _ | refine blk_drew ?_ | refine blk_alloc ?_ _)); exact BK113.out) hb)
   have n5_ := As0.mk (bst (by repeat (first | (with_reducible first | exact HB.out | apply below_alloc | apply pwd | apply bd1 | refine below_set ?_ GE113.out) | exact HB.out)) hb)
   clear HO116
   clear HO119
   clear BK113
   clear HB
   have HO116 := n0_
   have HO119 := n1_
   have HO124 := n2_
   have HO127 := n3_
   have BK113 := n4_
   have HB := n5_
   clear n0_ n1_ n2_ n3_ n4_ n5_
   (try clear hb)
   (try clear hb2)
   (try clear hk)
   (try clear hi)
   (try clear ho0)
   (try clear ho1)
   obtain ⟨Ao21, co21, eo21⟩ := Kd.R_slice HO124.out
   (first | subst eo21 | (injection eo21 with f1_ f2_ f3_; have f4_ := f1_.symm; have f5_ := f3_.symm; clear f1_ f2_ f3_; subst f4_; subst f5_))
   obtain ⟨Ao22, co22, eo22⟩ := Kd.R_slice HO127.out
   (first | subst eo22 | (injection eo22 with f1_ f2_ f3_; have f4_ := f1_.symm; have f5_ := f3_.symm; clear f1_ f2_ f3_; subst f4_; subst f5_))
   refine hK.out _ _ ⟨(blk_cell BK113.out 0).trans rfl, (blk_cell BK113.out 1).trans rfl⟩ (fun hHeld => ?_)
   clear hK K
   refine norm_ (a' := ?_) ?_ ?_
   rotate_left
   ·show Act.put _ (some 28) _ = _
    simp only [Act.put, sq]
    rfl
   refine one_ (i := 9) (N := some 36) #[true, true, true, true, true, true, true, true, true, true, false, false, false, false, false, false, false] rfl rfl (one_of HT_.out (by kernel_rfl)) (by decide) (fun K hK => ?_)
   refine goes_ Try.func43 (by kernel_rfl) rfl #[.agg #[.slice Ao21 t122.length co21, .slice Ao22 t125.length co22], .int .i64 a1, .int .i64 a2, .string (a3.extract 0 ((ji8) : Int).toNat)] (by rfl) rfl rfl (by (try simp only [sm]); first | done | (simp only [hji8]; rfl) | rfl | (simp only [List.length_drop, List.length_take]; rfl)) ?_
   with_reducible refine (X.fixes_CheckTell.calls k _ _ t122 _ _ t125 a1 a2 (a3.extract 0 ((ji8) : Int).toNat) t128 t129 t130 _ ?side1 ?side2 ?side3 ?side4 A11.out).mono ?_
   (case side1 => repeat (first | exact (Kd.R_reads' HO124.out).2.2 | (with_reducible refine Kd.C_alloc ?_ _) | (with_reducible refine Kd.C_drewN ?_ _) | (with_reducible refine Kd.C_drew ?_)))
   (case side2 => exact (Kd.R_reads' HO124.out).2.1)
   (case side3 => repeat (first | exact (Kd.R_reads' HO127.out).2.2 | (with_reducible refine Kd.C_alloc ?_ _) | (with_reducible refine Kd.C_drewN ?_ _) | (with_reducible refine Kd.C_drew ?_)))
   (case side4 => exact (Kd.R_reads' HO127.out).2.1)
   rintro e w23 ⟨rfl, hb⟩
   refine ⟨_, rfl, ?_⟩
   have n0_ := As0.mk (Kd.R_below (by (with_reducible repeat (first | apply Kd.R_alloc | apply Kd.R_drewN | apply Kd.R_drew)); exact HO116.out) hb)
   have n1_ := As0.mk (Kd.R_below (by (with_reducible repeat (first | apply Kd.R_alloc | apply Kd.R_drewN | apply Kd.R_drew)); exact HO119.out) hb)
   have n2_ := As0.mk (Kd.R_below (by (with_reducible repeat (first | apply Kd.R_alloc | apply Kd.R_drewN | apply Kd.R_drew)); exact HO124.out) hb)
   have n3_ := As0.mk (Kd.R_below (by (with_reducible repeat (first | apply Kd.R_alloc | apply Kd.R_drewN | apply Kd.R_drew)); exact HO127.out) hb)
   have n4_ := As0.mk (blk_below (g := gb113) (o := .cells #[.slice A0_0 l0_0.length c0_0, .slice A0_1 l0_1.length c0_1] 24 (0, 0)) (by (with_reducible repeat (first | refine blk_drewN ?_ _ | refine blk_drew ?_ | refine blk_alloc ?_ _)); exact BK113.out) hb)
   have n5_ := As0.mk (bst (by repeat (first | (with_reducible first | exact HB.out | apply below_alloc | apply pwd | apply bd1 | refine below_set ?_ GE113.out) | exact HB.out)) hb)
   clear HO116
   clear HO119
   clear HO124
   clear HO127
   clear BK113
   clear HB
   have HO116 := n0_
   have HO119 := n1_
   have HO124 := n2_
   have HO127 := n3_
   have BK113 := n4_
   have HB := n5_
   clear n0_ n1_ n2_ n3_ n4_ n5_
   (try clear hb)
   (try clear hb2)
   (try clear hk)
   (try clear hi)
   refine hK.out _ _ ⟨(blk_cell BK113.out 0).trans rfl, (blk_cell BK113.out 1).trans rfl⟩ (fun hHeld => ?_)
   clear hK K
   refine norm_ (a' := ?_) ?_ ?_
   rotate_left
   ·show Act.put _ (some 36) _ = _
    simp only [Act.put, sq]
    rfl
   refine pure_ (i := 10) (N := some 26) (v := ?_) (a' := ?_) #[true, true, true, true, true, true, true, true, true, true, true, false, false, false, false, false, false] rfl rfl (any_of HT_.out (by kernel_rfl)) (fun _ _ _ h => h) (Or.inl ⟨by rfl, ?_⟩) ?_ ?_
   rotate_left;(intro w';go_simp;with_reducible rfl);rotate_left;(simp only [Act.put, sq];rfl)
   refine pure_ (i := 11) (N := some 37) (v := ?_) (a' := ?_) #[true, true, true, true, true, true, true, true, true, true, true, true, false, false, false, false, false] rfl rfl (any_of HT_.out (by kernel_rfl)) (fun _ _ _ h => h) (Or.inl ⟨by rfl, ?_⟩) ?_ ?_
   rotate_left;(intro w';go_simp;with_reducible rfl);rotate_left;(simp only [Act.put, sq];rfl)
   refine pure_ (i := 12) (N := some 38) (v := ?_) (a' := ?_) #[true, true, true, true, true, true, true, true, true, true, true, true, true, false, false, false, false] rfl rfl (any_of HT_.out (by kernel_rfl)) (fun _ _ _ h => h) (Or.inl ⟨by rfl, ?_⟩) ?_ ?_
   rotate_left;(intro w';go_simp;with_reducible rfl);rotate_left;(simp only [Act.put, sq];rfl)
   refine pure_ (i := 13) (N := some 39) (v := ?_) (a' := ?_) #[true, true, true, true, true, true, true, true, true, true, true, true, true, true, false, false, false] rfl rfl (any_of HT_.out (by kernel_rfl)) (fun _ _ _ h => h) (Or.inl ⟨by rfl, ?_⟩) ?_ ?_
   rotate_left;(intro w';go_simp;with_reducible rfl);rotate_left;(simp only [Act.put, sq];rfl)
   refine pure_ (i := 14) (N := some 11) (v := ?_) (a' := ?_) #[true, true, true, true, true, true, true, true, true, true, true, true, true, true, true, false, false] rfl rfl (any_of HT_.out (by kernel_rfl)) (fun _ _ _ h => h) (Or.inl ⟨by rfl, ?_⟩) ?_ ?_
   rotate_left;(intro w';go_simp;with_reducible rfl);rotate_left;(simp only [Act.put, sq];rfl)
   refine pure_ (i := 15) (N := some 12) (v := ?_) (a' := ?_) #[true, true, true, true, true, true, true, true, true, true, true, true, true, true, true, true, false] rfl rfl (any_of HT_.out (by kernel_rfl)) (fun _ _ _ h => h) (Or.inl ⟨by rfl, ?_⟩) ?_ ?_
   rotate_left;(intro w';go_simp;with_reducible rfl);rotate_left;(simp only [Act.put, sq];rfl)
   refine pure_ (i := 16) (N := some 13) (v := ?_) (a' := ?_) #[true, true, true, true, true, true, true, true, true, true, true, true, true, true, true, true, true] rfl rfl (any_of HT_.out (by kernel_rfl)) (fun _ _ _ h => h) (Or.inl ⟨by rfl, ?_⟩) ?_ ?_
   rotate_left;(intro w';go_simp;with_reducible rfl);rotate_left;(simp only [Act.put, sq];rfl)
   refine done_ (done_of HT_.out (by kernel_rfl)) ?_
   go_upto_region 3 with (fail)
   go_cut [54] (fun v54 wc => ∃ (kq : Nat) (x54_11 : Bool), v54 = .bool x54_11 ∧ As0 (q8FixesTells.j0 kq a1 a2 a3 t120 t121 t128 t129 t130 x54_11 l0_0 l0_1 = some r) ∧ As0 (kq ≤ k) ∧ As0 (wc.heap[gb113]? = some (.cells #[(.slice A0_0 l0_0.length c0_0), (.slice A0_1 l0_1.length c0_1)] 24 (0, 0))) ∧ As0 (Below w.heap.size w wc))
   case first =>
    have H := HC12.out
    clear HC12
    replace H := Option.bind_eq_some_iff.mp H
    obtain ⟨t131, A240, H⟩ := H
    replace H : (if t131 = true then ((PF.r8State.f l0_0 l0_1 a1).bind fun t132 => (if t132 = true then ((PF.r8State.f l0_0 l0_1 a2).bind fun t133 => (q8FixesTells.j0 k a1 a2 a3 t120 t121 t128 t129 t130 (!t133) l0_0 l0_1)) else (q8FixesTells.j0 k a1 a2 a3 t120 t121 t128 t129 t130 true l0_0 l0_1))) else (q8FixesTells.j0 k a1 a2 a3 t120 t121 t128 t129 t130 true l0_0 l0_1)) = some r := H
    have A24 := As0.mk A240
    clear A240
    by_cases c25 : t131 = true
    ·subst c25
     have H1 : ((PF.r8State.f l0_0 l0_1 a1).bind fun t132 => (if t132 = true then ((PF.r8State.f l0_0 l0_1 a2).bind fun t133 => (q8FixesTells.j0 k a1 a2 a3 t120 t121 t128 t129 t130 (!t133) l0_0 l0_1)) else (q8FixesTells.j0 k a1 a2 a3 t120 t121 t128 t129 t130 true l0_0 l0_1))) = some r := by rw [if_pos rfl] at H; exact H
     clear H
     have H := H1
     clear H1
     replace H := Option.bind_eq_some_iff.mp H
     obtain ⟨t132, A260, H⟩ := H
     replace H : (if t132 = true then ((PF.r8State.f l0_0 l0_1 a2).bind fun t133 => (q8FixesTells.j0 k a1 a2 a3 t120 t121 t128 t129 t130 (!t133) l0_0 l0_1)) else (q8FixesTells.j0 k a1 a2 a3 t120 t121 t128 t129 t130 true l0_0 l0_1)) = some r := H
     have A26 := As0.mk A260
     clear A260
     by_cases c27 : t132 = true
     ·subst c27
      have H1 : ((PF.r8State.f l0_0 l0_1 a2).bind fun t133 => (q8FixesTells.j0 k a1 a2 a3 t120 t121 t128 t129 t130 (!t133) l0_0 l0_1)) = some r := by rw [if_pos rfl] at H; exact H
      clear H
      have H := H1
      clear H1
      replace H := Option.bind_eq_some_iff.mp H
      obtain ⟨t133, A280, H⟩ := H
      replace H : (q8FixesTells.j0 k a1 a2 a3 t120 t121 t128 t129 t130 (!t133) l0_0 l0_1) = some r := H
      have A28 := As0.mk A280
      clear A280
      have H' := As0.mk H
      clear H
      have hcz29_0 : w23.cell? ⟨gb113, 0, none⟩ = some (.slice A0_0 l0_0.length c0_0) := (blk_cell BK113.out 0).trans rfl
      have hcz29_1 : w23.cell? ⟨gb113, 1, none⟩ = some (.slice A0_1 l0_1.length c0_1) := (blk_cell BK113.out 1).trans rfl
      have hfz29_0 := blk_frozen BK113.out 0
      have hfz29_1 := blk_frozen BK113.out 1
      go_wp2_with (first | ((with_reducible refine gate_callee (f := 21) rfl ?_); refine goesL_ (some 41) rfl rfl Try.func21 (by kernel_rfl) rfl #[.agg #[.slice A0_0 l0_0.length c0_0, .slice A0_1 l0_1.length c0_1]] rfl (by (try simp only [sm]); first | done | rfl | (simp only [List.length_drop, List.length_take]; rfl)) ?_; (with_reducible refine (PB.r8Valid.calls k _ _ l0_0 _ _ l0_1 true _ ?side1 ?side2 ?side3 ?side4 A24.out).mono ?_); (case side1 => repeat (first | exact (Kd.C_below HR0_0.out HB.out) | (with_reducible refine Kd.C_alloc ?_ _) | (with_reducible refine Kd.C_drewN ?_ _) | (with_reducible refine Kd.C_drew ?_))); (case side2 => exact HC0_0.out); (case side3 => repeat (first | exact (Kd.C_below HR0_1.out HB.out) | (with_reducible refine Kd.C_alloc ?_ _) | (with_reducible refine Kd.C_drewN ?_ _) | (with_reducible refine Kd.C_drew ?_))); (case side4 => exact HC0_1.out); rintro e w30 ⟨rfl, hb⟩; refine ⟨_, rfl, ?_⟩; have n0_ := As0.mk (Kd.R_below (by (with_reducible repeat (first | apply Kd.R_alloc | apply Kd.R_drewN | apply Kd.R_drew)); exact HO116.out) hb); have n1_ := As0.mk (Kd.R_below (by (with_reducible repeat (first | apply Kd.R_alloc | apply Kd.R_drewN | apply Kd.R_drew)); exact HO119.out) hb); have n2_ := As0.mk (Kd.R_below (by (with_reducible repeat (first | apply Kd.R_alloc | apply Kd.R_drewN | apply Kd.R_drew)); exact HO124.out) hb); have n3_ := As0.mk (Kd.R_below (by (with_reducible repeat (first | apply Kd.R_alloc | apply Kd.R_drewN | apply Kd.R_drew)); exact HO127.out) hb); have n4_ := As0.mk (blk_below (g := gb113) (o := .cells #[.slice A0_0 l0_0.length c0_0, .slice A0_1 l0_1.length c0_1] 24 (0, 0)) (by (with_reducible repeat (first | refine blk_drewN ?_ _ | refine blk_drew ?_ | refine blk_alloc ?_ _)); exact BK113.out) hb); have n5_ := As0.mk (bst (by repeat (first | (with_reducible first | exact HB.out | apply below_alloc | apply pwd | apply bd1 | refine below_set ?_ GE113.out) | exact HB.out)) hb); clear HO116; clear HO119; clear HO124; clear HO127; clear BK113; clear HB; have HO116 := n0_; have HO119 := n1_; have HO124 := n2_; have HO127 := n3_; have BK113 := n4_; have HB := n5_; clear n0_ n1_ n2_ n3_ n4_ n5_; (try clear hb); (try clear hb2); (try clear hk); (try clear hi); have hcz31_0 : w30.cell? ⟨gb113, 0, none⟩ = some (.slice A0_0 l0_0.length c0_0) := (blk_cell BK113.out 0).trans rfl; have hcz31_1 : w30.cell? ⟨gb113, 1, none⟩ = some (.slice A0_1 l0_1.length c0_1) := (blk_cell BK113.out 1).trans rfl; have hfz31_0 := blk_frozen BK113.out 0; have hfz31_1 := blk_frozen BK113.out 1) | (go_at_call 40; (with_reducible refine (PF.r8State.calls _ _ l0_0 _ _ l0_1 a1 true _ ?side1 ?side2 ?side3 ?side4 A26.out).mono ?_); (case side1 => repeat (first | exact (Kd.C_below HR0_0.out HB.out) | (with_reducible refine Kd.C_alloc ?_ _) | (with_reducible refine Kd.C_drewN ?_ _) | (with_reducible refine Kd.C_drew ?_))); (case side2 => exact HC0_0.out); (case side3 => repeat (first | exact (Kd.C_below HR0_1.out HB.out) | (with_reducible refine Kd.C_alloc ?_ _) | (with_reducible refine Kd.C_drewN ?_ _) | (with_reducible refine Kd.C_drew ?_))); (case side4 => exact HC0_1.out); rintro e w32 ⟨rfl, hb⟩; have n0_ := As0.mk (Kd.R_below (by (with_reducible repeat (first | apply Kd.R_alloc | apply Kd.R_drewN | apply Kd.R_drew)); exact HO116.out) hb); have n1_ := As0.mk (Kd.R_below (by (with_reducible repeat (first | apply Kd.R_alloc | apply Kd.R_drewN | apply Kd.R_drew)); exact HO119.out) hb); have n2_ := As0.mk (Kd.R_below (by (with_reducible repeat (first | apply Kd.R_alloc | apply Kd.R_drewN | apply Kd.R_drew)); exact HO124.out) hb); have n3_ := As0.mk (Kd.R_below (by (with_reducible repeat (first | apply Kd.R_alloc | apply Kd.R_drewN | apply Kd.R_drew)); exact HO127.out) hb); have n4_ := As0.mk (blk_below (g := gb113) (o := .cells #[.slice A0_0 l0_0.length c0_0, .slice A0_1 l0_1.length c0_1] 24 (0, 0)) (by (with_reducible repeat (first | refine blk_drewN ?_ _ | refine blk_drew ?_ | refine blk_alloc ?_ _)); exact BK113.out) hb); have n5_ := As0.mk (bst (by repeat (first | (with_reducible first | exact HB.out | apply below_alloc | apply pwd | apply bd1 | refine below_set ?_ GE113.out) | exact HB.out)) hb); clear HO116; clear HO119; clear HO124; clear HO127; clear BK113; clear HB; have HO116 := n0_; have HO119 := n1_; have HO124 := n2_; have HO127 := n3_; have BK113 := n4_; have HB := n5_; clear n0_ n1_ n2_ n3_ n4_ n5_; (try clear hb); (try clear hb2); (try clear hk); (try clear hi); have hcz33_0 : w32.cell? ⟨gb113, 0, none⟩ = some (.slice A0_0 l0_0.length c0_0) := (blk_cell BK113.out 0).trans rfl; have hcz33_1 : w32.cell? ⟨gb113, 1, none⟩ = some (.slice A0_1 l0_1.length c0_1) := (blk_cell BK113.out 1).trans rfl; have hfz33_0 := blk_frozen BK113.out 0; have hfz33_1 := blk_frozen BK113.out 1) | (go_at_call 40; (with_reducible refine (PF.r8State.calls _ _ l0_0 _ _ l0_1 a2 t133 _ ?side1 ?side2 ?side3 ?side4 A28.out).mono ?_); (case side1 => repeat (first | exact (Kd.C_below HR0_0.out HB.out) | (with_reducible refine Kd.C_alloc ?_ _) | (with_reducible refine Kd.C_drewN ?_ _) | (with_reducible refine Kd.C_drew ?_))); (case side2 => exact HC0_0.out); (case side3 => repeat (first | exact (Kd.C_below HR0_1.out HB.out) | (with_reducible refine Kd.C_alloc ?_ _) | (with_reducible refine Kd.C_drewN ?_ _) | (with_reducible refine Kd.C_drew ?_))); (case side4 => exact HC0_1.out); rintro e w34 ⟨rfl, hb⟩; have n0_ := As0.mk (Kd.R_below (by (with_reducible repeat (first | apply Kd.R_alloc | apply Kd.R_drewN | apply Kd.R_drew)); exact HO116.out) hb); have n1_ := As0.mk (Kd.R_below (by (with_reducible repeat (first | apply Kd.R_alloc | apply Kd.R_drewN | apply Kd.R_drew)); exact HO119.out) hb); have n2_ := As0.mk (Kd.R_below (by (with_reducible repeat (first | apply Kd.R_alloc | apply Kd.R_drewN | apply Kd.R_drew)); exact HO124.out) hb); have n3_ := As0.mk (Kd.R_below (by (with_reducible repeat (first | apply Kd.R_alloc | apply Kd.R_drewN | apply Kd.R_drew)); exact HO127.out) hb); have n4_ := As0.mk (blk_below (g := gb113) (o := .cells #[.slice A0_0 l0_0.length c0_0, .slice A0_1 l0_1.length c0_1] 24 (0, 0)) (by (with_reducible repeat (first | refine blk_drewN ?_ _ | refine blk_drew ?_ | refine blk_alloc ?_ _)); exact BK113.out) hb); have n5_ := As0.mk (bst (by repeat (first | (with_reducible first | exact HB.out | apply below_alloc | apply pwd | apply bd1 | refine below_set ?_ GE113.out) | exact HB.out)) hb); clear HO116; clear HO119; clear HO124; clear HO127; clear BK113; clear HB; have HO116 := n0_; have HO119 := n1_; have HO124 := n2_; have HO127 := n3_; have BK113 := n4_; have HB := n5_; clear n0_ n1_ n2_ n3_ n4_ n5_; (try clear hb); (try clear hb2); (try clear hk); (try clear hi)))
      go_meet
      case rel => exact ⟨_, (!t133), (by first | rfl | (simp; done) | (simp [*]; done)), H', ⟨by first | omega | exact Nat.le_refl _⟩, ⟨by (with_reducible repeat (first | refine blk_drewN ?_ _ | refine blk_drew ?_ | refine blk_alloc ?_ _)); exact BK113.out⟩, ⟨by repeat (first | (with_reducible first | exact HB.out | apply below_alloc | apply pwd | apply bd1 | refine below_set ?_ GE113.out) | exact HB.out)⟩⟩
     ·replace c27 := Bool.eq_false_iff.mpr c27
      subst c27
      have H1 : (q8FixesTells.j0 k a1 a2 a3 t120 t121 t128 t129 t130 true l0_0 l0_1) = some r := by rw [if_neg (show ¬ (false = true) by decide)] at H; exact H
      clear H
      have H := H1
      clear H1
      have H' := As0.mk H
      clear H
      have hcz35_0 : w23.cell? ⟨gb113, 0, none⟩ = some (.slice A0_0 l0_0.length c0_0) := (blk_cell BK113.out 0).trans rfl
      have hcz35_1 : w23.cell? ⟨gb113, 1, none⟩ = some (.slice A0_1 l0_1.length c0_1) := (blk_cell BK113.out 1).trans rfl
      have hfz35_0 := blk_frozen BK113.out 0
      have hfz35_1 := blk_frozen BK113.out 1
      go_wp2_with (first | ((with_reducible refine gate_callee (f := 21) rfl ?_); refine goesL_ (some 41) rfl rfl Try.func21 (by kernel_rfl) rfl #[.agg #[.slice A0_0 l0_0.length c0_0, .slice A0_1 l0_1.length c0_1]] rfl (by (try simp only [sm]); first | done | rfl | (simp only [List.length_drop, List.length_take]; rfl)) ?_; (with_reducible refine (PB.r8Valid.calls k _ _ l0_0 _ _ l0_1 true _ ?side1 ?side2 ?side3 ?side4 A24.out).mono ?_); (case side1 => repeat (first | exact (Kd.C_below HR0_0.out HB.out) | (with_reducible refine Kd.C_alloc ?_ _) | (with_reducible refine Kd.C_drewN ?_ _) | (with_reducible refine Kd.C_drew ?_))); (case side2 => exact HC0_0.out); (case side3 => repeat (first | exact (Kd.C_below HR0_1.out HB.out) | (with_reducible refine Kd.C_alloc ?_ _) | (with_reducible refine Kd.C_drewN ?_ _) | (with_reducible refine Kd.C_drew ?_))); (case side4 => exact HC0_1.out); rintro e w36 ⟨rfl, hb⟩; refine ⟨_, rfl, ?_⟩; have n0_ := As0.mk (Kd.R_below (by (with_reducible repeat (first | apply Kd.R_alloc | apply Kd.R_drewN | apply Kd.R_drew)); exact HO116.out) hb); have n1_ := As0.mk (Kd.R_below (by (with_reducible repeat (first | apply Kd.R_alloc | apply Kd.R_drewN | apply Kd.R_drew)); exact HO119.out) hb); have n2_ := As0.mk (Kd.R_below (by (with_reducible repeat (first | apply Kd.R_alloc | apply Kd.R_drewN | apply Kd.R_drew)); exact HO124.out) hb); have n3_ := As0.mk (Kd.R_below (by (with_reducible repeat (first | apply Kd.R_alloc | apply Kd.R_drewN | apply Kd.R_drew)); exact HO127.out) hb); have n4_ := As0.mk (blk_below (g := gb113) (o := .cells #[.slice A0_0 l0_0.length c0_0, .slice A0_1 l0_1.length c0_1] 24 (0, 0)) (by (with_reducible repeat (first | refine blk_drewN ?_ _ | refine blk_drew ?_ | refine blk_alloc ?_ _)); exact BK113.out) hb); have n5_ := As0.mk (bst (by repeat (first | (with_reducible first | exact HB.out | apply below_alloc | apply pwd | apply bd1 | refine below_set ?_ GE113.out) | exact HB.out)) hb); clear HO116; clear HO119; clear HO124; clear HO127; clear BK113; clear HB; have HO116 := n0_; have HO119 := n1_; have HO124 := n2_; have HO127 := n3_; have BK113 := n4_; have HB := n5_; clear n0_ n1_ n2_ n3_ n4_ n5_; (try clear hb); (try clear hb2); (try clear hk); (try clear hi); have hcz37_0 : w36.cell? ⟨gb113, 0, none⟩ = some (.slice A0_0 l0_0.length c0_0) := (blk_cell BK113.out 0).trans rfl; have hcz37_1 : w36.cell? ⟨gb113, 1, none⟩ = some (.slice A0_1 l0_1.length c0_1) := (blk_cell BK113.out 1).trans rfl; have hfz37_0 := blk_frozen BK113.out 0; have hfz37_1 := blk_frozen BK113.out 1) | (go_at_call 40; (with_reducible refine (PF.r8State.calls _ _ l0_0 _ _ l0_1 a1 false _ ?side1 ?side2 ?side3 ?side4 A26.out).mono ?_); (case side1 => repeat (first | exact (Kd.C_below HR0_0.out HB.out) | (with_reducible refine Kd.C_alloc ?_ _) | (with_reducible refine Kd.C_drewN ?_ _) | (with_reducible refine Kd.C_drew ?_))); (case side2 => exact HC0_0.out); (case side3 => repeat (first | exact (Kd.C_below HR0_1.out HB.out) | (with_reducible refine Kd.C_alloc ?_ _) | (with_reducible refine Kd.C_drewN ?_ _) | (with_reducible refine Kd.C_drew ?_))); (case side4 => exact HC0_1.out); rintro e w38 ⟨rfl, hb⟩; have n0_ := As0.mk (Kd.R_below (by (with_reducible repeat (first | apply Kd.R_alloc | apply Kd.R_drewN | apply Kd.R_drew)); exact HO116.out) hb); have n1_ := As0.mk (Kd.R_below (by (with_reducible repeat (first | apply Kd.R_alloc | apply Kd.R_drewN | apply Kd.R_drew)); exact HO119.out) hb); have n2_ := As0.mk (Kd.R_below (by (with_reducible repeat (first | apply Kd.R_alloc | apply Kd.R_drewN | apply Kd.R_drew)); exact HO124.out) hb); have n3_ := As0.mk (Kd.R_below (by (with_reducible repeat (first | apply Kd.R_alloc | apply Kd.R_drewN | apply Kd.R_drew)); exact HO127.out) hb); have n4_ := As0.mk (blk_below (g := gb113) (o := .cells #[.slice A0_0 l0_0.length c0_0, .slice A0_1 l0_1.length c0_1] 24 (0, 0)) (by (with_reducible repeat (first | refine blk_drewN ?_ _ | refine blk_drew ?_ | refine blk_alloc ?_ _)); exact BK113.out) hb); have n5_ := As0.mk (bst (by repeat (first | (with_reducible first | exact HB.out | apply below_alloc | apply pwd | apply bd1 | refine below_set ?_ GE113.out) | exact HB.out)) hb); clear HO116; clear HO119; clear HO124; clear HO127; clear BK113; clear HB; have HO116 := n0_; have HO119 := n1_; have HO124 := n2_; have HO127 := n3_; have BK113 := n4_; have HB := n5_; clear n0_ n1_ n2_ n3_ n4_ n5_; (try clear hb); (try clear hb2); (try clear hk); (try clear hi)))
      go_meet
      case rel => exact ⟨_, (true), (by first | rfl | (simp; done) | (simp [*]; done)), H', ⟨by first | omega | exact Nat.le_refl _⟩, ⟨by (with_reducible repeat (first | refine blk_drewN ?_ _ | refine blk_drew ?_ | refine blk_alloc ?_ _)); exact BK113.out⟩, ⟨by repeat (first | (with_reducible first | exact HB.out | apply below_alloc | apply pwd | apply bd1 | refine below_set ?_ GE113.out) | exact HB.out)⟩⟩
    ·replace c25 := Bool.eq_false_iff.mpr c25
     subst c25
     have H1 : (q8FixesTells.j0 k a1 a2 a3 t120 t121 t128 t129 t130 true l0_0 l0_1) = some r := by rw [if_neg (show ¬ (false = true) by decide)] at H; exact H
     clear H
     have H := H1
     clear H1
     have H' := As0.mk H
     clear H
     have hcz39_0 : w23.cell? ⟨gb113, 0, none⟩ = some (.slice A0_0 l0_0.length c0_0) := (blk_cell BK113.out 0).trans rfl
     have hcz39_1 : w23.cell? ⟨gb113, 1, none⟩ = some (.slice A0_1 l0_1.length c0_1) := (blk_cell BK113.out 1).trans rfl
     have hfz39_0 := blk_frozen BK113.out 0
     have hfz39_1 := blk_frozen BK113.out 1
     go_wp2_with (first | ((with_reducible refine gate_callee (f := 21) rfl ?_); refine goesL_ (some 41) rfl rfl Try.func21 (by kernel_rfl) rfl #[.agg #[.slice A0_0 l0_0.length c0_0, .slice A0_1 l0_1.length c0_1]] rfl (by (try simp only [sm]); first | done | rfl | (simp only [List.length_drop, List.length_take]; rfl)) ?_; (with_reducible refine (PB.r8Valid.calls k _ _ l0_0 _ _ l0_1 false _ ?side1 ?side2 ?side3 ?side4 A24.out).mono ?_); (case side1 => repeat (first | exact (Kd.C_below HR0_0.out HB.out) | (with_reducible refine Kd.C_alloc ?_ _) | (with_reducible refine Kd.C_drewN ?_ _) | (with_reducible refine Kd.C_drew ?_))); (case side2 => exact HC0_0.out); (case side3 => repeat (first | exact (Kd.C_below HR0_1.out HB.out) | (with_reducible refine Kd.C_alloc ?_ _) | (with_reducible refine Kd.C_drewN ?_ _) | (with_reducible refine Kd.C_drew ?_))); (case side4 => exact HC0_1.out); rintro e w40 ⟨rfl, hb⟩; refine ⟨_, rfl, ?_⟩; have n0_ := As0.mk (Kd.R_below (by (with_reducible repeat (first | apply Kd.R_alloc | apply Kd.R_drewN | apply Kd.R_drew)); exact HO116.out) hb); have n1_ := As0.mk (Kd.R_below (by (with_reducible repeat (first | apply Kd.R_alloc | apply Kd.R_drewN | apply Kd.R_drew)); exact HO119.out) hb); have n2_ := As0.mk (Kd.R_below (by (with_reducible repeat (first | apply Kd.R_alloc | apply Kd.R_drewN | apply Kd.R_drew)); exact HO124.out) hb); have n3_ := As0.mk (Kd.R_below (by (with_reducible repeat (first | apply Kd.R_alloc | apply Kd.R_drewN | apply Kd.R_drew)); exact HO127.out) hb); have n4_ := As0.mk (blk_below (g := gb113) (o := .cells #[.slice A0_0 l0_0.length c0_0, .slice A0_1 l0_1.length c0_1] 24 (0, 0)) (by (with_reducible repeat (first | refine blk_drewN ?_ _ | refine blk_drew ?_ | refine blk_alloc ?_ _)); exact BK113.out) hb); have n5_ := As0.mk (bst (by repeat (first | (with_reducible first | exact HB.out | apply below_alloc | apply pwd | apply bd1 | refine below_set ?_ GE113.out) | exact HB.out)) hb); clear HO116; clear HO119; clear HO124; clear HO127; clear BK113; clear HB; have HO116 := n0_; have HO119 := n1_; have HO124 := n2_; have HO127 := n3_; have BK113 := n4_; have HB := n5_; clear n0_ n1_ n2_ n3_ n4_ n5_; (try clear hb); (try clear hb2); (try clear hk); (try clear hi)))
     go_meet
     case rel => exact ⟨_, (true), (by first | rfl | (simp; done) | (simp [*]; done)), H', ⟨by first | omega | exact Nat.le_refl _⟩, ⟨by (with_reducible repeat (first | refine blk_drewN ?_ _ | refine blk_drew ?_ | refine blk_alloc ?_ _)); exact BK113.out⟩, ⟨by repeat (first | (with_reducible first | exact HB.out | apply below_alloc | apply pwd | apply bd1 | refine below_set ?_ GE113.out) | exact HB.out)⟩⟩
   case rest =>
    clear HC12
    try clear c1
    try clear c2
    try clear p2
    try clear c4
    try clear c9
    try clear c9b0
    try clear c9b1
    try clear c10
    try clear c10b0
    try clear c10b1
    try clear c14
    try clear c17
    try clear c21
    try clear c25
    try clear c27
    try clear hcz14_0
    try clear hcz14_1
    try clear hcz29_0
    try clear hcz29_1
    try clear hcz31_0
    try clear hcz31_1
    try clear hcz33_0
    try clear hcz33_1
    try clear hcz35_0
    try clear hcz35_1
    try clear hcz37_0
    try clear hcz37_1
    try clear hcz39_0
    try clear hcz39_1
    try clear hfz14_0
    try clear hfz14_1
    try clear hfz29_0
    try clear hfz29_1
    try clear hfz31_0
    try clear hfz31_1
    try clear hfz33_0
    try clear hfz33_1
    try clear hfz35_0
    try clear hfz35_1
    try clear hfz37_0
    try clear hfz37_1
    try clear hfz39_0
    try clear hfz39_1
    obtain ⟨kq, x54_11, rfl, HA, HJ11, BK113, HB⟩ := hcut
    cases kq with
    | zero => exact absurd HA.out (by simp [q8FixesTells.j0])
    | succ kj11 =>
     have H := HA.out
     clear HA
     simp only [q8FixesTells.j0] at H
     by_cases c41 : x54_11 = true
     ·subst c41
      have H1 : (if t120.toList = ([] : List UInt8) then (if t128 = 0 then (if t129 = true then (some false) else (if t121 = 2 then (if t130 = 2 then ((PB.q8awake.f kj11).bind fun t134 => (some t134)) else (some false)) else (some false))) else (some false)) else (some false)) = some r := by rw [if_pos rfl] at H; exact H
      clear H
      have H := H1
      clear H1
      by_cases c42 : t120.toList = ([] : List UInt8)
      ·rw [if_pos c42] at H
       have c42b0 : (t120.toList == ([] : List UInt8)) = true := beq_iff_eq.mpr c42
       have c42b1 : (t120.toList != ([] : List UInt8)) = false := bne_eq_false_iff_eq.mpr c42
       clear c42
       by_cases c43 : t128 = 0
       ·rw [if_pos c43] at H
        have c43b0 : (t128 == 0) = true := beq_iff_eq.mpr c43
        have c43b1 : (t128 != 0) = false := bne_eq_false_iff_eq.mpr c43
        clear c43
        by_cases c44 : t129 = true
        ·subst c44
         have H1 : (some false) = some r := by rw [if_pos rfl] at H; exact H
         clear H
         have H := H1
         clear H1
         obtain rfl := Option.some.inj H
         go_wp2
         go_ret
         exact ⟨by first | rfl | (simp [errW_none, errW_some] <;> rfl) | (simp only [← hji8]; first | rfl | (simp [errW_none, errW_some] <;> rfl)) | (simp [*, errW_none, errW_some] <;> rfl), by repeat (first | (with_reducible first | exact HB.out | apply below_alloc | apply pwd | apply bd1 | refine below_set ?_ GE113.out) | exact HB.out)⟩
        ·replace c44 := Bool.eq_false_iff.mpr c44
         subst c44
         have H1 : (if t121 = 2 then (if t130 = 2 then ((PB.q8awake.f kj11).bind fun t134 => (some t134)) else (some false)) else (some false)) = some r := by rw [if_neg (show ¬ (false = true) by decide)] at H; exact H
         clear H
         have H := H1
         clear H1
         by_cases c45 : t121 = 2
         ·rw [if_pos c45] at H
          have c45b0 : (t121 == 2) = true := beq_iff_eq.mpr c45
          have c45b1 : (t121 != 2) = false := bne_eq_false_iff_eq.mpr c45
          clear c45
          by_cases c46 : t130 = 2
          ·rw [if_pos c46] at H
           have c46b0 : (t130 == 2) = true := beq_iff_eq.mpr c46
           have c46b1 : (t130 != 2) = false := bne_eq_false_iff_eq.mpr c46
           clear c46
           replace H := Option.bind_eq_some_iff.mp H
           obtain ⟨t134, A470, H⟩ := H
           replace H : (some t134) = some r := H
           have A47 := As0.mk A470
           clear A470
           obtain rfl := Option.some.inj H
           go_wp2_with (first | (go_at_call 22; (with_reducible refine (PB.q8awake.calls kj11  t134 _ A47.out).mono ?_); rintro e w48 ⟨rfl, hb⟩; have n0_ := As0.mk (blk_below (g := gb113) (o := .cells #[.slice A0_0 l0_0.length c0_0, .slice A0_1 l0_1.length c0_1] 24 (0, 0)) (by (with_reducible repeat (first | refine blk_drewN ?_ _ | refine blk_drew ?_ | refine blk_alloc ?_ _)); exact BK113.out) hb); have n1_ := As0.mk (bst (by repeat (first | (with_reducible first | exact HB.out | apply below_alloc | apply pwd | apply bd1 | refine below_set ?_ GE113.out) | exact HB.out)) hb); clear BK113; clear HB; have BK113 := n0_; have HB := n1_; clear n0_ n1_; (try clear hb); (try clear hb2); (try clear hk); (try clear hi)))
           go_ret
           exact ⟨by first | rfl | (simp [errW_none, errW_some] <;> rfl) | (simp only [← hji8]; first | rfl | (simp [errW_none, errW_some] <;> rfl)) | (simp [*, errW_none, errW_some] <;> rfl), by repeat (first | (with_reducible first | exact HB.out | apply below_alloc | apply pwd | apply bd1 | refine below_set ?_ GE113.out) | exact HB.out)⟩
          ·rw [if_neg c46] at H
           have c46b0 : (t130 == 2) = false := beq_eq_false_iff_ne.mpr c46
           have c46b1 : (t130 != 2) = true := bne_iff_ne.mpr c46
           obtain rfl := Option.some.inj H
           go_wp2
           go_ret
           exact ⟨by first | rfl | (simp [errW_none, errW_some] <;> rfl) | (simp only [← hji8]; first | rfl | (simp [errW_none, errW_some] <;> rfl)) | (simp [*, errW_none, errW_some] <;> rfl), by repeat (first | (with_reducible first | exact HB.out | apply below_alloc | apply pwd | apply bd1 | refine below_set ?_ GE113.out) | exact HB.out)⟩
         ·rw [if_neg c45] at H
          have c45b0 : (t121 == 2) = false := beq_eq_false_iff_ne.mpr c45
          have c45b1 : (t121 != 2) = true := bne_iff_ne.mpr c45
          obtain rfl := Option.some.inj H
          go_wp2
          go_ret
          exact ⟨by first | rfl | (simp [errW_none, errW_some] <;> rfl) | (simp only [← hji8]; first | rfl | (simp [errW_none, errW_some] <;> rfl)) | (simp [*, errW_none, errW_some] <;> rfl), by repeat (first | (with_reducible first | exact HB.out | apply below_alloc | apply pwd | apply bd1 | refine below_set ?_ GE113.out) | exact HB.out)⟩
       ·rw [if_neg c43] at H
        have c43b0 : (t128 == 0) = false := beq_eq_false_iff_ne.mpr c43
        have c43b1 : (t128 != 0) = true := bne_iff_ne.mpr c43
        obtain rfl := Option.some.inj H
        go_wp2
        go_ret
        exact ⟨by first | rfl | (simp [errW_none, errW_some] <;> rfl) | (simp only [← hji8]; first | rfl | (simp [errW_none, errW_some] <;> rfl)) | (simp [*, errW_none, errW_some] <;> rfl), by repeat (first | (with_reducible first | exact HB.out | apply below_alloc | apply pwd | apply bd1 | refine below_set ?_ GE113.out) | exact HB.out)⟩
      ·rw [if_neg c42] at H
       have c42b0 : (t120.toList == ([] : List UInt8)) = false := beq_eq_false_iff_ne.mpr c42
       have c42b1 : (t120.toList != ([] : List UInt8)) = true := bne_iff_ne.mpr c42
       obtain rfl := Option.some.inj H
       go_wp2
       go_ret
       exact ⟨by first | rfl | (simp [errW_none, errW_some] <;> rfl) | (simp only [← hji8]; first | rfl | (simp [errW_none, errW_some] <;> rfl)) | (simp [*, errW_none, errW_some] <;> rfl), by repeat (first | (with_reducible first | exact HB.out | apply below_alloc | apply pwd | apply bd1 | refine below_set ?_ GE113.out) | exact HB.out)⟩
     ·replace c41 := Bool.eq_false_iff.mpr c41
      subst c41
      have H1 : ((PF.r8Alike.f kj11 l0_0 l0_1 a1 a2).bind fun t135 => (if t135 = true then (if t120.toList = ([] : List UInt8) then (q8FixesTells.j1 kj11 a1 a2 a3 t128 t129 t130 (t121 != 4) l0_0 l0_1) else (q8FixesTells.j1 kj11 a1 a2 a3 t128 t129 t130 true l0_0 l0_1)) else ((r8Told.f kj11 l0_0 l0_1 a1 a2 t120).bind fun bt139 => (if t121 = 0 then (if bt139.2 = true then ((r8Depth.f kj11 l0_0 l0_1 a1 a2).bind fun t141 => (q8FixesTells.j2 kj11 a1 a2 a3 t128 t129 t130 (bt139.1 != t141) l0_0 l0_1)) else (q8FixesTells.j2 kj11 a1 a2 a3 t128 t129 t130 true l0_0 l0_1)) else (q8FixesTells.j2 kj11 a1 a2 a3 t128 t129 t130 true l0_0 l0_1))))) = some r := by rw [if_neg (show ¬ (false = true) by decide)] at H; exact H
      clear H
      have H := H1
      clear H1
      replace H := Option.bind_eq_some_iff.mp H
      obtain ⟨t135, A490, H⟩ := H
      replace H : (if t135 = true then (if t120.toList = ([] : List UInt8) then (q8FixesTells.j1 kj11 a1 a2 a3 t128 t129 t130 (t121 != 4) l0_0 l0_1) else (q8FixesTells.j1 kj11 a1 a2 a3 t128 t129 t130 true l0_0 l0_1)) else ((r8Told.f kj11 l0_0 l0_1 a1 a2 t120).bind fun bt139 => (if t121 = 0 then (if bt139.2 = true then ((r8Depth.f kj11 l0_0 l0_1 a1 a2).bind fun t141 => (q8FixesTells.j2 kj11 a1 a2 a3 t128 t129 t130 (bt139.1 != t141) l0_0 l0_1)) else (q8FixesTells.j2 kj11 a1 a2 a3 t128 t129 t130 true l0_0 l0_1)) else (q8FixesTells.j2 kj11 a1 a2 a3 t128 t129 t130 true l0_0 l0_1)))) = some r := H
      have A49 := As0.mk A490
      clear A490
      by_cases c50 : t135 = true
      ·subst c50
       have H1 : (if t120.toList = ([] : List UInt8) then (q8FixesTells.j1 kj11 a1 a2 a3 t128 t129 t130 (t121 != 4) l0_0 l0_1) else (q8FixesTells.j1 kj11 a1 a2 a3 t128 t129 t130 true l0_0 l0_1)) = some r := by rw [if_pos rfl] at H; exact H
       clear H
       have H := H1
       clear H1
       have HC51 := As0.mk H
       clear H
       have hcz52_0 : wc.cell? ⟨gb113, 0, none⟩ = some (.slice A0_0 l0_0.length c0_0) := (blk_cell BK113.out 0).trans rfl
       have hcz52_1 : wc.cell? ⟨gb113, 1, none⟩ = some (.slice A0_1 l0_1.length c0_1) := (blk_cell BK113.out 1).trans rfl
       have hfz52_0 := blk_frozen BK113.out 0
       have hfz52_1 := blk_frozen BK113.out 1
       go_upto_region 6 with (first | ((with_reducible refine gate_callee (f := 41) rfl ?_); refine goesL_ (some 79) rfl rfl Try.func41 (by kernel_rfl) rfl #[.agg #[.slice A0_0 l0_0.length c0_0, .slice A0_1 l0_1.length c0_1], .int .i64 a1, .int .i64 a2] rfl (by (try simp only [sm]); first | done | rfl | (simp only [List.length_drop, List.length_take]; rfl)) ?_; (with_reducible refine (PF.r8Alike.calls kj11 _ _ l0_0 _ _ l0_1 a1 a2 true _ ?side1 ?side2 ?side3 ?side4 A49.out).mono ?_); (case side1 => repeat (first | exact (Kd.C_below HR0_0.out HB.out) | (with_reducible refine Kd.C_alloc ?_ _) | (with_reducible refine Kd.C_drewN ?_ _) | (with_reducible refine Kd.C_drew ?_))); (case side2 => exact HC0_0.out); (case side3 => repeat (first | exact (Kd.C_below HR0_1.out HB.out) | (with_reducible refine Kd.C_alloc ?_ _) | (with_reducible refine Kd.C_drewN ?_ _) | (with_reducible refine Kd.C_drew ?_))); (case side4 => exact HC0_1.out); rintro e w53 ⟨rfl, hb⟩; refine ⟨_, rfl, ?_⟩; have n0_ := As0.mk (blk_below (g := gb113) (o := .cells #[.slice A0_0 l0_0.length c0_0, .slice A0_1 l0_1.length c0_1] 24 (0, 0)) (by (with_reducible repeat (first | refine blk_drewN ?_ _ | refine blk_drew ?_ | refine blk_alloc ?_ _)); exact BK113.out) hb); have n1_ := As0.mk (bst (by repeat (first | (with_reducible first | exact HB.out | apply below_alloc | apply pwd | apply bd1 | refine below_set ?_ GE113.out) | exact HB.out)) hb); clear BK113; clear HB; have BK113 := n0_; have HB := n1_; clear n0_ n1_; (try clear hb); (try clear hb2); (try clear hk); (try clear hi)))
       (try simp only [Act.put, List.setIfInBounds_toArray, List.set_cons_zero, List.set_cons_succ])
       go_cut [85] (fun v85 wc => ∃ (kq : Nat) (x85_50 : Bool), v85 = .bool x85_50 ∧ As0 (q8FixesTells.j1 kq a1 a2 a3 t128 t129 t130 x85_50 l0_0 l0_1 = some r) ∧ As0 (kq ≤ kj11) ∧ As0 (wc.heap[gb113]? = some (.cells #[(.slice A0_0 l0_0.length c0_0), (.slice A0_1 l0_1.length c0_1)] 24 (0, 0))) ∧ As0 (Below w.heap.size w wc))
       case first =>
        have H := HC51.out
        clear HC51
        by_cases c54 : t120.toList = ([] : List UInt8)
        ·rw [if_pos c54] at H
         have c54b0 : (t120.toList == ([] : List UInt8)) = true := beq_iff_eq.mpr c54
         have c54b1 : (t120.toList != ([] : List UInt8)) = false := bne_eq_false_iff_eq.mpr c54
         clear c54
         (first | rw [c54b0] | (simp only [i64_w, i32_w]; rw [c54b0]) | skip)
         have H' := As0.mk H
         clear H
         go_wp2
         go_meet
         case rel => exact ⟨_, ((t121 != 4)), (by first | rfl | (simp; done) | (simp [*]; done)), H', ⟨by have := HJ11.out; first | omega | exact Nat.le_refl _⟩, ⟨by (with_reducible repeat (first | refine blk_drewN ?_ _ | refine blk_drew ?_ | refine blk_alloc ?_ _)); exact BK113.out⟩, ⟨by repeat (first | (with_reducible first | exact HB.out | apply below_alloc | apply pwd | apply bd1 | refine below_set ?_ GE113.out) | exact HB.out)⟩⟩
        ·rw [if_neg c54] at H
         have c54b0 : (t120.toList == ([] : List UInt8)) = false := beq_eq_false_iff_ne.mpr c54
         have c54b1 : (t120.toList != ([] : List UInt8)) = true := bne_iff_ne.mpr c54
         (first | rw [c54b0] | (simp only [i64_w, i32_w]; rw [c54b0]) | skip)
         have H' := As0.mk H
         clear H
         go_wp2
         go_meet
         case rel => exact ⟨_, (true), (by first | rfl | (simp; done) | (simp [*]; done)), H', ⟨by have := HJ11.out; first | omega | exact Nat.le_refl _⟩, ⟨by (with_reducible repeat (first | refine blk_drewN ?_ _ | refine blk_drew ?_ | refine blk_alloc ?_ _)); exact BK113.out⟩, ⟨by repeat (first | (with_reducible first | exact HB.out | apply below_alloc | apply pwd | apply bd1 | refine below_set ?_ GE113.out) | exact HB.out)⟩⟩
       case rest =>
        clear HC51
        try clear c1
        try clear c2
        try clear p2
        try clear c4
        try clear c5
        try clear c9
        try clear c9b0
        try clear c9b1
        try clear c10
        try clear c10b0
        try clear c10b1
        try clear c14
        try clear c17
        try clear c21
        try clear c25
        try clear c27
        try clear c41
        try clear c42
        try clear c42b0
        try clear c42b1
        try clear c43
        try clear c43b0
        try clear c43b1
        try clear c44
        try clear c45
        try clear c45b0
        try clear c45b1
        try clear c46
        try clear c46b0
        try clear c46b1
        try clear c50
        try clear c54
        try clear c54b0
        try clear c54b1
        try clear hcz14_0
        try clear hcz14_1
        try clear hcz29_0
        try clear hcz29_1
        try clear hcz31_0
        try clear hcz31_1
        try clear hcz33_0
        try clear hcz33_1
        try clear hcz35_0
        try clear hcz35_1
        try clear hcz37_0
        try clear hcz37_1
        try clear hcz39_0
        try clear hcz39_1
        try clear hcz52_0
        try clear hcz52_1
        try clear hfz14_0
        try clear hfz14_1
        try clear hfz29_0
        try clear hfz29_1
        try clear hfz31_0
        try clear hfz31_1
        try clear hfz33_0
        try clear hfz33_1
        try clear hfz35_0
        try clear hfz35_1
        try clear hfz37_0
        try clear hfz37_1
        try clear hfz39_0
        try clear hfz39_1
        try clear hfz52_0
        try clear hfz52_1
        try clear p2
        obtain ⟨kq, x85_50, rfl, HA, HJ50, BK113, HB⟩ := hcut
        cases kq with
        | zero => exact absurd HA.out (by simp [q8FixesTells.j1])
        | succ kj50 =>
         have H := HA.out
         clear HA
         simp only [q8FixesTells.j1] at H
         by_cases c55 : x85_50 = true
         ·subst c55
          have H1 : (some false) = some r := by rw [if_pos rfl] at H; exact H
          clear H
          have H := H1
          clear H1
          obtain rfl := Option.some.inj H
          go_wp2
          go_ret
          exact ⟨by first | rfl | (simp [errW_none, errW_some] <;> rfl) | (simp only [← hji8]; first | rfl | (simp [errW_none, errW_some] <;> rfl)) | (simp [*, errW_none, errW_some] <;> rfl), by repeat (first | (with_reducible first | exact HB.out | apply below_alloc | apply pwd | apply bd1 | refine below_set ?_ GE113.out) | exact HB.out)⟩
         ·replace c55 := Bool.eq_false_iff.mpr c55
          subst c55
          have H1 : ((r8Told.f kj50 l0_0 l0_1 a1 a2 a3).bind fun bt136 => (if t128 = bt136.1 then (if (t129 == bt136.2) = true then (if t130 = 0 then ((PB.q8awake.f kj50).bind fun t138 => (some t138)) else (some false)) else (some false)) else (some false))) = some r := by rw [if_neg (show ¬ (false = true) by decide)] at H; exact H
          clear H
          have H := H1
          clear H1
          replace H := Option.bind_eq_some_iff.mp H
          obtain ⟨⟨t136, t137⟩, A560, H⟩ := H
          replace H : (if t128 = t136 then (if (t129 == t137) = true then (if t130 = 0 then ((PB.q8awake.f kj50).bind fun t138 => (some t138)) else (some false)) else (some false)) else (some false)) = some r := H
          have A56 := As0.mk A560
          clear A560
          by_cases c57 : t128 = t136
          ·rw [if_pos c57] at H
           have c57b0 : (t128 == t136) = true := beq_iff_eq.mpr c57
           have c57b1 : (t128 != t136) = false := bne_eq_false_iff_eq.mpr c57
           clear c57
           by_cases c58 : (t129 == t137) = true
           ·rw [if_pos c58] at H
            have c58b0 : (t129 == t137) = true := c58
            (try (have c58b1 : decide (t129 = t137) = true := by simpa using c58))
            (try (have c58b2 : (t129 == t137) = true := by simpa using c58))
            clear c58
            by_cases c59 : t130 = 0
            ·rw [if_pos c59] at H
             have c59b0 : (t130 == 0) = true := beq_iff_eq.mpr c59
             have c59b1 : (t130 != 0) = false := bne_eq_false_iff_eq.mpr c59
             clear c59
             replace H := Option.bind_eq_some_iff.mp H
             obtain ⟨t138, A600, H⟩ := H
             replace H : (some t138) = some r := H
             have A60 := As0.mk A600
             clear A600
             obtain rfl := Option.some.inj H
             have hcz61_0 : wc.cell? ⟨gb113, 0, none⟩ = some (.slice A0_0 l0_0.length c0_0) := (blk_cell BK113.out 0).trans rfl
             have hcz61_1 : wc.cell? ⟨gb113, 1, none⟩ = some (.slice A0_1 l0_1.length c0_1) := (blk_cell BK113.out 1).trans rfl
             have hfz61_0 := blk_frozen BK113.out 0
             have hfz61_1 := blk_frozen BK113.out 1
             go_wp2_with (first | ((with_reducible refine gate_callee (f := 44) rfl ?_); refine goesL_ (some 113) rfl rfl Try.func44 (by kernel_rfl) rfl #[.agg #[.slice A0_0 l0_0.length c0_0, .slice A0_1 l0_1.length c0_1], .int .i64 a1, .int .i64 a2, .string a3] rfl (by (try simp only [sm]); first | done | rfl | (simp only [List.length_drop, List.length_take]; rfl)) ?_; (with_reducible refine (r8Told.calls kj50 _ _ l0_0 _ _ l0_1 a1 a2 a3 t136 t137 _ ?side1 ?side2 ?side3 ?side4 A56.out).mono ?_); (case side1 => repeat (first | exact (Kd.C_below HR0_0.out HB.out) | (with_reducible refine Kd.C_alloc ?_ _) | (with_reducible refine Kd.C_drewN ?_ _) | (with_reducible refine Kd.C_drew ?_))); (case side2 => exact HC0_0.out); (case side3 => repeat (first | exact (Kd.C_below HR0_1.out HB.out) | (with_reducible refine Kd.C_alloc ?_ _) | (with_reducible refine Kd.C_drewN ?_ _) | (with_reducible refine Kd.C_drew ?_))); (case side4 => exact HC0_1.out); rintro e w62 ⟨rfl, hb⟩; refine ⟨_, rfl, ?_⟩; have n0_ := As0.mk (blk_below (g := gb113) (o := .cells #[.slice A0_0 l0_0.length c0_0, .slice A0_1 l0_1.length c0_1] 24 (0, 0)) (by (with_reducible repeat (first | refine blk_drewN ?_ _ | refine blk_drew ?_ | refine blk_alloc ?_ _)); exact BK113.out) hb); have n1_ := As0.mk (bst (by repeat (first | (with_reducible first | exact HB.out | apply below_alloc | apply pwd | apply bd1 | refine below_set ?_ GE113.out) | exact HB.out)) hb); clear BK113; clear HB; have BK113 := n0_; have HB := n1_; clear n0_ n1_; (try clear hb); (try clear hb2); (try clear hk); (try clear hi)) | (go_at_call 22; (with_reducible refine (PB.q8awake.calls kj50  t138 _ A60.out).mono ?_); rintro e w63 ⟨rfl, hb⟩; have n0_ := As0.mk (blk_below (g := gb113) (o := .cells #[.slice A0_0 l0_0.length c0_0, .slice A0_1 l0_1.length c0_1] 24 (0, 0)) (by (with_reducible repeat (first | refine blk_drewN ?_ _ | refine blk_drew ?_ | refine blk_alloc ?_ _)); exact BK113.out) hb); have n1_ := As0.mk (bst (by repeat (first | (with_reducible first | exact HB.out | apply below_alloc | apply pwd | apply bd1 | refine below_set ?_ GE113.out) | exact HB.out)) hb); clear BK113; clear HB; have BK113 := n0_; have HB := n1_; clear n0_ n1_; (try clear hb); (try clear hb2); (try clear hk); (try clear hi)))
             go_ret
             exact ⟨by first | rfl | (simp [errW_none, errW_some] <;> rfl) | (simp only [← hji8]; first | rfl | (simp [errW_none, errW_some] <;> rfl)) | (simp [*, errW_none, errW_some] <;> rfl), by repeat (first | (with_reducible first | exact HB.out | apply below_alloc | apply pwd | apply bd1 | refine below_set ?_ GE113.out) | exact HB.out)⟩
            ·rw [if_neg c59] at H
             have c59b0 : (t130 == 0) = false := beq_eq_false_iff_ne.mpr c59
             have c59b1 : (t130 != 0) = true := bne_iff_ne.mpr c59
             obtain rfl := Option.some.inj H
             have hcz64_0 : wc.cell? ⟨gb113, 0, none⟩ = some (.slice A0_0 l0_0.length c0_0) := (blk_cell BK113.out 0).trans rfl
             have hcz64_1 : wc.cell? ⟨gb113, 1, none⟩ = some (.slice A0_1 l0_1.length c0_1) := (blk_cell BK113.out 1).trans rfl
             have hfz64_0 := blk_frozen BK113.out 0
             have hfz64_1 := blk_frozen BK113.out 1
             go_wp2_with (first | ((with_reducible refine gate_callee (f := 44) rfl ?_); refine goesL_ (some 113) rfl rfl Try.func44 (by kernel_rfl) rfl #[.agg #[.slice A0_0 l0_0.length c0_0, .slice A0_1 l0_1.length c0_1], .int .i64 a1, .int .i64 a2, .string a3] rfl (by (try simp only [sm]); first | done | rfl | (simp only [List.length_drop, List.length_take]; rfl)) ?_; (with_reducible refine (r8Told.calls kj50 _ _ l0_0 _ _ l0_1 a1 a2 a3 t136 t137 _ ?side1 ?side2 ?side3 ?side4 A56.out).mono ?_); (case side1 => repeat (first | exact (Kd.C_below HR0_0.out HB.out) | (with_reducible refine Kd.C_alloc ?_ _) | (with_reducible refine Kd.C_drewN ?_ _) | (with_reducible refine Kd.C_drew ?_))); (case side2 => exact HC0_0.out); (case side3 => repeat (first | exact (Kd.C_below HR0_1.out HB.out) | (with_reducible refine Kd.C_alloc ?_ _) | (with_reducible refine Kd.C_drewN ?_ _) | (with_reducible refine Kd.C_drew ?_))); (case side4 => exact HC0_1.out); rintro e w65 ⟨rfl, hb⟩; refine ⟨_, rfl, ?_⟩; have n0_ := As0.mk (blk_below (g := gb113) (o := .cells #[.slice A0_0 l0_0.length c0_0, .slice A0_1 l0_1.length c0_1] 24 (0, 0)) (by (with_reducible repeat (first | refine blk_drewN ?_ _ | refine blk_drew ?_ | refine blk_alloc ?_ _)); exact BK113.out) hb); have n1_ := As0.mk (bst (by repeat (first | (with_reducible first | exact HB.out | apply below_alloc | apply pwd | apply bd1 | refine below_set ?_ GE113.out) | exact HB.out)) hb); clear BK113; clear HB; have BK113 := n0_; have HB := n1_; clear n0_ n1_; (try clear hb); (try clear hb2); (try clear hk); (try clear hi)))
             go_ret
             exact ⟨by first | rfl | (simp [errW_none, errW_some] <;> rfl) | (simp only [← hji8]; first | rfl | (simp [errW_none, errW_some] <;> rfl)) | (simp [*, errW_none, errW_some] <;> rfl), by repeat (first | (with_reducible first | exact HB.out | apply below_alloc | apply pwd | apply bd1 | refine below_set ?_ GE113.out) | exact HB.out)⟩
           ·rw [if_neg c58] at H
            have c58b0 : (t129 == t137) = false := by simpa using c58
            (try (have c58b1 : decide (t129 = t137) = false := by simpa using c58))
            (try (have c58b2 : (t129 == t137) = false := by simpa using c58))
            (try (have c58b3 : ¬ (t129 = t137) := by simpa using c58))
            clear c58
            obtain rfl := Option.some.inj H
            have hcz66_0 : wc.cell? ⟨gb113, 0, none⟩ = some (.slice A0_0 l0_0.length c0_0) := (blk_cell BK113.out 0).trans rfl
            have hcz66_1 : wc.cell? ⟨gb113, 1, none⟩ = some (.slice A0_1 l0_1.length c0_1) := (blk_cell BK113.out 1).trans rfl
            have hfz66_0 := blk_frozen BK113.out 0
            have hfz66_1 := blk_frozen BK113.out 1
            go_wp2_with (first | ((with_reducible refine gate_callee (f := 44) rfl ?_); refine goesL_ (some 113) rfl rfl Try.func44 (by kernel_rfl) rfl #[.agg #[.slice A0_0 l0_0.length c0_0, .slice A0_1 l0_1.length c0_1], .int .i64 a1, .int .i64 a2, .string a3] rfl (by (try simp only [sm]); first | done | rfl | (simp only [List.length_drop, List.length_take]; rfl)) ?_; (with_reducible refine (r8Told.calls kj50 _ _ l0_0 _ _ l0_1 a1 a2 a3 t136 t137 _ ?side1 ?side2 ?side3 ?side4 A56.out).mono ?_); (case side1 => repeat (first | exact (Kd.C_below HR0_0.out HB.out) | (with_reducible refine Kd.C_alloc ?_ _) | (with_reducible refine Kd.C_drewN ?_ _) | (with_reducible refine Kd.C_drew ?_))); (case side2 => exact HC0_0.out); (case side3 => repeat (first | exact (Kd.C_below HR0_1.out HB.out) | (with_reducible refine Kd.C_alloc ?_ _) | (with_reducible refine Kd.C_drewN ?_ _) | (with_reducible refine Kd.C_drew ?_))); (case side4 => exact HC0_1.out); rintro e w67 ⟨rfl, hb⟩; refine ⟨_, rfl, ?_⟩; have n0_ := As0.mk (blk_below (g := gb113) (o := .cells #[.slice A0_0 l0_0.length c0_0, .slice A0_1 l0_1.length c0_1] 24 (0, 0)) (by (with_reducible repeat (first | refine blk_drewN ?_ _ | refine blk_drew ?_ | refine blk_alloc ?_ _)); exact BK113.out) hb); have n1_ := As0.mk (bst (by repeat (first | (with_reducible first | exact HB.out | apply below_alloc | apply pwd | apply bd1 | refine below_set ?_ GE113.out) | exact HB.out)) hb); clear BK113; clear HB; have BK113 := n0_; have HB := n1_; clear n0_ n1_; (try clear hb); (try clear hb2); (try clear hk); (try clear hi)))
            go_ret
            exact ⟨by first | rfl | (simp [errW_none, errW_some] <;> rfl) | (simp only [← hji8]; first | rfl | (simp [errW_none, errW_some] <;> rfl)) | (simp [*, errW_none, errW_some] <;> rfl), by repeat (first | (with_reducible first | exact HB.out | apply below_alloc | apply pwd | apply bd1 | refine below_set ?_ GE113.out) | exact HB.out)⟩
          ·rw [if_neg c57] at H
           have c57b0 : (t128 == t136) = false := beq_eq_false_iff_ne.mpr c57
           have c57b1 : (t128 != t136) = true := bne_iff_ne.mpr c57
           obtain rfl := Option.some.inj H
           have hcz68_0 : wc.cell? ⟨gb113, 0, none⟩ = some (.slice A0_0 l0_0.length c0_0) := (blk_cell BK113.out 0).trans rfl
           have hcz68_1 : wc.cell? ⟨gb113, 1, none⟩ = some (.slice A0_1 l0_1.length c0_1) := (blk_cell BK113.out 1).trans rfl
           have hfz68_0 := blk_frozen BK113.out 0
           have hfz68_1 := blk_frozen BK113.out 1
           go_wp2_with (first | ((with_reducible refine gate_callee (f := 44) rfl ?_); refine goesL_ (some 113) rfl rfl Try.func44 (by kernel_rfl) rfl #[.agg #[.slice A0_0 l0_0.length c0_0, .slice A0_1 l0_1.length c0_1], .int .i64 a1, .int .i64 a2, .string a3] rfl (by (try simp only [sm]); first | done | rfl | (simp only [List.length_drop, List.length_take]; rfl)) ?_; (with_reducible refine (r8Told.calls kj50 _ _ l0_0 _ _ l0_1 a1 a2 a3 t136 t137 _ ?side1 ?side2 ?side3 ?side4 A56.out).mono ?_); (case side1 => repeat (first | exact (Kd.C_below HR0_0.out HB.out) | (with_reducible refine Kd.C_alloc ?_ _) | (with_reducible refine Kd.C_drewN ?_ _) | (with_reducible refine Kd.C_drew ?_))); (case side2 => exact HC0_0.out); (case side3 => repeat (first | exact (Kd.C_below HR0_1.out HB.out) | (with_reducible refine Kd.C_alloc ?_ _) | (with_reducible refine Kd.C_drewN ?_ _) | (with_reducible refine Kd.C_drew ?_))); (case side4 => exact HC0_1.out); rintro e w69 ⟨rfl, hb⟩; refine ⟨_, rfl, ?_⟩; have n0_ := As0.mk (blk_below (g := gb113) (o := .cells #[.slice A0_0 l0_0.length c0_0, .slice A0_1 l0_1.length c0_1] 24 (0, 0)) (by (with_reducible repeat (first | refine blk_drewN ?_ _ | refine blk_drew ?_ | refine blk_alloc ?_ _)); exact BK113.out) hb); have n1_ := As0.mk (bst (by repeat (first | (with_reducible first | exact HB.out | apply below_alloc | apply pwd | apply bd1 | refine below_set ?_ GE113.out) | exact HB.out)) hb); clear BK113; clear HB; have BK113 := n0_; have HB := n1_; clear n0_ n1_; (try clear hb); (try clear hb2); (try clear hk); (try clear hi)))
           go_ret
           exact ⟨by first | rfl | (simp [errW_none, errW_some] <;> rfl) | (simp only [← hji8]; first | rfl | (simp [errW_none, errW_some] <;> rfl)) | (simp [*, errW_none, errW_some] <;> rfl), by repeat (first | (with_reducible first | exact HB.out | apply below_alloc | apply pwd | apply bd1 | refine below_set ?_ GE113.out) | exact HB.out)⟩
      ·replace c50 := Bool.eq_false_iff.mpr c50
       subst c50
       have H1 : ((r8Told.f kj11 l0_0 l0_1 a1 a2 t120).bind fun bt139 => (if t121 = 0 then (if bt139.2 = true then ((r8Depth.f kj11 l0_0 l0_1 a1 a2).bind fun t141 => (q8FixesTells.j2 kj11 a1 a2 a3 t128 t129 t130 (bt139.1 != t141) l0_0 l0_1)) else (q8FixesTells.j2 kj11 a1 a2 a3 t128 t129 t130 true l0_0 l0_1)) else (q8FixesTells.j2 kj11 a1 a2 a3 t128 t129 t130 true l0_0 l0_1))) = some r := by rw [if_neg (show ¬ (false = true) by decide)] at H; exact H
       clear H
       have H := H1
       clear H1
       replace H := Option.bind_eq_some_iff.mp H
       obtain ⟨⟨t139, t140⟩, A700, H⟩ := H
       replace H : (if t121 = 0 then (if t140 = true then ((r8Depth.f kj11 l0_0 l0_1 a1 a2).bind fun t141 => (q8FixesTells.j2 kj11 a1 a2 a3 t128 t129 t130 (t139 != t141) l0_0 l0_1)) else (q8FixesTells.j2 kj11 a1 a2 a3 t128 t129 t130 true l0_0 l0_1)) else (q8FixesTells.j2 kj11 a1 a2 a3 t128 t129 t130 true l0_0 l0_1)) = some r := H
       have A70 := As0.mk A700
       clear A700
       have HC71 := As0.mk H
       clear H
       have hcz72_0 : wc.cell? ⟨gb113, 0, none⟩ = some (.slice A0_0 l0_0.length c0_0) := (blk_cell BK113.out 0).trans rfl
       have hcz72_1 : wc.cell? ⟨gb113, 1, none⟩ = some (.slice A0_1 l0_1.length c0_1) := (blk_cell BK113.out 1).trans rfl
       have hfz72_0 := blk_frozen BK113.out 0
       have hfz72_1 := blk_frozen BK113.out 1
       go_upto_region 9 with (first | ((with_reducible refine gate_callee (f := 41) rfl ?_); refine goesL_ (some 79) rfl rfl Try.func41 (by kernel_rfl) rfl #[.agg #[.slice A0_0 l0_0.length c0_0, .slice A0_1 l0_1.length c0_1], .int .i64 a1, .int .i64 a2] rfl (by (try simp only [sm]); first | done | rfl | (simp only [List.length_drop, List.length_take]; rfl)) ?_; (with_reducible refine (PF.r8Alike.calls kj11 _ _ l0_0 _ _ l0_1 a1 a2 false _ ?side1 ?side2 ?side3 ?side4 A49.out).mono ?_); (case side1 => repeat (first | exact (Kd.C_below HR0_0.out HB.out) | (with_reducible refine Kd.C_alloc ?_ _) | (with_reducible refine Kd.C_drewN ?_ _) | (with_reducible refine Kd.C_drew ?_))); (case side2 => exact HC0_0.out); (case side3 => repeat (first | exact (Kd.C_below HR0_1.out HB.out) | (with_reducible refine Kd.C_alloc ?_ _) | (with_reducible refine Kd.C_drewN ?_ _) | (with_reducible refine Kd.C_drew ?_))); (case side4 => exact HC0_1.out); rintro e w73 ⟨rfl, hb⟩; refine ⟨_, rfl, ?_⟩; have n0_ := As0.mk (blk_below (g := gb113) (o := .cells #[.slice A0_0 l0_0.length c0_0, .slice A0_1 l0_1.length c0_1] 24 (0, 0)) (by (with_reducible repeat (first | refine blk_drewN ?_ _ | refine blk_drew ?_ | refine blk_alloc ?_ _)); exact BK113.out) hb); have n1_ := As0.mk (bst (by repeat (first | (with_reducible first | exact HB.out | apply below_alloc | apply pwd | apply bd1 | refine below_set ?_ GE113.out) | exact HB.out)) hb); clear BK113; clear HB; have BK113 := n0_; have HB := n1_; clear n0_ n1_; (try clear hb); (try clear hb2); (try clear hk); (try clear hi); have hcz74_0 : w73.cell? ⟨gb113, 0, none⟩ = some (.slice A0_0 l0_0.length c0_0) := (blk_cell BK113.out 0).trans rfl; have hcz74_1 : w73.cell? ⟨gb113, 1, none⟩ = some (.slice A0_1 l0_1.length c0_1) := (blk_cell BK113.out 1).trans rfl; have hfz74_0 := blk_frozen BK113.out 0; have hfz74_1 := blk_frozen BK113.out 1) | ((with_reducible refine gate_callee (f := 44) rfl ?_); refine goesL_ (some 91) rfl rfl Try.func44 (by kernel_rfl) rfl #[.agg #[.slice A0_0 l0_0.length c0_0, .slice A0_1 l0_1.length c0_1], .int .i64 a1, .int .i64 a2, .string t120] rfl (by (try simp only [sm]); first | done | rfl | (simp only [List.length_drop, List.length_take]; rfl)) ?_; (with_reducible refine (r8Told.calls kj11 _ _ l0_0 _ _ l0_1 a1 a2 t120 t139 t140 _ ?side1 ?side2 ?side3 ?side4 A70.out).mono ?_); (case side1 => repeat (first | exact (Kd.C_below HR0_0.out HB.out) | (with_reducible refine Kd.C_alloc ?_ _) | (with_reducible refine Kd.C_drewN ?_ _) | (with_reducible refine Kd.C_drew ?_))); (case side2 => exact HC0_0.out); (case side3 => repeat (first | exact (Kd.C_below HR0_1.out HB.out) | (with_reducible refine Kd.C_alloc ?_ _) | (with_reducible refine Kd.C_drewN ?_ _) | (with_reducible refine Kd.C_drew ?_))); (case side4 => exact HC0_1.out); rintro e w75 ⟨rfl, hb⟩; refine ⟨_, rfl, ?_⟩; have n0_ := As0.mk (blk_below (g := gb113) (o := .cells #[.slice A0_0 l0_0.length c0_0, .slice A0_1 l0_1.length c0_1] 24 (0, 0)) (by (with_reducible repeat (first | refine blk_drewN ?_ _ | refine blk_drew ?_ | refine blk_alloc ?_ _)); exact BK113.out) hb); have n1_ := As0.mk (bst (by repeat (first | (with_reducible first | exact HB.out | apply below_alloc | apply pwd | apply bd1 | refine below_set ?_ GE113.out) | exact HB.out)) hb); clear BK113; clear HB; have BK113 := n0_; have HB := n1_; clear n0_ n1_; (try clear hb); (try clear hb2); (try clear hk); (try clear hi)))
       (try simp only [Act.put, List.setIfInBounds_toArray, List.set_cons_zero, List.set_cons_succ])
       go_cut [107] (fun v107 wc => ∃ (kq : Nat) (x107_70 : Bool), v107 = .bool x107_70 ∧ As0 (q8FixesTells.j2 kq a1 a2 a3 t128 t129 t130 x107_70 l0_0 l0_1 = some r) ∧ As0 (kq ≤ kj11) ∧ As0 (wc.heap[gb113]? = some (.cells #[(.slice A0_0 l0_0.length c0_0), (.slice A0_1 l0_1.length c0_1)] 24 (0, 0))) ∧ As0 (Below w.heap.size w wc))
       case first =>
        have H := HC71.out
        clear HC71
        by_cases c76 : t121 = 0
        ·rw [if_pos c76] at H
         have c76b0 : (t121 == 0) = true := beq_iff_eq.mpr c76
         have c76b1 : (t121 != 0) = false := bne_eq_false_iff_eq.mpr c76
         clear c76
         (first | rw [c76b0] | (simp only [i64_w, i32_w]; rw [c76b0]) | skip)
         by_cases c77 : t140 = true
         ·subst c77
          have H1 : ((r8Depth.f kj11 l0_0 l0_1 a1 a2).bind fun t141 => (q8FixesTells.j2 kj11 a1 a2 a3 t128 t129 t130 (t139 != t141) l0_0 l0_1)) = some r := by rw [if_pos rfl] at H; exact H
          clear H
          have H := H1
          clear H1
          replace H := Option.bind_eq_some_iff.mp H
          obtain ⟨t141, A780, H⟩ := H
          replace H : (q8FixesTells.j2 kj11 a1 a2 a3 t128 t129 t130 (t139 != t141) l0_0 l0_1) = some r := H
          have A78 := As0.mk A780
          clear A780
          have H' := As0.mk H
          clear H
          have hcz79_0 : w75.cell? ⟨gb113, 0, none⟩ = some (.slice A0_0 l0_0.length c0_0) := (blk_cell BK113.out 0).trans rfl
          have hcz79_1 : w75.cell? ⟨gb113, 1, none⟩ = some (.slice A0_1 l0_1.length c0_1) := (blk_cell BK113.out 1).trans rfl
          have hfz79_0 := blk_frozen BK113.out 0
          have hfz79_1 := blk_frozen BK113.out 1
          go_wp2_with (first | (go_at_call 45; (with_reducible refine (r8Depth.calls kj11 _ _ l0_0 _ _ l0_1 a1 a2 t141 _ ?side1 ?side2 ?side3 ?side4 A78.out).mono ?_); (case side1 => repeat (first | exact (Kd.C_below HR0_0.out HB.out) | (with_reducible refine Kd.C_alloc ?_ _) | (with_reducible refine Kd.C_drewN ?_ _) | (with_reducible refine Kd.C_drew ?_))); (case side2 => exact HC0_0.out); (case side3 => repeat (first | exact (Kd.C_below HR0_1.out HB.out) | (with_reducible refine Kd.C_alloc ?_ _) | (with_reducible refine Kd.C_drewN ?_ _) | (with_reducible refine Kd.C_drew ?_))); (case side4 => exact HC0_1.out); rintro e w80 ⟨rfl, hb⟩; have n0_ := As0.mk (blk_below (g := gb113) (o := .cells #[.slice A0_0 l0_0.length c0_0, .slice A0_1 l0_1.length c0_1] 24 (0, 0)) (by (with_reducible repeat (first | refine blk_drewN ?_ _ | refine blk_drew ?_ | refine blk_alloc ?_ _)); exact BK113.out) hb); have n1_ := As0.mk (bst (by repeat (first | (with_reducible first | exact HB.out | apply below_alloc | apply pwd | apply bd1 | refine below_set ?_ GE113.out) | exact HB.out)) hb); clear BK113; clear HB; have BK113 := n0_; have HB := n1_; clear n0_ n1_; (try clear hb); (try clear hb2); (try clear hk); (try clear hi)))
          go_meet
          case rel => exact ⟨_, ((t139 != t141)), (by first | rfl | (simp; done) | (simp [*]; done)), H', ⟨by have := HJ11.out; first | omega | exact Nat.le_refl _⟩, ⟨by (with_reducible repeat (first | refine blk_drewN ?_ _ | refine blk_drew ?_ | refine blk_alloc ?_ _)); exact BK113.out⟩, ⟨by repeat (first | (with_reducible first | exact HB.out | apply below_alloc | apply pwd | apply bd1 | refine below_set ?_ GE113.out) | exact HB.out)⟩⟩
         ·replace c77 := Bool.eq_false_iff.mpr c77
          subst c77
          have H1 : (q8FixesTells.j2 kj11 a1 a2 a3 t128 t129 t130 true l0_0 l0_1) = some r := by rw [if_neg (show ¬ (false = true) by decide)] at H; exact H
          clear H
          have H := H1
          clear H1
          have H' := As0.mk H
          clear H
          go_wp2
          go_meet
          case rel => exact ⟨_, (true), (by first | rfl | (simp; done) | (simp [*]; done)), H', ⟨by have := HJ11.out; first | omega | exact Nat.le_refl _⟩, ⟨by (with_reducible repeat (first | refine blk_drewN ?_ _ | refine blk_drew ?_ | refine blk_alloc ?_ _)); exact BK113.out⟩, ⟨by repeat (first | (with_reducible first | exact HB.out | apply below_alloc | apply pwd | apply bd1 | refine below_set ?_ GE113.out) | exact HB.out)⟩⟩
        ·rw [if_neg c76] at H
         have c76b0 : (t121 == 0) = false := beq_eq_false_iff_ne.mpr c76
         have c76b1 : (t121 != 0) = true := bne_iff_ne.mpr c76
         (first | rw [c76b0] | (simp only [i64_w, i32_w]; rw [c76b0]) | skip)
         have H' := As0.mk H
         clear H
         go_wp2
         go_meet
         case rel => exact ⟨_, (true), (by first | rfl | (simp; done) | (simp [*]; done)), H', ⟨by have := HJ11.out; first | omega | exact Nat.le_refl _⟩, ⟨by (with_reducible repeat (first | refine blk_drewN ?_ _ | refine blk_drew ?_ | refine blk_alloc ?_ _)); exact BK113.out⟩, ⟨by repeat (first | (with_reducible first | exact HB.out | apply below_alloc | apply pwd | apply bd1 | refine below_set ?_ GE113.out) | exact HB.out)⟩⟩
       case rest =>
        clear HC71
        try clear c1
        try clear c2
        try clear p2
        try clear c4
        try clear c5
        try clear c7
        try clear c9
        try clear c9b0
        try clear c9b1
        try clear c10
        try clear c10b0
        try clear c10b1
        try clear c14
        try clear c17
        try clear c21
        try clear c25
        try clear c27
        try clear c41
        try clear c42
        try clear c42b0
        try clear c42b1
        try clear c43
        try clear c43b0
        try clear c43b1
        try clear c44
        try clear c45
        try clear c45b0
        try clear c45b1
        try clear c46
        try clear c46b0
        try clear c46b1
        try clear c50
        try clear c54
        try clear c54b0
        try clear c54b1
        try clear c55
        try clear c57
        try clear c57b0
        try clear c57b1
        try clear c58
        try clear c58b0
        try clear c58b1
        try clear c58b2
        try clear c59
        try clear c59b0
        try clear c59b1
        try clear c76
        try clear c76b0
        try clear c76b1
        try clear c77
        try clear hcz14_0
        try clear hcz14_1
        try clear hcz29_0
        try clear hcz29_1
        try clear hcz31_0
        try clear hcz31_1
        try clear hcz33_0
        try clear hcz33_1
        try clear hcz35_0
        try clear hcz35_1
        try clear hcz37_0
        try clear hcz37_1
        try clear hcz39_0
        try clear hcz39_1
        try clear hcz52_0
        try clear hcz52_1
        try clear hcz61_0
        try clear hcz61_1
        try clear hcz64_0
        try clear hcz64_1
        try clear hcz66_0
        try clear hcz66_1
        try clear hcz68_0
        try clear hcz68_1
        try clear hcz72_0
        try clear hcz72_1
        try clear hcz74_0
        try clear hcz74_1
        try clear hcz79_0
        try clear hcz79_1
        try clear hfz14_0
        try clear hfz14_1
        try clear hfz29_0
        try clear hfz29_1
        try clear hfz31_0
        try clear hfz31_1
        try clear hfz33_0
        try clear hfz33_1
        try clear hfz35_0
        try clear hfz35_1
        try clear hfz37_0
        try clear hfz37_1
        try clear hfz39_0
        try clear hfz39_1
        try clear hfz52_0
        try clear hfz52_1
        try clear hfz61_0
        try clear hfz61_1
        try clear hfz64_0
        try clear hfz64_1
        try clear hfz66_0
        try clear hfz66_1
        try clear hfz68_0
        try clear hfz68_1
        try clear hfz72_0
        try clear hfz72_1
        try clear hfz74_0
        try clear hfz74_1
        try clear hfz79_0
        try clear hfz79_1
        try clear p2
        obtain ⟨kq, x107_70, rfl, HA, HJ70, BK113, HB⟩ := hcut
        cases kq with
        | zero => exact absurd HA.out (by simp [q8FixesTells.j2])
        | succ kj70 =>
         have H := HA.out
         clear HA
         simp only [q8FixesTells.j2] at H
         by_cases c81 : x107_70 = true
         ·subst c81
          have H1 : (some false) = some r := by rw [if_pos rfl] at H; exact H
          clear H
          have H := H1
          clear H1
          obtain rfl := Option.some.inj H
          go_wp2
          go_ret
          exact ⟨by first | rfl | (simp [errW_none, errW_some] <;> rfl) | (simp only [← hji8]; first | rfl | (simp [errW_none, errW_some] <;> rfl)) | (simp [*, errW_none, errW_some] <;> rfl), by repeat (first | (with_reducible first | exact HB.out | apply below_alloc | apply pwd | apply bd1 | refine below_set ?_ GE113.out) | exact HB.out)⟩
         ·replace c81 := Bool.eq_false_iff.mpr c81
          subst c81
          have H1 : ((r8Told.f kj70 l0_0 l0_1 a1 a2 a3).bind fun bt142 => (if t128 = bt142.1 then (if (t129 == bt142.2) = true then (if t130 = 0 then ((PB.q8awake.f kj70).bind fun t144 => (some t144)) else (some false)) else (some false)) else (some false))) = some r := by rw [if_neg (show ¬ (false = true) by decide)] at H; exact H
          clear H
          have H := H1
          clear H1
          replace H := Option.bind_eq_some_iff.mp H
          obtain ⟨⟨t142, t143⟩, A820, H⟩ := H
          replace H : (if t128 = t142 then (if (t129 == t143) = true then (if t130 = 0 then ((PB.q8awake.f kj70).bind fun t144 => (some t144)) else (some false)) else (some false)) else (some false)) = some r := H
          have A82 := As0.mk A820
          clear A820
          by_cases c83 : t128 = t142
          ·rw [if_pos c83] at H
           have c83b0 : (t128 == t142) = true := beq_iff_eq.mpr c83
           have c83b1 : (t128 != t142) = false := bne_eq_false_iff_eq.mpr c83
           clear c83
           by_cases c84 : (t129 == t143) = true
           ·rw [if_pos c84] at H
            have c84b0 : (t129 == t143) = true := c84
            (try (have c84b1 : decide (t129 = t143) = true := by simpa using c84))
            (try (have c84b2 : (t129 == t143) = true := by simpa using c84))
            clear c84
            by_cases c85 : t130 = 0
            ·rw [if_pos c85] at H
             have c85b0 : (t130 == 0) = true := beq_iff_eq.mpr c85
             have c85b1 : (t130 != 0) = false := bne_eq_false_iff_eq.mpr c85
             clear c85
             replace H := Option.bind_eq_some_iff.mp H
             obtain ⟨t144, A860, H⟩ := H
             replace H : (some t144) = some r := H
             have A86 := As0.mk A860
             clear A860
             obtain rfl := Option.some.inj H
             have hcz87_0 : wc.cell? ⟨gb113, 0, none⟩ = some (.slice A0_0 l0_0.length c0_0) := (blk_cell BK113.out 0).trans rfl
             have hcz87_1 : wc.cell? ⟨gb113, 1, none⟩ = some (.slice A0_1 l0_1.length c0_1) := (blk_cell BK113.out 1).trans rfl
             have hfz87_0 := blk_frozen BK113.out 0
             have hfz87_1 := blk_frozen BK113.out 1
             go_wp2_with (first | ((with_reducible refine gate_callee (f := 44) rfl ?_); refine goesL_ (some 113) rfl rfl Try.func44 (by kernel_rfl) rfl #[.agg #[.slice A0_0 l0_0.length c0_0, .slice A0_1 l0_1.length c0_1], .int .i64 a1, .int .i64 a2, .string a3] rfl (by (try simp only [sm]); first | done | rfl | (simp only [List.length_drop, List.length_take]; rfl)) ?_; (with_reducible refine (r8Told.calls kj70 _ _ l0_0 _ _ l0_1 a1 a2 a3 t142 t143 _ ?side1 ?side2 ?side3 ?side4 A82.out).mono ?_); (case side1 => repeat (first | exact (Kd.C_below HR0_0.out HB.out) | (with_reducible refine Kd.C_alloc ?_ _) | (with_reducible refine Kd.C_drewN ?_ _) | (with_reducible refine Kd.C_drew ?_))); (case side2 => exact HC0_0.out); (case side3 => repeat (first | exact (Kd.C_below HR0_1.out HB.out) | (with_reducible refine Kd.C_alloc ?_ _) | (with_reducible refine Kd.C_drewN ?_ _) | (with_reducible refine Kd.C_drew ?_))); (case side4 => exact HC0_1.out); rintro e w88 ⟨rfl, hb⟩; refine ⟨_, rfl, ?_⟩; have n0_ := As0.mk (blk_below (g := gb113) (o := .cells #[.slice A0_0 l0_0.length c0_0, .slice A0_1 l0_1.length c0_1] 24 (0, 0)) (by (with_reducible repeat (first | refine blk_drewN ?_ _ | refine blk_drew ?_ | refine blk_alloc ?_ _)); exact BK113.out) hb); have n1_ := As0.mk (bst (by repeat (first | (with_reducible first | exact HB.out | apply below_alloc | apply pwd | apply bd1 | refine below_set ?_ GE113.out) | exact HB.out)) hb); clear BK113; clear HB; have BK113 := n0_; have HB := n1_; clear n0_ n1_; (try clear hb); (try clear hb2); (try clear hk); (try clear hi)) | (go_at_call 22; (with_reducible refine (PB.q8awake.calls kj70  t144 _ A86.out).mono ?_); rintro e w89 ⟨rfl, hb⟩; have n0_ := As0.mk (blk_below (g := gb113) (o := .cells #[.slice A0_0 l0_0.length c0_0, .slice A0_1 l0_1.length c0_1] 24 (0, 0)) (by (with_reducible repeat (first | refine blk_drewN ?_ _ | refine blk_drew ?_ | refine blk_alloc ?_ _)); exact BK113.out) hb); have n1_ := As0.mk (bst (by repeat (first | (with_reducible first | exact HB.out | apply below_alloc | apply pwd | apply bd1 | refine below_set ?_ GE113.out) | exact HB.out)) hb); clear BK113; clear HB; have BK113 := n0_; have HB := n1_; clear n0_ n1_; (try clear hb); (try clear hb2); (try clear hk); (try clear hi)))
             go_ret
             exact ⟨by first | rfl | (simp [errW_none, errW_some] <;> rfl) | (simp only [← hji8]; first | rfl | (simp [errW_none, errW_some] <;> rfl)) | (simp [*, errW_none, errW_some] <;> rfl), by repeat (first | (with_reducible first | exact HB.out | apply below_alloc | apply pwd | apply bd1 | refine below_set ?_ GE113.out) | exact HB.out)⟩
            ·rw [if_neg c85] at H
             have c85b0 : (t130 == 0) = false := beq_eq_false_iff_ne.mpr c85
             have c85b1 : (t130 != 0) = true := bne_iff_ne.mpr c85
             obtain rfl := Option.some.inj H
             have hcz90_0 : wc.cell? ⟨gb113, 0, none⟩ = some (.slice A0_0 l0_0.length c0_0) := (blk_cell BK113.out 0).trans rfl
             have hcz90_1 : wc.cell? ⟨gb113, 1, none⟩ = some (.slice A0_1 l0_1.length c0_1) := (blk_cell BK113.out 1).trans rfl
             have hfz90_0 := blk_frozen BK113.out 0
             have hfz90_1 := blk_frozen BK113.out 1
             go_wp2_with (first | ((with_reducible refine gate_callee (f := 44) rfl ?_); refine goesL_ (some 113) rfl rfl Try.func44 (by kernel_rfl) rfl #[.agg #[.slice A0_0 l0_0.length c0_0, .slice A0_1 l0_1.length c0_1], .int .i64 a1, .int .i64 a2, .string a3] rfl (by (try simp only [sm]); first | done | rfl | (simp only [List.length_drop, List.length_take]; rfl)) ?_; (with_reducible refine (r8Told.calls kj70 _ _ l0_0 _ _ l0_1 a1 a2 a3 t142 t143 _ ?side1 ?side2 ?side3 ?side4 A82.out).mono ?_); (case side1 => repeat (first | exact (Kd.C_below HR0_0.out HB.out) | (with_reducible refine Kd.C_alloc ?_ _) | (with_reducible refine Kd.C_drewN ?_ _) | (with_reducible refine Kd.C_drew ?_))); (case side2 => exact HC0_0.out); (case side3 => repeat (first | exact (Kd.C_below HR0_1.out HB.out) | (with_reducible refine Kd.C_alloc ?_ _) | (with_reducible refine Kd.C_drewN ?_ _) | (with_reducible refine Kd.C_drew ?_))); (case side4 => exact HC0_1.out); rintro e w91 ⟨rfl, hb⟩; refine ⟨_, rfl, ?_⟩; have n0_ := As0.mk (blk_below (g := gb113) (o := .cells #[.slice A0_0 l0_0.length c0_0, .slice A0_1 l0_1.length c0_1] 24 (0, 0)) (by (with_reducible repeat (first | refine blk_drewN ?_ _ | refine blk_drew ?_ | refine blk_alloc ?_ _)); exact BK113.out) hb); have n1_ := As0.mk (bst (by repeat (first | (with_reducible first | exact HB.out | apply below_alloc | apply pwd | apply bd1 | refine below_set ?_ GE113.out) | exact HB.out)) hb); clear BK113; clear HB; have BK113 := n0_; have HB := n1_; clear n0_ n1_; (try clear hb); (try clear hb2); (try clear hk); (try clear hi)))
             go_ret
             exact ⟨by first | rfl | (simp [errW_none, errW_some] <;> rfl) | (simp only [← hji8]; first | rfl | (simp [errW_none, errW_some] <;> rfl)) | (simp [*, errW_none, errW_some] <;> rfl), by repeat (first | (with_reducible first | exact HB.out | apply below_alloc | apply pwd | apply bd1 | refine below_set ?_ GE113.out) | exact HB.out)⟩
           ·rw [if_neg c84] at H
            have c84b0 : (t129 == t143) = false := by simpa using c84
            (try (have c84b1 : decide (t129 = t143) = false := by simpa using c84))
            (try (have c84b2 : (t129 == t143) = false := by simpa using c84))
            (try (have c84b3 : ¬ (t129 = t143) := by simpa using c84))
            clear c84
            obtain rfl := Option.some.inj H
            have hcz92_0 : wc.cell? ⟨gb113, 0, none⟩ = some (.slice A0_0 l0_0.length c0_0) := (blk_cell BK113.out 0).trans rfl
            have hcz92_1 : wc.cell? ⟨gb113, 1, none⟩ = some (.slice A0_1 l0_1.length c0_1) := (blk_cell BK113.out 1).trans rfl
            have hfz92_0 := blk_frozen BK113.out 0
            have hfz92_1 := blk_frozen BK113.out 1
            go_wp2_with (first | ((with_reducible refine gate_callee (f := 44) rfl ?_); refine goesL_ (some 113) rfl rfl Try.func44 (by kernel_rfl) rfl #[.agg #[.slice A0_0 l0_0.length c0_0, .slice A0_1 l0_1.length c0_1], .int .i64 a1, .int .i64 a2, .string a3] rfl (by (try simp only [sm]); first | done | rfl | (simp only [List.length_drop, List.length_take]; rfl)) ?_; (with_reducible refine (r8Told.calls kj70 _ _ l0_0 _ _ l0_1 a1 a2 a3 t142 t143 _ ?side1 ?side2 ?side3 ?side4 A82.out).mono ?_); (case side1 => repeat (first | exact (Kd.C_below HR0_0.out HB.out) | (with_reducible refine Kd.C_alloc ?_ _) | (with_reducible refine Kd.C_drewN ?_ _) | (with_reducible refine Kd.C_drew ?_))); (case side2 => exact HC0_0.out); (case side3 => repeat (first | exact (Kd.C_below HR0_1.out HB.out) | (with_reducible refine Kd.C_alloc ?_ _) | (with_reducible refine Kd.C_drewN ?_ _) | (with_reducible refine Kd.C_drew ?_))); (case side4 => exact HC0_1.out); rintro e w93 ⟨rfl, hb⟩; refine ⟨_, rfl, ?_⟩; have n0_ := As0.mk (blk_below (g := gb113) (o := .cells #[.slice A0_0 l0_0.length c0_0, .slice A0_1 l0_1.length c0_1] 24 (0, 0)) (by (with_reducible repeat (first | refine blk_drewN ?_ _ | refine blk_drew ?_ | refine blk_alloc ?_ _)); exact BK113.out) hb); have n1_ := As0.mk (bst (by repeat (first | (with_reducible first | exact HB.out | apply below_alloc | apply pwd | apply bd1 | refine below_set ?_ GE113.out) | exact HB.out)) hb); clear BK113; clear HB; have BK113 := n0_; have HB := n1_; clear n0_ n1_; (try clear hb); (try clear hb2); (try clear hk); (try clear hi)))
            go_ret
            exact ⟨by first | rfl | (simp [errW_none, errW_some] <;> rfl) | (simp only [← hji8]; first | rfl | (simp [errW_none, errW_some] <;> rfl)) | (simp [*, errW_none, errW_some] <;> rfl), by repeat (first | (with_reducible first | exact HB.out | apply below_alloc | apply pwd | apply bd1 | refine below_set ?_ GE113.out) | exact HB.out)⟩
          ·rw [if_neg c83] at H
           have c83b0 : (t128 == t142) = false := beq_eq_false_iff_ne.mpr c83
           have c83b1 : (t128 != t142) = true := bne_iff_ne.mpr c83
           obtain rfl := Option.some.inj H
           have hcz94_0 : wc.cell? ⟨gb113, 0, none⟩ = some (.slice A0_0 l0_0.length c0_0) := (blk_cell BK113.out 0).trans rfl
           have hcz94_1 : wc.cell? ⟨gb113, 1, none⟩ = some (.slice A0_1 l0_1.length c0_1) := (blk_cell BK113.out 1).trans rfl
           have hfz94_0 := blk_frozen BK113.out 0
           have hfz94_1 := blk_frozen BK113.out 1
           go_wp2_with (first | ((with_reducible refine gate_callee (f := 44) rfl ?_); refine goesL_ (some 113) rfl rfl Try.func44 (by kernel_rfl) rfl #[.agg #[.slice A0_0 l0_0.length c0_0, .slice A0_1 l0_1.length c0_1], .int .i64 a1, .int .i64 a2, .string a3] rfl (by (try simp only [sm]); first | done | rfl | (simp only [List.length_drop, List.length_take]; rfl)) ?_; (with_reducible refine (r8Told.calls kj70 _ _ l0_0 _ _ l0_1 a1 a2 a3 t142 t143 _ ?side1 ?side2 ?side3 ?side4 A82.out).mono ?_); (case side1 => repeat (first | exact (Kd.C_below HR0_0.out HB.out) | (with_reducible refine Kd.C_alloc ?_ _) | (with_reducible refine Kd.C_drewN ?_ _) | (with_reducible refine Kd.C_drew ?_))); (case side2 => exact HC0_0.out); (case side3 => repeat (first | exact (Kd.C_below HR0_1.out HB.out) | (with_reducible refine Kd.C_alloc ?_ _) | (with_reducible refine Kd.C_drewN ?_ _) | (with_reducible refine Kd.C_drew ?_))); (case side4 => exact HC0_1.out); rintro e w95 ⟨rfl, hb⟩; refine ⟨_, rfl, ?_⟩; have n0_ := As0.mk (blk_below (g := gb113) (o := .cells #[.slice A0_0 l0_0.length c0_0, .slice A0_1 l0_1.length c0_1] 24 (0, 0)) (by (with_reducible repeat (first | refine blk_drewN ?_ _ | refine blk_drew ?_ | refine blk_alloc ?_ _)); exact BK113.out) hb); have n1_ := As0.mk (bst (by repeat (first | (with_reducible first | exact HB.out | apply below_alloc | apply pwd | apply bd1 | refine below_set ?_ GE113.out) | exact HB.out)) hb); clear BK113; clear HB; have BK113 := n0_; have HB := n1_; clear n0_ n1_; (try clear hb); (try clear hb2); (try clear hk); (try clear hi)))
           go_ret
           exact ⟨by first | rfl | (simp [errW_none, errW_some] <;> rfl) | (simp only [← hji8]; first | rfl | (simp [errW_none, errW_some] <;> rfl)) | (simp [*, errW_none, errW_some] <;> rfl), by repeat (first | (with_reducible first | exact HB.out | apply below_alloc | apply pwd | apply bd1 | refine below_set ?_ GE113.out) | exact HB.out)⟩
  ·rw [if_neg c10] at H
   exact absurd H (by simp)
 ·rw [if_neg c9] at H
  exact absurd H (by simp)
end Go.Proofs.Ytjffhhalmicodaa.PH
end

section
set_option linter.unusedVariables false
set_option linter.unusedSimpArgs false
namespace Go.Proofs.Ytjffhhalmicodaa.L
open Go.RowKit Go.Proofs.G.PrintWords Go.Proofs.G.PrintLast Go.Proofs.G.PrintMore Go.Proofs.Ytjffhhalmicodaa.X Go.Proofs.Ytjffhhalmicodaa.PH Go.Proofs.Ytjffhhalmicodaa.PF Go.Proofs.Ytjffhhalmicodaa.PB
theorem toldV_cut (nx mk : List Int) (s t : Nat) (a : ByteArray) : toldV nx mk s t (a.extract 0 (mn (a.size : Int) 4010).toNat) = toldV nx mk s t a := by
 by_cases h : a.size ≤ 4010
 ·have : mn (a.size : Int) 4010 = (a.size : Int) := by unfold mn; rw [if_neg (by omega)]
  rw [this, Int.toNat_natCast, ByteArray.extract_zero_size]
 ·have : mn (a.size : Int) 4010 = 4010 := by unfold mn; rw [if_pos (by omega)]
  rw [this]
  have hs : (a.extract 0 (4010 : Int).toNat).size = 4010 := by
   rw [ByteArray.size_extract]
   show min 4010 a.size - 0 = 4010
   omega
  unfold toldV
  rw [if_neg (by rw [hs]; omega), if_neg (by omega)]
theorem mn_ok (a : ByteArray) : 0 ≤ mn (a.size : Int) 4010 ∧ mn (a.size : Int) 4010 ≤ (a.size : Int) := by
  unfold mn
  split <;> omega
theorem Pure_FixesTells (nx mk : List Int) (a b : Int) (x : ByteArray) : ∃ k, q8FixesTells.f k nx mk a b x = some true := by
 apply Evr.ex
 obtain ⟨m1, m2⟩ := mn_ok x
 unfold q8FixesTells.f
 simp only [Of_eq, Option.bind_some, if_pos m1, if_pos m2, State_eq]
 have bad : Evr (fun k => q8FixesTells.j0 k a b x ⟨#[]⟩ 2 0 false 2 true nx mk) true := by
  refine Evr.step (h := fun k => (PB.q8awake.f k).bind fun t => some t) (fun k => ?_) (Evr.bind awake_ev (Evr.const _))
  rw [q8FixesTells.j0, if_pos rfl, if_pos (by rw [ByteArray.toList_eq]), if_pos rfl, if_neg (by decide), if_pos rfl, if_pos rfl]
 by_cases hv : VW nx mk
 ·obtain ⟨e1, e2⟩ := take_of hv
  obtain ⟨K, hK, _, hnc⟩ := lv_last hv
  have h6 := hv.le
  have hl := hK.le hv
  rw [e1, e2]
  by_cases hst : St nx a ∧ St nx b
  ·obtain ⟨s, rfl, hs⟩ := hst.1.nat
   obtain ⟨t, rfl, ht⟩ := hst.2.nat
   have fin : ∀ (r : ByteArray) (e : Int), Evr (fun k => q8FixesTells.j0 k (s : Int) (t : Int) x r e (toldV nx mk s t x).1 (toldV nx mk s t x).2 0 false nx mk) true → Evr (fun k => (fixes_CheckTell.f k nx mk (s : Int) (t : Int) (x.extract 0 (mn (x.size : Int) 4010).toNat)).bind fun bt128 => ((PB.r8Valid.f k nx mk).bind fun t131 => (if t131 = true then (if decide (St nx (s : Int)) = true then (q8FixesTells.j0 k (s : Int) (t : Int) x r e bt128.1 bt128.2.1 bt128.2.2 (!decide (St nx (t : Int))) nx mk) else (q8FixesTells.j0 k (s : Int) (t : Int) x r e bt128.1 bt128.2.1 bt128.2.2 true nx mk)) else (q8FixesTells.j0 k (s : Int) (t : Int) x r e bt128.1 bt128.2.1 bt128.2.2 true nx mk)))) true := by
    intro r e h
    have hc := Check_ev hv hs ht (x.extract 0 (mn (x.size : Int) 4010).toNat)
    rw [toldV_cut] at hc
    refine Evr.bind hc (Evr.bind (Valid_ev nx mk) ?_)
    simp only [hv, hst.1, hst.2, decide_true, if_true, Bool.not_true]
    exact h
   have aw : Evr (fun k => (PB.q8awake.f k).bind fun t138 => some t138) true := Evr.bind awake_ev (Evr.const _)
   by_cases hE : E nx mk K s t
   ·refine Evr.bind (Tell_same_ev hv hK hs ht hE) (fin _ _ ?_)
    obtain ⟨k1, q1⟩ := RAlike_ev hv hK hs ht
    obtain ⟨k2, q2⟩ := Told_ev hv hs ht x
    obtain ⟨k3, q3⟩ := aw
    dsimp only at q1 q2 q3
    refine ⟨k1 + k2 + k3 + 2, fun k hk => ?_⟩
    obtain ⟨m, rfl⟩ : ∃ m, k = m + 1 + 1 := ⟨k - 2, by omega⟩
    dsimp only
    have hb : (rd (lv nx mk K) (s : Int) == rd (lv nx mk K) (t : Int)) = true := beq_iff_eq.2 hE
    rw [q8FixesTells.j0, if_neg (by decide), q1 _ (by omega), hb]
    simp only [Option.bind_some, if_true]
    rw [if_pos (by rw [ByteArray.toList_eq]), q8FixesTells.j1, if_neg (by decide), q2 _ (by omega)]
    simp only [Option.bind_some, if_true, beq_self_eq_true]
    exact q3 _ (by omega)
   ·obtain ⟨r, e, g1, g2, g3, g4⟩ := Tell_yes_ev hv hK hnc hs ht hE
    refine Evr.bind g3 (fin _ _ ?_)
    obtain ⟨k1, q1⟩ := RAlike_ev hv hK hs ht
    obtain ⟨k2, q2⟩ := Told_ev hv hs ht x
    obtain ⟨k3, q3⟩ := aw
    obtain ⟨k4, q4⟩ := Told_ev hv hs ht r
    obtain ⟨k5, q5⟩ := Depth_ev hv hs ht g1 (by omega)
    dsimp only at q1 q2 q3 q4 q5
    refine ⟨k1 + k2 + k3 + k4 + k5 + 2, fun k hk => ?_⟩
    obtain ⟨m, rfl⟩ : ∃ m, k = m + 1 + 1 := ⟨k - 2, by omega⟩
    dsimp only
    have hb : (rd (lv nx mk K) (s : Int) == rd (lv nx mk K) (t : Int)) = false := beq_eq_false_iff_ne.2 hE
    rw [q8FixesTells.j0, if_neg (by decide), q1 _ (by omega), hb]
    simp only [Option.bind_some, Bool.false_eq_true, if_false]
    rw [q4 _ (by omega), g4]
    simp only [Option.bind_some, if_true]
    rw [q5 _ (by omega)]
    simp only [Option.bind_some]
    rw [q8FixesTells.j2, if_neg (by simp), q2 _ (by omega)]
    simp only [Option.bind_some, if_true, beq_self_eq_true]
    exact q3 _ (by omega)
  ·refine Evr.bind (Evr.of_all (Tell_off_ev hv hst)) (Evr.bind (Evr.of_all (Check_off_ev hv hst _)) (Evr.bind (Valid_ev nx mk) ?_))
   simp only [hv, decide_true, if_true]
   by_cases h1 : St nx a
   ·have h2 : ¬ St nx b := fun q => hst ⟨h1, q⟩
    simp only [h1, h2, decide_true, decide_false, if_true, Bool.not_false]
    exact bad
   ·simp only [h1, decide_false, Bool.false_eq_true, if_false]
    exact bad
 ·have hv' := vw_no hv
  refine Evr.bind (Evr.of_all (Tell_bad hv' a b)) (Evr.bind (Evr.of_all (Check_bad hv' a b _)) (Evr.bind (Valid_ev nx mk) ?_))
  simp only [hv, decide_false, Bool.false_eq_true, if_false]
  exact bad
end Go.Proofs.Ytjffhhalmicodaa.L
end
