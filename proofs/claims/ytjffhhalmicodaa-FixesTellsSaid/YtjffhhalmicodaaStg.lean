/- Texts of this claim, merged by a program (wip/tools/shake.py); what nothing names is left out. -/
import Derived.Test.YtjffhhalmicodaaStf
namespace Go.Proofs.Ytjffhhalmicodaa
abbrev Mq91 : Array Bool := #[false, false, false, false, false, false, false, false, false, false, false, false, false, false, false, false, false, false, false, false, false, false, false, false, false, false, false, false, false, false, false, false, false, false, false, false, false]
abbrev Mq92 : Array Bool := #[true, false, false, false, false, false, false, false, false, false, false, false, false, false, false, false, false, false, false, false, false, false, false, false, false, false, false, false, false, false, false, false, false, false, false, false, false]
abbrev Mq93 : Array Bool := #[true, false, true, false, false, false, false, false, false, false, false, false, false, false, false, false, false, false, false, false, false, false, false, false, false, false, false, false, false, false, false, false, false, false, false, false, false]
abbrev Mq94 : Array Bool := #[true, false, true, false, false, true, false, false, false, false, false, false, false, false, false, false, false, false, false, false, false, false, false, false, false, false, false, false, false, false, false, false, false, false, false, false, false]
abbrev Mq95 : Array Bool := #[true, false, true, false, false, true, false, true, false, false, false, false, false, false, false, false, false, false, false, false, false, false, false, false, false, false, false, false, false, false, false, false, false, false, false, false, false]
abbrev Mq96 : Array Bool := #[true, true, true, false, false, true, false, true, false, false, false, false, false, false, false, false, false, false, false, false, false, false, false, false, false, false, false, false, false, false, false, false, false, false, false, false, false]
abbrev Mq97 : Array Bool := #[true, true, true, true, false, true, false, true, false, false, false, false, false, false, false, false, false, false, false, false, false, false, false, false, false, false, false, false, false, false, false, false, false, false, false, false, false]
abbrev Mq98 : Array Bool := #[true, true, true, true, true, true, false, true, false, false, false, false, false, false, false, false, false, false, false, false, false, false, false, false, false, false, false, false, false, false, false, false, false, false, false, false, false]
abbrev Mq99 : Array Bool := #[true, true, true, true, true, true, true, true, false, false, false, false, false, false, false, false, false, false, false, false, false, false, false, false, false, false, false, false, false, false, false, false, false, false, false, false, false]
abbrev Mq100 : Array Bool := #[true, true, true, true, true, true, true, true, true, false, false, false, false, false, false, false, false, false, false, false, false, false, false, false, false, false, false, false, false, false, false, false, false, false, false, false, false]
abbrev Mq101 : Array Bool := #[true, true, true, true, true, true, true, true, true, true, false, false, false, false, false, false, false, false, false, false, false, false, false, false, false, false, false, false, false, false, false, false, false, false, false, false, false]
abbrev Mq102 : Array Bool := #[true, true, true, true, true, true, true, true, true, true, true, false, false, false, false, false, false, false, false, false, false, false, false, false, false, false, false, false, false, false, false, false, false, false, false, false, false]
abbrev Mq103 : Array Bool := #[true, true, true, true, true, true, true, true, true, true, true, true, false, false, false, false, false, false, false, false, false, false, false, false, false, false, false, false, false, false, false, false, false, false, false, false, false]
abbrev Mq104 : Array Bool := #[true, true, true, true, true, true, true, true, true, true, true, true, true, false, false, false, false, false, false, false, false, false, false, false, false, false, false, false, false, false, false, false, false, false, false, false, false]
abbrev Mq105 : Array Bool := #[true, true, true, true, true, true, true, true, true, true, true, true, true, true, false, false, false, false, false, false, false, false, false, false, false, false, false, false, false, false, false, false, false, false, false, false, false]
abbrev Mq106 : Array Bool := #[true, true, true, true, true, true, true, true, true, true, true, true, true, true, true, false, false, false, false, false, false, false, false, false, false, false, false, false, false, false, false, false, false, false, false, false, false]
abbrev Mq107 : Array Bool := #[true, true, true, true, true, true, true, true, true, true, true, true, true, true, true, true, false, false, false, false, false, false, false, false, false, false, false, false, false, false, false, false, false, false, false, false, false]
abbrev Mq108 : Array Bool := #[true, true, true, true, true, true, true, true, true, true, true, true, true, true, true, true, true, false, false, false, false, false, false, false, false, false, false, false, false, false, false, false, false, false, false, false, false]
abbrev Mq109 : Array Bool := #[true, true, true, true, true, true, true, true, true, true, true, true, true, true, true, true, true, true, false, false, false, false, false, false, false, false, false, false, false, false, false, false, false, false, false, false, false]
abbrev Mq110 : Array Bool := #[true, true, true, true, true, true, true, true, true, true, true, true, true, true, true, true, true, true, true, false, false, false, false, false, false, false, false, false, false, false, false, false, false, false, false, false, false]
abbrev Mq111 : Array Bool := #[true, true, true, true, true, true, true, true, true, true, true, true, true, true, true, true, true, true, true, true, false, false, false, false, false, false, false, false, false, false, false, false, false, false, false, false, false]
abbrev Mq112 : Array Bool := #[true, true, true, true, true, true, true, true, true, true, true, true, true, true, true, true, true, true, true, true, true, false, false, false, false, false, false, false, false, false, false, false, false, false, false, false, false]
abbrev Mq113 : Array Bool := #[true, true, true, true, true, true, true, true, true, true, true, true, true, true, true, true, true, true, true, true, true, true, false, false, false, false, false, false, false, false, false, false, false, false, false, false, false]
abbrev Mq114 : Array Bool := #[true, true, true, true, true, true, true, true, true, true, true, true, true, true, true, true, true, true, true, true, true, true, true, false, false, false, false, false, false, false, false, false, false, false, false, false, false]
abbrev Mq115 : Array Bool := #[true, true, true, true, true, true, true, true, true, true, true, true, true, true, true, true, true, true, true, true, true, true, true, true, false, false, false, false, false, false, false, false, false, false, false, false, false]
abbrev Mq116 : Array Bool := #[true, true, true, true, true, true, true, true, true, true, true, true, true, true, true, true, true, true, true, true, true, true, true, true, true, false, false, false, false, false, false, false, false, false, false, false, false]
abbrev Mq117 : Array Bool := #[true, true, true, true, true, true, true, true, true, true, true, true, true, true, true, true, true, true, true, true, true, true, true, true, true, true, false, false, false, false, false, false, false, false, false, false, false]
abbrev Mq118 : Array Bool := #[true, true, true, true, true, true, true, true, true, true, true, true, true, true, true, true, true, true, true, true, true, true, true, true, true, true, true, false, false, false, false, false, false, false, false, false, false]
abbrev Mq119 : Array Bool := #[true, true, true, true, true, true, true, true, true, true, true, true, true, true, true, true, true, true, true, true, true, true, true, true, true, true, true, true, false, false, false, false, false, false, false, false, false]
abbrev Mq120 : Array Bool := #[true, true, true, true, true, true, true, true, true, true, true, true, true, true, true, true, true, true, true, true, true, true, true, true, true, true, true, true, true, false, false, false, false, false, false, false, false]
abbrev Mq121 : Array Bool := #[true, true, true, true, true, true, true, true, true, true, true, true, true, true, true, true, true, true, true, true, true, true, true, true, true, true, true, true, true, true, false, false, false, false, false, false, false]
abbrev Mq122 : Array Bool := #[true, true, true, true, true, true, true, true, true, true, true, true, true, true, true, true, true, true, true, true, true, true, true, true, true, true, true, true, true, true, true, false, false, false, false, false, false]
abbrev Mq123 : Array Bool := #[true, true, true, true, true, true, true, true, true, true, true, true, true, true, true, true, true, true, true, true, true, true, true, true, true, true, true, true, true, true, true, true, false, false, false, false, false]
abbrev Mq124 : Array Bool := #[true, true, true, true, true, true, true, true, true, true, true, true, true, true, true, true, true, true, true, true, true, true, true, true, true, true, true, true, true, true, true, true, true, false, false, false, false]
abbrev Mq125 : Array Bool := #[true, true, true, true, true, true, true, true, true, true, true, true, true, true, true, true, true, true, true, true, true, true, true, true, true, true, true, true, true, true, true, true, true, true, false, false, false]
abbrev Mq126 : Array Bool := #[true, true, true, true, true, true, true, true, true, true, true, true, true, true, true, true, true, true, true, true, true, true, true, true, true, true, true, true, true, true, true, true, true, true, true, false, false]
abbrev Mq127 : Array Bool := #[true, true, true, true, true, true, true, true, true, true, true, true, true, true, true, true, true, true, true, true, true, true, true, true, true, true, true, true, true, true, true, true, true, true, true, true, false]
abbrev Mq128 : Array Bool := #[true, true, true, true, true, true, true, true, true, true, true, true, true, true, true, true, true, true, true, true, true, true, true, true, true, true, true, true, true, true, true, true, true, true, true, true, true]
abbrev Mq129 : Array Bool := #[true, true, true, true, true, true, true, true, true, true, true, true, true, true, true, true, true, true, false, true, false, false, false, false, false, false, false, false, false, false, false, false, false, false, false, false, false]
abbrev Mq130 : Array Bool := #[true, true, true, true, true, true, true, true, true, true, true, true, true, true, true, true, true, true, false, true, true, false, false, false, false, false, false, false, false, false, false, false, false, false, false, false, false]
abbrev Mq131 : Array Bool := #[true, true, true, true, true, true, true, true, true, true, true, true, true, true, true, true, true, true, false, true, true, true, false, false, false, false, false, false, false, false, false, false, false, false, false, false, false]
abbrev Mq132 : Array Bool := #[true, true, true, true, true, true, true, true, true, true, true, true, true, true, true, true, true, true, true, true, true, true, true, true, true, false, true, false, false, false, false, false, false, false, false, false, false]
abbrev Mq133 : Array Bool := #[true, true, true, true, true, true, true, true, true, true, true, true, true, true, true, true, true, true, true, true, true, true, true, true, true, false, true, true, false, false, false, false, false, false, false, false, false]
abbrev Mq134 : Array Bool := #[true, true, true, true, true, true, true, true, true, true, true, true, true, true, true, true, true, true, true, true, true, true, true, true, true, false, true, true, false, false, true, false, false, false, false, false, false]
abbrev Mq135 : Array Bool := #[true, true, true, true, true, true, true, true, true, true, true, true, true, true, true, true, true, true, true, true, true, true, true, true, true, false, true, true, false, false, true, true, false, false, false, false, false]
abbrev Mq136 : Array Bool := #[true, true, true, true, true, true, true, true, true, true, true, true, true, true, true, true, true, true, true, true, true, true, true, true, true, true, true, true, false, false, true, true, false, false, false, false, false]
abbrev Mq137 : Array Bool := #[true, true, true, true, true, true, true, true, true, true, true, true, true, true, true, true, true, true, true, true, true, true, true, true, true, true, true, true, false, true, true, true, false, false, false, false, false]
end Go.Proofs.Ytjffhhalmicodaa
section
namespace Go.Proofs.Ytjffhhalmicodaa.PF
open Go.RowKit Go.Proofs.G.PrintWords Go.Proofs.G.PrintLast Go.Proofs.G.PrintMore
attribute [local go_sem] max2_int min2_int max_two min_two max_three min_three max_four min_four
set_option linter.unusedVariables false
set_option linter.unusedSimpArgs false
mutual
def r8Level.l0 : Nat → List Int → Int → Int → List Int → List Int → Option (List Int)
  | 0, _, _, _, _, _ => none
  | k + 1, x5, x15, x16, x127000, x127001 => if x16 < x15 then (if 0 ≤ (x5.length : Int) then (if ((x5.length : Int) : Int).toNat ≤ 35184372088832 then (r8Level.l1 k x5 x16 (List.replicate ((x5.length : Int) : Int).toNat 0) x15 x16 (x5.length : Int) 0 x127000 x127001) else (none)) else (none)) else (some x5)
def r8Level.l1 : Nat → List Int → Int → List Int → Int → Int → Int → Int → List Int → List Int → Option (List Int)
  | 0, _, _, _, _, _, _, _, _, _ => none
  | k + 1, x5, x6, x7, x15, x16, x23, x24, x127000, x127001 => if x24 < x23 then (if 0 ≤ x24 then (if x24 < (x7.length : Int) then (r8Level.l2 k x5 x6 (x7.set (x24 : Int).toNat x24) x24 (wrap64 (x24 - 1)) x15 x16 x23 x24 x127000 x127001) else (none)) else (none)) else (r8Level.l0 k x7 x15 (wrap64 (x16 + 1)) x127000 x127001)
def r8Level.l2 : Nat → List Int → Int → List Int → Int → Int → Int → Int → Int → Int → List Int → List Int → Option (List Int)
  | 0, _, _, _, _, _, _, _, _, _, _, _ => none
  | k + 1, x5, x6, x7, x8, x9, x15, x16, x23, x24, x127000, x127001 => if x9 ≥ 0 then (if 0 ≤ x8 then (if x8 < (x127001.length : Int) then (if 0 ≤ x9 then (if x9 < (x127001.length : Int) then (if (rd x127001 x8) = (rd x127001 x9) then (if x6 = 0 then (if x8 < (x7.length : Int) then (r8Level.l2 k x5 x6 (x7.set (x8 : Int).toNat x9) x8 (wrap64 (x9 - 1)) x15 x16 x23 x24 x127000 x127001) else (none)) else (if x8 < (x5.length : Int) then (if x9 < (x5.length : Int) then (if (rd x5 x8) = (rd x5 x9) then ((r8led.f k x127000 x127001 x5 x8).bind fun t139 => ((r8led.f k x127000 x127001 x5 x9).bind fun t140 => (if t139 = t140 then (if x8 < (x7.length : Int) then (r8Level.l2 k x5 x6 (x7.set (x8 : Int).toNat x9) x8 (wrap64 (x9 - 1)) x15 x16 x23 x24 x127000 x127001) else (none)) else (r8Level.l2 k x5 x6 x7 x8 (wrap64 (x9 - 1)) x15 x16 x23 x24 x127000 x127001)))) else (r8Level.l2 k x5 x6 x7 x8 (wrap64 (x9 - 1)) x15 x16 x23 x24 x127000 x127001)) else (none)) else (none))) else (r8Level.l2 k x5 x6 x7 x8 (wrap64 (x9 - 1)) x15 x16 x23 x24 x127000 x127001)) else (none)) else (none)) else (none)) else (none)) else (r8Level.l1 k x5 x6 x7 x15 x16 x23 (wrap64 (x24 + 1)) x127000 x127001)
end
def r8Level.f (k : Nat) (l0_0 : List Int) (l0_1 : List Int) (a1 : Int) : Option (List Int) := if 0 ≤ (l0_0.length : Int) then (if ((l0_0.length : Int) : Int).toNat ≤ 35184372088832 then (r8Level.l0 k (List.replicate ((l0_0.length : Int) : Int).toNat 0) (wrap64 (a1 + 1)) 0 l0_0 l0_1) else (none)) else (none)
def r8Level.T13 : Bool × List (List Nat × List Nat) := (true, [([], []), ([0], [0]), ([], []), ([1, 2], [1, 2]), ([3], [3]), ([], []), ([5], [5]), ([], []), ([6, 7], [6, 7]), ([8], [8]), ([4, 9], [4, 9]), ([10], [10]), ([11], [11]), ([12, 11], [11, 12]), ([13, 11, 11], [11, 13]), ([14], [14]), ([14], [14]), ([15, 16, 14], [14, 15, 16]), ([17, 14], [14, 17]), ([14], [14]), ([14], [14]), ([19, 20, 14], [14, 19, 20]), ([21, 14], [14, 21]), ([18, 22, 14], [14, 18, 22]), ([23, 14, 14], [14, 23]), ([24], [24]), ([24], [24]), ([24], [24]), ([25, 26, 27, 24, 24], [24, 25, 26, 27]), ([24], [24]), ([24], [24]), ([24], [24]), ([29, 30, 31, 28, 24], [24, 29, 30, 31]), ([28, 32, 24], [24, 28, 32]), ([24, 33, 14], [14, 24, 33]), ([14, 34, 11], [11, 14, 34]), ([11, 35], [11, 35])])
def r8Level.B13 : List Nat := [0, 1, 0, 7, 15, 0, 32, 0, 224, 480, 1023, 2047, 4095, 8191, 16383, 32767, 32767, 131071, 262143, 32767, 32767, 1605631, 3702783, 8388607, 16777215, 33554431, 33554431, 33554431, 268435455, 33554431, 33554431, 33554431, 4294967295, 8589934591, 17179869183, 34359738367, 68719476735]
theorem r8Level.tab13 : rtab .any (opsOf Try.f65 13) = r8Level.T13 := by kernel_rfl
theorem r8Level.bits13 : waitsOk r8Level.T13.2 r8Level.B13 = true := by kernel_rfl
set_option maxHeartbeats 8000000 in
set_option maxRecDepth 100000 in
theorem r8Level.calls (k : Nat) (A0_0 : Option Addr) (c0_0 : Nat) (l0_0 : List Int) (A0_1 : Option Addr) (c0_1 : Nat) (l0_1 : List Int) (a1 : Int) (r : List Int) (w : World) (hr0_0 : Kd.C (Kd.int .i64) w A0_0 l0_0.length l0_0) (hc0_0 : l0_0.length ≤ c0_0) (hr0_1 : Kd.C (Kd.int .i64) w A0_1 l0_1.length l0_1) (hc0_1 : l0_1.length ≤ c0_1) (h : r8Level.f k l0_0 l0_1 a1 = some r) :
  Calls Try.prog 65 #[.agg #[.slice A0_0 l0_0.length c0_0, .slice A0_1 l0_1.length c0_1], .int .i64 a1] w fun e w' => ∃ v0_ : Value, e = .returned (v0_) ∧ Kd.R (Kd.int .i64) 3 w' w.heap.size (fun _ => True) v0_ r ∧ Below w.heap.size w w' := by
 have hu24 := Try.underlying24
 have HR0_0 := As0.mk hr0_0
 have HC0_0 := As0.mk hc0_0
 clear hr0_0 hc0_0
 have HR0_1 := As0.mk hr0_1
 have HC0_1 := As0.mk hc0_1
 clear hr0_1 hc0_1
 have HB := As0.mk (Below.refl w.heap.size w)
 have H : (if 0 ≤ (l0_0.length : Int) then (if ((l0_0.length : Int) : Int).toNat ≤ 35184372088832 then (r8Level.l0 k (List.replicate ((l0_0.length : Int) : Int).toNat 0) (wrap64 (a1 + 1)) 0 l0_0 l0_1) else (none)) else (none)) = some r := h
 clear h
 by_cases c3 : 0 ≤ (l0_0.length : Int)
 ·rw [if_pos c3] at H
  have c3b0 := eq_true c3
  have c3b1 : decide (0 ≤ (l0_0.length : Int)) = true := decide_eq_true c3
  clear c3
  by_cases c4 : ((l0_0.length : Int) : Int).toNat ≤ 35184372088832
  ·rw [if_pos c4] at H
   have c4b0 := eq_true c4
   have c4b1 : decide (((l0_0.length : Int) : Int).toNat ≤ 35184372088832) = true := decide_eq_true c4
   clear c4
   obtain ⟨y127, hy127⟩ : ∃ y_ : List Int, y_ = (List.replicate ((l0_0.length : Int) : Int).toNat 0) := ⟨_, rfl⟩
   replace H : (r8Level.l0 k y127 (wrap64 (a1 + 1)) 0 l0_0 l0_1) = some r := by first | (rw [hy127]; with_reducible exact H) | (have H2_ := (Option.bind_some _ _).symm.trans H; rw [hy127]; with_reducible exact H2_) | (have H2_ := (Option.bind_some _ _).symm.trans H; with_reducible exact H2_) | with_reducible exact H | (rw [hy127]; exact H) | exact H
   have Ny127 := As0.mk hy127
   clear hy127
   have H' := As0.mk H
   clear H
   go_enter Try.func65, Try.ntmps65
   go_wp2_with (first | ((with_reducible refine gate_dst (N := 2) rfl ?_); refine box_event ?hg (N := 2) ?hd (cs := #[.slice A0_0 l0_0.length c0_0, .slice A0_1 l0_1.length c0_1]) (t := 24) ?hr ?_; (case hd => rfl); (case hg => rfl); (case hr => first | (go_simp; done) | (go_simp; rfl)); intro gb126 hg w5 hbox hb; have n0_ := As0.mk (bst (by repeat (first | (with_reducible first | exact HB.out | apply below_alloc | apply pwd | apply bd1) | exact HB.out)) hb); have n1_ := As0.mk (hbox); have n2_ := As0.mk ((by rw [hg]; exact (below_size (by repeat (first | (with_reducible first | exact HB.out | apply below_alloc | apply pwd | apply bd1) | exact HB.out))) : w.heap.size ≤ gb126)); have n3_ := As0.mk ((by rw [hg]; exact (below_size (by repeat (first | (with_reducible first | exact HB.out | apply below_alloc | apply pwd | apply bd1) | exact HB.out))) : w.heap.size ≤ gb126)); clear HB; have HB := n0_; have BK126 := n1_; have GW126 := n2_; have GE126 := n3_; clear n0_ n1_ n2_ n3_; clear hb hbox hg; have hcz6_0 : w5.cell? ⟨gb126, 0, none⟩ = some (.slice A0_0 l0_0.length c0_0) := (blk_cell BK126.out 0).trans rfl; have hcz6_1 : w5.cell? ⟨gb126, 1, none⟩ = some (.slice A0_1 l0_1.length c0_1) := (blk_cell BK126.out 1).trans rfl; have hfz6_0 := blk_frozen BK126.out 0; have hfz6_1 := blk_frozen BK126.out 1) | ((with_reducible refine gate_dst (N := 13) rfl ?_); refine Kd.R_make (Kd.int .i64) _ 3 rfl (N := 13) rfl 22 _ _ rfl (l0_0.length : Int) rfl rfl Try.underlying22 (.int .i64 0) 8 info3 rfl (by decide) (by omega) 0 (ok := fun _ => True) (okp := fun _ => True) rfl (fun _ hk => hk) trivial (of_decide_eq_true (by first | (with_reducible assumption) | assumption)) (Nat.le_trans (Nat.mul_le_mul_right _ (of_decide_eq_true (by first | (with_reducible assumption) | assumption) : (l0_0.length : Int).toNat ≤ 35184372088832)) (by omega)) (Below.refl _ _) (Nat.le_refl _) ?_; intro v128 w7 ho8 hb hg_ hnew_; clear hg_ hnew_; (first | rw [← Ny127.out] at ho8 | (simp only [Int.reduceToNat] at ho8; rw [← Ny127.out] at ho8)); have n0_ := As0.mk (Kd.R_lower ho8 (below_size (by repeat (first | (with_reducible first | exact HB.out | apply below_alloc | apply pwd | apply bd1 | refine below_set ?_ GE126.out) | exact HB.out)))); have n1_ := As0.mk (blk_below (g := gb126) (o := .cells #[.slice A0_0 l0_0.length c0_0, .slice A0_1 l0_1.length c0_1] 24 (0, 0)) (by (with_reducible repeat (first | refine blk_drewN ?_ _ | refine blk_drew ?_ | refine blk_alloc ?_ _)); exact BK126.out) hb); have n2_ := As0.mk (bst (by repeat (first | (with_reducible first | exact HB.out | apply below_alloc | apply pwd | apply bd1 | refine below_set ?_ GE126.out) | exact HB.out)) hb); clear BK126; clear HB; have HO129 := n0_; have BK126 := n1_; have HB := n2_; clear n0_ n1_ n2_; clear hb ho8))
   go_loopg [5, 16] k (fun kq v5 v16 w' => ∃ (x5_1 : List Int) (x16_1 : Int), v16 = .int .i64 x16_1 ∧ As0 (r8Level.l0 kq x5_1 (wrap64 (a1 + 1)) x16_1 l0_0 l0_1 = some r) ∧ As0 (kq ≤ k) ∧ As0 (Kd.R (Kd.int .i64) 3 w' w.heap.size (fun _ => True) v5 x5_1) ∧ As0 (w'.heap[gb126]? = some (.cells #[(.slice A0_0 l0_0.length c0_0), (.slice A0_1 l0_1.length c0_1)] 24 (0, 0))) ∧ As0 (Below w.heap.size w w'))
   case atStart => exact ⟨(y127), (0), (by first | rfl | (simp; done) | (simp [*]; done)), H', ⟨Nat.le_refl _⟩, ⟨by (with_reducible repeat (first | apply Kd.R_alloc | apply Kd.R_drewN | apply Kd.R_drew)); exact HO129.out⟩, ⟨by (with_reducible repeat (first | refine blk_drewN ?_ _ | refine blk_drew ?_ | refine blk_alloc ?_ _)); exact BK126.out⟩, ⟨by repeat (first | (with_reducible first | exact HB.out | apply below_alloc | apply pwd | apply bd1 | refine below_set ?_ GE126.out) | exact HB.out)⟩⟩
   case round =>
    clear H'
    try clear p2
    try clear c3
    try clear c3b0
    try clear c3b1
    try clear c4
    try clear c4b0
    try clear c4b1
    try clear c6
    try clear p6
    try clear hcz6_0
    try clear hcz6_1
    try clear hfz6_0
    try clear hfz6_1
    obtain ⟨x5_1, x16_1, rfl, HA, HK1, HO_5, BK126, HB⟩ := hrel
    cases gk with
    | zero => exact absurd HA.out (by simp [r8Level.l0])
    | succ k1 =>
     have H := HA.out
     clear HA
     simp only [r8Level.l0] at H
     by_cases c9 : x16_1 < (wrap64 (a1 + 1))
     ·rw [if_pos c9] at H
      have c9b0 : decide (x16_1 < (wrap64 (a1 + 1))) = true := decide_eq_true c9
      clear c9
      by_cases c10 : 0 ≤ (x5_1.length : Int)
      ·rw [if_pos c10] at H
       have c10b0 := eq_true c10
       have c10b1 : decide (0 ≤ (x5_1.length : Int)) = true := decide_eq_true c10
       clear c10
       by_cases c11 : ((x5_1.length : Int) : Int).toNat ≤ 35184372088832
       ·rw [if_pos c11] at H
        have c11b0 := eq_true c11
        have c11b1 : decide (((x5_1.length : Int) : Int).toNat ≤ 35184372088832) = true := decide_eq_true c11
        clear c11
        obtain ⟨y130, hy130⟩ : ∃ y_ : List Int, y_ = (List.replicate ((x5_1.length : Int) : Int).toNat 0) := ⟨_, rfl⟩
        replace H : (r8Level.l1 k1 x5_1 x16_1 y130 (wrap64 (a1 + 1)) x16_1 (x5_1.length : Int) 0 l0_0 l0_1) = some r := by first | (rw [hy130]; with_reducible exact H) | (have H2_ := (Option.bind_some _ _).symm.trans H; rw [hy130]; with_reducible exact H2_) | (have H2_ := (Option.bind_some _ _).symm.trans H; with_reducible exact H2_) | with_reducible exact H | (rw [hy130]; exact H) | exact H
        have Ny130 := As0.mk hy130
        clear hy130
        have H' := As0.mk H
        clear H
        obtain ⟨Ao12, co12, eo12⟩ := Kd.R_slice HO_5.out
        subst eo12
        go_wp2_with (first | ((with_reducible refine gate_dst (N := 21) rfl ?_); refine Kd.R_make (Kd.int .i64) _ 3 rfl (N := 21) rfl 22 _ _ rfl (x5_1.length : Int) rfl rfl Try.underlying22 (.int .i64 0) 8 info3 rfl (by decide) (by omega) 0 (ok := fun _ => True) (okp := fun _ => True) rfl (fun _ hk => hk) trivial (of_decide_eq_true (by first | (with_reducible assumption) | assumption)) (Nat.le_trans (Nat.mul_le_mul_right _ (of_decide_eq_true (by first | (with_reducible assumption) | assumption) : (x5_1.length : Int).toNat ≤ 35184372088832)) (by omega)) (Below.refl _ _) (Nat.le_refl _) ?_; intro v131 w13 ho14 hb hg_ hnew_; clear hg_ hnew_; (first | rw [← Ny130.out] at ho14 | (simp only [Int.reduceToNat] at ho14; rw [← Ny130.out] at ho14)); have n0_ := As0.mk (Kd.R_elder' (by (with_reducible repeat (first | apply Kd.R_alloc | apply Kd.R_drewN | apply Kd.R_drew)); exact HO_5.out) (Kd.R_base ho14) hb); have n1_ := As0.mk (Kd.R_lower (Kd.R_new' ho14 (Kd.R_lt (by (with_reducible repeat (first | apply Kd.R_alloc | apply Kd.R_drewN | apply Kd.R_drew)); exact HO_5.out))) (below_size (by repeat (first | (with_reducible first | exact HB.out | apply below_alloc | apply pwd | apply bd1 | refine below_set ?_ GE126.out) | exact HB.out)))); have n2_ := As0.mk (blk_below (g := gb126) (o := .cells #[.slice A0_0 l0_0.length c0_0, .slice A0_1 l0_1.length c0_1] 24 (0, 0)) (by (with_reducible repeat (first | refine blk_drewN ?_ _ | refine blk_drew ?_ | refine blk_alloc ?_ _)); exact BK126.out) hb); have n3_ := As0.mk (bst (by repeat (first | (with_reducible first | exact HB.out | apply below_alloc | apply pwd | apply bd1 | refine below_set ?_ GE126.out) | exact HB.out)) hb); clear HO_5; clear BK126; clear HB; have HO_5 := n0_; have HO132 := n1_; have BK126 := n2_; have HB := n3_; clear n0_ n1_ n2_ n3_; clear hb ho14))
        go_loopg [24] k1 (fun kq v24 w' => ∃ (x7_2 : List Int) (x24_2 : Int), v24 = .int .i64 x24_2 ∧ As0 (r8Level.l1 kq x5_1 x16_1 x7_2 (wrap64 (a1 + 1)) x16_1 (x5_1.length : Int) x24_2 l0_0 l0_1 = some r) ∧ As0 (kq ≤ k1) ∧ As0 (Kd.R (Kd.int .i64) 3 w' w.heap.size (fun k_ => some k_ ≠ (v131 : Value).ownBlock) (.slice Ao12 x5_1.length co12) x5_1) ∧ As0 (Kd.R (Kd.int .i64) 3 w' w.heap.size (fun k_ => some k_ ≠ ((.slice Ao12 x5_1.length co12) : Value).ownBlock) v131 x7_2) ∧ As0 (w'.heap[gb126]? = some (.cells #[(.slice A0_0 l0_0.length c0_0), (.slice A0_1 l0_1.length c0_1)] 24 (0, 0))) ∧ As0 (Below w.heap.size w w'))
        case atStart => exact ⟨(y130), (0), (by first | rfl | (simp; done) | (simp [*]; done)), H', ⟨Nat.le_refl _⟩, ⟨by (with_reducible repeat (first | apply Kd.R_alloc | apply Kd.R_drewN | apply Kd.R_drew)); exact Kd.R_mono HO_5.out (fun _ hk => hk.2)⟩, ⟨by (with_reducible repeat (first | apply Kd.R_alloc | apply Kd.R_drewN | apply Kd.R_drew)); exact Kd.R_mono HO132.out (fun _ hk => hk.2)⟩, ⟨by (with_reducible repeat (first | refine blk_drewN ?_ _ | refine blk_drew ?_ | refine blk_alloc ?_ _)); exact BK126.out⟩, ⟨by repeat (first | (with_reducible first | exact HB.out | apply below_alloc | apply pwd | apply bd1 | refine below_set ?_ GE126.out) | exact HB.out)⟩⟩
        case round =>
         clear H'
         try clear c1
         try clear p2
         try clear c3
         try clear c3b0
         try clear c3b1
         try clear c4
         try clear c4b0
         try clear c4b1
         try clear c6
         try clear p6
         try clear c9
         try clear c9b0
         try clear c10
         try clear c10b0
         try clear c10b1
         try clear c11
         try clear c11b0
         try clear c11b1
         try clear hcz6_0
         try clear hcz6_1
         try clear hfz6_0
         try clear hfz6_1
         try clear p2
         try clear p6
         obtain ⟨x7_2, x24_2, rfl, HA, HK2, HO_5, HO_7, BK126, HB⟩ := hrel
         cases gk with
         | zero => exact absurd HA.out (by simp [r8Level.l1])
         | succ k2 =>
          have H := HA.out
          clear HA
          simp only [r8Level.l1] at H
          by_cases c15 : x24_2 < (x5_1.length : Int)
          ·rw [if_pos c15] at H
           have c15b0 : decide (x24_2 < (x5_1.length : Int)) = true := decide_eq_true c15
           clear c15
           by_cases c16 : 0 ≤ x24_2
           ·rw [if_pos c16] at H
            have c16b0 : decide (0 ≤ x24_2) = true := decide_eq_true c16
            clear c16
            by_cases c17 : x24_2 < (x7_2.length : Int)
            ·rw [if_pos c17] at H
             have c17b0 : decide (x24_2 < (x7_2.length : Int)) = true := decide_eq_true c17
             clear c17
             obtain ⟨y133, hy133⟩ : ∃ y_ : List Int, y_ = (x7_2.set (x24_2 : Int).toNat x24_2) := ⟨_, rfl⟩
             replace H : (r8Level.l2 k2 x5_1 x16_1 y133 x24_2 (wrap64 (x24_2 - 1)) (wrap64 (a1 + 1)) x16_1 (x5_1.length : Int) x24_2 l0_0 l0_1) = some r := by first | (rw [hy133]; with_reducible exact H) | (have H2_ := (Option.bind_some _ _).symm.trans H; rw [hy133]; with_reducible exact H2_) | (have H2_ := (Option.bind_some _ _).symm.trans H; with_reducible exact H2_) | with_reducible exact H | (rw [hy133]; exact H) | exact H
             have Ny133 := As0.mk hy133
             clear hy133
             have H' := As0.mk H
             clear H
             have p18 : 0 ≤ (x24_2 : Int) := of_decide_eq_true (by first | (with_reducible assumption) | assumption)
             have q18 : (x24_2 : Int) < ((x7_2.length : Int) : Int) := of_decide_eq_true (by first | (with_reducible assumption) | assumption)
             obtain ⟨go18, co18, eo18, gb18, gl18, cl18, HG18⟩ := Kd.R_form HO_7.out (by omega)
             (first | cases eo18 | (injection eo18 with ea_ en_ ec_; (first | subst ea_ | (injection ea_ with ea_; subst ea_)); subst ec_; clear en_))
             have GB18 := As0.mk gb18
             have GG18 := As0.mk HG18
             clear gb18 gl18 HG18
             obtain ⟨hx18_0, hf18_0⟩ := Kd.R_celln 0 HO_7.out (x24_2 : Int) p18 q18
             replace p18 := eq_true p18
             replace q18 := eq_true q18
             have HP19 := Kd.R_putg HO_7.out (x24_2 : Int) x24_2
             go_wp2_with (first | ((with_reducible refine gate_store (t := 3) (p := 30) rfl ?_); refine store_event (t := 3) (p := 30) (v := ?vo_w20) (w1 := (wr.setCell ⟨go18, (x24_2 : Int).toNat, none⟩ (.int .i64 x24_2))) ?hg ?ho ?hn ?hr ?_; (case ho => rfl); (case hg => rfl); (case hn => rfl); (case hr => first | (go_simp; done) | (go_simp; rfl)); intro w20 hw; have hg : wr.grownBy w20 (some go18) := (by rw [hw]; exact HP19.2); have hp_ : Kd.R (Kd.int .i64) 3 w20 w.heap.size (fun k_ => some k_ ≠ (.slice Ao12 x5_1.length co12 : Value).ownBlock) (.slice (some ⟨go18, 0, none⟩) x7_2.length co18) y133 := (by rw [hw, Ny133.out]; exact HP19.1); clear HP19; have n0_ := As0.mk (Kd.R_after (v := (.slice (some ⟨go18, 0, none⟩) x7_2.length co18)) (v1 := (.slice (some ⟨go18, 0, none⟩) x7_2.length co18)) (ok := (fun _ => True)) (by (with_reducible repeat (first | apply Kd.R_alloc | apply Kd.R_drewN | apply Kd.R_drew)); exact Kd.R_mono HO_5.out (fun _ hk => ⟨trivial, hk⟩)) hg (.inl rfl)); have n1_ := As0.mk (hp_); have n2_ := As0.mk (blk_grown (g := gb126) (o := .cells #[.slice A0_0 l0_0.length c0_0, .slice A0_1 l0_1.length c0_1] 24 (0, 0)) (by (with_reducible repeat (first | refine blk_drewN ?_ _ | refine blk_drew ?_ | refine blk_alloc ?_ _)); exact BK126.out) hg (Kd.R_ne HO_7.out BK126.out (by decide))); have n3_ := As0.mk ((by rw [hw]; exact below_set (HB.out) GB18.out : Below w.heap.size w w20)); clear HO_5; clear HO_7; clear BK126; clear HB; have HO_5 := n0_; have HO_7 := n1_; have BK126 := n2_; have HB := n3_; clear n0_ n1_ n2_ n3_; clear hg hw hp_))
             go_loopg [9] k2 (fun kq v9 w' => ∃ (x7_3 : List Int) (x9_3 : Int), v9 = .int .i64 x9_3 ∧ As0 (r8Level.l2 kq x5_1 x16_1 x7_3 x24_2 x9_3 (wrap64 (a1 + 1)) x16_1 (x5_1.length : Int) x24_2 l0_0 l0_1 = some r) ∧ As0 (kq ≤ k2) ∧ As0 (Kd.R (Kd.int .i64) 3 w' w.heap.size (fun k_ => some k_ ≠ ((.slice (some ⟨go18, 0, none⟩) x7_2.length co18) : Value).ownBlock) (.slice Ao12 x5_1.length co12) x5_1) ∧ As0 (Kd.R (Kd.int .i64) 3 w' w.heap.size (fun k_ => some k_ ≠ ((.slice Ao12 x5_1.length co12) : Value).ownBlock) (.slice (some ⟨go18, 0, none⟩) x7_2.length co18) x7_3) ∧ As0 (w'.heap[gb126]? = some (.cells #[(.slice A0_0 l0_0.length c0_0), (.slice A0_1 l0_1.length c0_1)] 24 (0, 0))) ∧ As0 (Below w.heap.size w w'))
             case atStart => exact ⟨(y133), (wrap64 (x24_2 - 1)), (by first | rfl | (simp; done) | (simp [*]; done)), H', ⟨Nat.le_refl _⟩, ⟨by (with_reducible repeat (first | apply Kd.R_alloc | apply Kd.R_drewN | apply Kd.R_drew)); exact Kd.R_mono HO_5.out (fun _ hk => hk.2)⟩, ⟨by (with_reducible repeat (first | apply Kd.R_alloc | apply Kd.R_drewN | apply Kd.R_drew)); exact HO_7.out⟩, ⟨by (with_reducible repeat (first | refine blk_drewN ?_ _ | refine blk_drew ?_ | refine blk_alloc ?_ _)); exact BK126.out⟩, ⟨by repeat (first | (with_reducible first | exact HB.out | apply below_alloc | apply pwd | apply bd1 | refine below_set ?_ GE126.out) | exact HB.out)⟩⟩
             case round =>
              clear H'
              try clear c1
              try clear p1
              try clear q1
              try clear hx1
              try clear p2
              try clear c3
              try clear c3b0
              try clear c3b1
              try clear c4
              try clear c4b0
              try clear c4b1
              try clear c6
              try clear p6
              try clear c9
              try clear c9b0
              try clear c10
              try clear c10b0
              try clear c10b1
              try clear c11
              try clear c11b0
              try clear c11b1
              try clear c15
              try clear c15b0
              try clear c16
              try clear c16b0
              try clear c17
              try clear c17b0
              try clear p18
              try clear q18
              try clear hx18
              try clear hf18
              try clear hcz6_0
              try clear hcz6_1
              try clear hfz6_0
              try clear hfz6_1
              try clear hx18_0
              try clear p18
              try clear p2
              try clear p6
              try clear q18
              obtain ⟨x7_3, x9_3, rfl, HA, HK3, HO_5, HO_7, BK126, HB⟩ := hrel
              have hl7_3 := (Kd.R_reads' HO_7.out).1
              rw [hl7_3] at HO_7
              (try simp only [hl7_3])
              (try simp only [hl7_3] at BK126)
              (try simp only [hl7_3] at HO_5)
              cases gk with
              | zero => exact absurd HA.out (by simp [r8Level.l2])
              | succ k3 =>
               have H := HA.out
               clear HA
               simp only [r8Level.l2] at H
               by_cases c21 : x9_3 ≥ 0
               ·rw [if_pos c21] at H
                have c21b0 : decide (0 ≤ x9_3) = true := decide_eq_true c21
                clear c21
                by_cases c22 : 0 ≤ x24_2
                ·rw [if_pos c22] at H
                 have c22b0 : decide (0 ≤ x24_2) = true := decide_eq_true c22
                 clear c22
                 by_cases c23 : x24_2 < (l0_1.length : Int)
                 ·rw [if_pos c23] at H
                  have c23b0 : decide (x24_2 < (l0_1.length : Int)) = true := decide_eq_true c23
                  clear c23
                  by_cases c24 : 0 ≤ x9_3
                  ·rw [if_pos c24] at H
                   have c24b0 : decide (0 ≤ x9_3) = true := decide_eq_true c24
                   clear c24
                   by_cases c25 : x9_3 < (l0_1.length : Int)
                   ·rw [if_pos c25] at H
                    have c25b0 : decide (x9_3 < (l0_1.length : Int)) = true := decide_eq_true c25
                    clear c25
                    by_cases c26 : (rd l0_1 x24_2) = (rd l0_1 x9_3)
                    ·rw [if_pos c26] at H
                     have c26b0 : ((rd l0_1 x24_2) == (rd l0_1 x9_3)) = true := beq_iff_eq.mpr c26
                     have c26b1 : ((rd l0_1 x24_2) != (rd l0_1 x9_3)) = false := bne_eq_false_iff_eq.mpr c26
                     clear c26
                     by_cases c27 : x16_1 = 0
                     ·rw [if_pos c27] at H
                      have c27b0 : (x16_1 == 0) = true := beq_iff_eq.mpr c27
                      have c27b1 : (x16_1 != 0) = false := bne_eq_false_iff_eq.mpr c27
                      clear c27
                      by_cases c28 : x24_2 < (x7_3.length : Int)
                      ·rw [if_pos c28] at H
                       have c28b0 : decide (x24_2 < (x7_3.length : Int)) = true := decide_eq_true c28
                       clear c28
                       obtain ⟨y136, hy136⟩ : ∃ y_ : List Int, y_ = (x7_3.set (x24_2 : Int).toNat x9_3) := ⟨_, rfl⟩
                       replace H : (r8Level.l2 k3 x5_1 x16_1 y136 x24_2 (wrap64 (x9_3 - 1)) (wrap64 (a1 + 1)) x16_1 (x5_1.length : Int) x24_2 l0_0 l0_1) = some r := by first | (rw [hy136]; with_reducible exact H) | (have H2_ := (Option.bind_some _ _).symm.trans H; rw [hy136]; with_reducible exact H2_) | (have H2_ := (Option.bind_some _ _).symm.trans H; with_reducible exact H2_) | with_reducible exact H | (rw [hy136]; exact H) | exact H
                       have Ny136 := As0.mk hy136
                       clear hy136
                       have H' := As0.mk H
                       clear H
                       try go_wp2
                       have n0_ := As0.mk (Kd.R_drew HO_5.out)
                       have n1_ := As0.mk (Kd.R_drew HO_7.out)
                       have n2_ := As0.mk (blk_drew BK126.out)
                       have n3_ := As0.mk (bd1 HB.out)
                       clear HO_5
                       clear HO_7
                       clear BK126
                       clear HB
                       have HO_5 := n0_
                       have HO_7 := n1_
                       have BK126 := n2_
                       have HB := n3_
                       clear n0_ n1_ n2_ n3_
                       have p134 : 0 ≤ (x24_2 : Int) := of_decide_eq_true (by first | (with_reducible assumption) | assumption)
                       have q134 : x24_2 < (l0_1.length : Int) := of_decide_eq_true (by first | (with_reducible assumption) | assumption)
                       obtain ⟨ad134, e134, hx134_0⟩ := Kd.at_int HR0_1.out x24_2 p134 q134
                       have hw134_0 := hx134_0
                       cases e134
                       replace hx134_0 := (HB.out.cell (World.block_lt_of_cell? w _ hx134_0)).trans hx134_0
                       replace p134 := eq_true p134
                       replace q134 := eq_true q134
                       have p135 : 0 ≤ (x9_3 : Int) := of_decide_eq_true (by first | (with_reducible assumption) | assumption)
                       have q135 : x9_3 < (l0_1.length : Int) := of_decide_eq_true (by first | (with_reducible assumption) | assumption)
                       obtain ⟨ad135, e135, hx135_0⟩ := Kd.at_int HR0_1.out x9_3 p135 q135
                       have hw135_0 := hx135_0
                       obtain rfl : ad134 = ad135 := (by injection e135)
                       replace hx135_0 := (HB.out.cell (World.block_lt_of_cell? w _ hx135_0)).trans hx135_0
                       replace p135 := eq_true p135
                       replace q135 := eq_true q135
                       refine start_ (n := 37) (S := fun w' => w'.cell? ⟨gb126, 0, none⟩ = some (.slice A0_0 l0_0.length c0_0) ∧ w'.cell? ⟨gb126, 1, none⟩ = some (.slice (some ad134) l0_1.length c0_1) ∧ w'.cell? (ad134.add (x24_2).toNat) = some (.int .i64 (rd l0_1 x24_2)) ∧ w'.cell? (ad134.add (x9_3).toNat) = some (.int .i64 (rd l0_1 x9_3))) (ds := []) Mq91 (by kernel_rfl) rfl rfl ⟨(blk_cell BK126.out 0).trans rfl, (blk_cell BK126.out 1).trans rfl, ((HB.out.cell (World.block_lt_of_cell? w _ hw134_0)).trans hw134_0), ((HB.out.cell (World.block_lt_of_cell? w _ hw135_0)).trans hw135_0)⟩ (fun hHeld => ?_); refine with_tabW r8Level.tab13 r8Level.bits13 (fun HT_ HW_ => ?_)
                       generalize wr.drew = w30 at HO_5 HO_7 BK126 HB hx134_0 hx135_0 hHeld ⊢
                       refine pw (v := ?_) (a' := ?_) 0 (some 37) Mq92 HT_.out ?_ ?_ ?_
                       rotate_left;(intro w';go_simp;with_reducible rfl);rotate_left;(simp only [Act.put, sq];rfl)
                       refine pw (v := ?_) (a' := ?_) 2 (some 39) Mq93 HT_.out ?_ ?_ ?_
                       rotate_left;(intro w';go_simp;with_reducible rfl);rotate_left;(simp only [Act.put, sq];rfl)
                       refine pw (v := ?_) (a' := ?_) 5 (some 42) Mq94 HT_.out ?_ ?_ ?_
                       rotate_left;(intro w';go_simp;with_reducible rfl);rotate_left;(simp only [Act.put, sq];rfl)
                       refine pw (v := ?_) (a' := ?_) 7 (some 44) Mq95 HT_.out ?_ ?_ ?_
                       rotate_left;(intro w';go_simp;with_reducible rfl);rotate_left;(simp only [Act.put, sq];rfl)
                       refine tw (v := ?_) (a' := ?_) 1 (some 38) Mq96 HT_.out HW_.out ?_ hHeld ?_ ?_
                       rotate_left
                       ·rintro w' ⟨s0, s1, s2, s3⟩
                        go_simp
                        with_reducible rfl
                       rotate_left
                       ·simp only [Act.put, sq]
                        rfl
                       refine pw (v := ?_) (a' := ?_) 3 (some 40) Mq97 HT_.out ?_ ?_ ?_
                       rotate_left;(intro w';go_simp;with_reducible rfl);rotate_left;(simp only [Act.put, sq];rfl)
                       refine tw (v := ?_) (a' := ?_) 4 (some 41) Mq98 HT_.out HW_.out ?_ hHeld ?_ ?_
                       rotate_left
                       ·rintro w' ⟨s0, s1, s2, s3⟩
                        go_simp
                        with_reducible rfl
                       rotate_left
                       ·simp only [Act.put, sq]
                        rfl
                       refine tw (v := ?_) (a' := ?_) 6 (some 43) Mq99 HT_.out HW_.out ?_ hHeld ?_ ?_
                       rotate_left
                       ·rintro w' ⟨s0, s1, s2, s3⟩
                        go_simp
                        with_reducible rfl
                       rotate_left
                       ·simp only [Act.put, sq]
                        rfl
                       refine pw (v := ?_) (a' := ?_) 8 (some 45) Mq100 HT_.out ?_ ?_ ?_
                       rotate_left;(intro w';go_simp;with_reducible rfl);rotate_left;(simp only [Act.put, sq];rfl)
                       refine tw (v := ?_) (a' := ?_) 9 (some 46) Mq101 HT_.out HW_.out ?_ hHeld ?_ ?_
                       rotate_left
                       ·rintro w' ⟨s0, s1, s2, s3⟩
                        go_simp
                        with_reducible rfl
                       rotate_left
                       ·simp only [Act.put, sq]
                        rfl
                       refine pw (v := ?_) (a' := ?_) 10 (some 47) Mq102 HT_.out ?_ ?_ ?_
                       rotate_left;(intro w';go_simp;with_reducible rfl);rotate_left;(simp only [Act.put, sq];rfl)
                       refine pw (v := ?_) (a' := ?_) 11 (some 48) Mq103 HT_.out ?_ ?_ ?_
                       rotate_left;(intro w';go_simp;with_reducible rfl);rotate_left;(simp only [Act.put, sq];rfl)
                       refine pw (v := ?_) (a' := ?_) 12 (some 49) Mq104 HT_.out ?_ ?_ ?_
                       rotate_left;(intro w';go_simp;with_reducible rfl);rotate_left;(simp only [Act.put, sq];rfl)
                       refine pw (v := ?_) (a' := ?_) 13 (some 50) Mq105 HT_.out ?_ ?_ ?_
                       rotate_left;(intro w';go_simp;with_reducible rfl);rotate_left;(simp only [Act.put, sq];rfl)
                       refine pw (v := ?_) (a' := ?_) 14 (some 51) Mq106 HT_.out ?_ ?_ ?_
                       rotate_left;(intro w';go_simp;with_reducible rfl);rotate_left;(simp only [Act.put, sq];rfl)
                       refine pu (a' := ?_) 15 (some 52) Mq107 HT_.out ?_ ?_
                       rotate_left
                       ·simp only [Act.put, sq]
                        rfl
                       refine pu (a' := ?_) 16 (some 53) Mq108 HT_.out ?_ ?_
                       rotate_left
                       ·simp only [Act.put, sq]
                        rfl
                       refine pu (a' := ?_) 17 (some 54) Mq109 HT_.out ?_ ?_
                       rotate_left
                       ·simp only [Act.put, sq]
                        rfl
                       refine pu (a' := ?_) 18 (some 55) Mq110 HT_.out ?_ ?_
                       rotate_left
                       ·simp only [Act.put, sq]
                        rfl
                       refine pu (a' := ?_) 19 (some 56) Mq111 HT_.out ?_ ?_
                       rotate_left
                       ·simp only [Act.put, sq]
                        rfl
                       refine pu (a' := ?_) 20 (some 57) Mq112 HT_.out ?_ ?_
                       rotate_left
                       ·simp only [Act.put, sq]
                        rfl
                       refine pu (a' := ?_) 21 (some 58) Mq113 HT_.out ?_ ?_
                       rotate_left
                       ·simp only [Act.put, sq]
                        rfl
                       refine pu (a' := ?_) 22 (some 59) Mq114 HT_.out ?_ ?_
                       rotate_left
                       ·simp only [Act.put, sq]
                        rfl
                       refine pu (a' := ?_) 23 (some 60) Mq115 HT_.out ?_ ?_
                       rotate_left
                       ·simp only [Act.put, sq]
                        rfl
                       refine pu (a' := ?_) 24 (some 61) Mq116 HT_.out ?_ ?_
                       rotate_left
                       ·simp only [Act.put, sq]
                        rfl
                       refine pu (a' := ?_) 25 (some 62) Mq117 HT_.out ?_ ?_
                       rotate_left
                       ·simp only [Act.put, sq]
                        rfl
                       refine pu (a' := ?_) 26 (some 63) Mq118 HT_.out ?_ ?_
                       rotate_left
                       ·simp only [Act.put, sq]
                        rfl
                       refine pu (a' := ?_) 27 (some 64) Mq119 HT_.out ?_ ?_
                       rotate_left
                       ·simp only [Act.put, sq]
                        rfl
                       refine pu (a' := ?_) 28 (some 65) Mq120 HT_.out ?_ ?_
                       rotate_left
                       ·simp only [Act.put, sq]
                        rfl
                       refine pu (a' := ?_) 29 (some 66) Mq121 HT_.out ?_ ?_
                       rotate_left
                       ·simp only [Act.put, sq]
                        rfl
                       refine pu (a' := ?_) 30 (some 67) Mq122 HT_.out ?_ ?_
                       rotate_left
                       ·simp only [Act.put, sq]
                        rfl
                       refine pu (a' := ?_) 31 (some 68) Mq123 HT_.out ?_ ?_
                       rotate_left
                       ·simp only [Act.put, sq]
                        rfl
                       refine pu (a' := ?_) 32 (some 69) Mq124 HT_.out ?_ ?_
                       rotate_left
                       ·simp only [Act.put, sq]
                        rfl
                       refine pu (a' := ?_) 33 (some 70) Mq125 HT_.out ?_ ?_
                       rotate_left
                       ·simp only [Act.put, sq]
                        rfl
                       refine pu (a' := ?_) 34 (some 71) Mq126 HT_.out ?_ ?_
                       rotate_left
                       ·simp only [Act.put, sq]
                        rfl
                       refine pw (v := ?_) (a' := ?_) 35 (some 72) Mq127 HT_.out ?_ ?_ ?_
                       rotate_left;(intro w';go_simp;with_reducible rfl);rotate_left;(simp only [Act.put, sq];rfl)
                       refine pw (v := ?_) (a' := ?_) 36 (some 73) Mq128 HT_.out ?_ ?_ ?_
                       rotate_left;(intro w';go_simp;with_reducible rfl);rotate_left;(simp only [Act.put, sq];rfl)
                       refine done_ (done_of HT_.out (by kernel_rfl)) ?_
                       have p29 : 0 ≤ (x24_2 : Int) := of_decide_eq_true (by first | (with_reducible assumption) | assumption)
                       have q29 : (x24_2 : Int) < ((x7_3.length : Int) : Int) := of_decide_eq_true (by first | (with_reducible assumption) | assumption)
                       obtain ⟨hx29_0, hf29_0⟩ := Kd.R_celln 0 HO_7.out (x24_2 : Int) p29 q29
                       replace p29 := eq_true p29
                       replace q29 := eq_true q29
                       obtain ⟨hy31_, hz31_⟩ := Kd.R_celln 0 HO_7.out (x24_2 : Int) (of_decide_eq_true (by first | (with_reducible assumption) | assumption)) (of_decide_eq_true (by first | (with_reducible assumption) | assumption))
                       have HP31 := Kd.R_putg HO_7.out (x24_2 : Int) x9_3
                       try go_wp2_with (first | ((with_reducible refine gate_store (t := 3) (p := 77) rfl ?_); refine store_event (t := 3) (p := 77) (v := ?vo_w32) (w1 := (w30.setCell ⟨go18, (x24_2 : Int).toNat, none⟩ (.int .i64 x9_3))) ?hg ?ho ?hn ?hr ?_; (case ho => rfl); (case hg => rfl); (case hn => rfl); (case hr => first | (go_simp; done) | (go_simp; rfl)); intro w32 hw; have hg : w30.grownBy w32 (some go18) := (by rw [hw]; exact HP31.2); have hp_ : Kd.R (Kd.int .i64) 3 w32 w.heap.size (fun k_ => some k_ ≠ (.slice Ao12 x5_1.length co12 : Value).ownBlock) (.slice (some ⟨go18, 0, none⟩) x7_3.length co18) y136 := (by rw [hw, Ny136.out]; exact HP31.1); clear HP31; have n0_ := As0.mk (Kd.R_after (v := (.slice (some ⟨go18, 0, none⟩) x7_3.length co18)) (v1 := (.slice (some ⟨go18, 0, none⟩) x7_3.length co18)) (ok := (fun _ => True)) (by (with_reducible repeat (first | apply Kd.R_alloc | apply Kd.R_drewN | apply Kd.R_drew)); exact Kd.R_mono HO_5.out (fun _ hk => ⟨trivial, hk⟩)) hg (.inl rfl)); have n1_ := As0.mk (hp_); have n2_ := As0.mk (blk_grown (g := gb126) (o := .cells #[.slice A0_0 l0_0.length c0_0, .slice (some ad134) l0_1.length c0_1] 24 (0, 0)) (by (with_reducible repeat (first | refine blk_drewN ?_ _ | refine blk_drew ?_ | refine blk_alloc ?_ _)); exact BK126.out) hg (Kd.R_ne HO_7.out BK126.out (by decide))); have n3_ := As0.mk ((by rw [hw]; exact below_set (HB.out) GB18.out : Below w.heap.size w w32)); clear HO_5; clear HO_7; clear BK126; clear HB; have HO_5 := n0_; have HO_7 := n1_; have BK126 := n2_; have HB := n3_; clear n0_ n1_ n2_ n3_; clear hg hw hp_))
                       (try simp only [← hl7_3])
                       go_roundg k3
                       case measure => have := HK1.out; have := HK2.out; have := HK3.out; omega
                       case rel => exact ⟨(y136), (wrap64 (x9_3 - 1)), (by first | rfl | (simp; done) | (simp [*]; done)), H', ⟨by have := HK1.out; have := HK2.out; have := HK3.out; omega⟩, ⟨by (try simp only [hl7_3]); (with_reducible repeat (first | apply Kd.R_alloc | apply Kd.R_drewN | apply Kd.R_drew)); exact Kd.R_mono HO_5.out (fun _ hk => hk.2)⟩, ⟨by (try simp only [hl7_3]); (with_reducible repeat (first | apply Kd.R_alloc | apply Kd.R_drewN | apply Kd.R_drew)); exact HO_7.out⟩, ⟨by (try simp only [hl7_3]); (with_reducible repeat (first | refine blk_drewN ?_ _ | refine blk_drew ?_ | refine blk_alloc ?_ _)); exact BK126.out⟩, ⟨by repeat (first | (with_reducible first | exact HB.out | apply below_alloc | apply pwd | apply bd1 | refine below_set ?_ GE126.out) | exact HB.out)⟩⟩
                      ·rw [if_neg c28] at H
                       exact absurd H (by simp)
                     ·rw [if_neg c27] at H
                      have c27b0 : (x16_1 == 0) = false := beq_eq_false_iff_ne.mpr c27
                      have c27b1 : (x16_1 != 0) = true := bne_iff_ne.mpr c27
                      by_cases c33 : x24_2 < (x5_1.length : Int)
                      ·rw [if_pos c33] at H
                       have c33b0 : decide (x24_2 < (x5_1.length : Int)) = true := decide_eq_true c33
                       clear c33
                       by_cases c34 : x9_3 < (x5_1.length : Int)
                       ·rw [if_pos c34] at H
                        have c34b0 : decide (x9_3 < (x5_1.length : Int)) = true := decide_eq_true c34
                        clear c34
                        by_cases c35 : (rd x5_1 x24_2) = (rd x5_1 x9_3)
                        ·rw [if_pos c35] at H
                         have c35b0 : ((rd x5_1 x24_2) == (rd x5_1 x9_3)) = true := beq_iff_eq.mpr c35
                         have c35b1 : ((rd x5_1 x24_2) != (rd x5_1 x9_3)) = false := bne_eq_false_iff_eq.mpr c35
                         clear c35
                         replace H := Option.bind_eq_some_iff.mp H
                         obtain ⟨t139, A360, H⟩ := H
                         replace H : ((r8led.f k3 l0_0 l0_1 x5_1 x9_3).bind fun t140 => (if t139 = t140 then (if x24_2 < (x7_3.length : Int) then (r8Level.l2 k3 x5_1 x16_1 (x7_3.set (x24_2 : Int).toNat x9_3) x24_2 (wrap64 (x9_3 - 1)) (wrap64 (a1 + 1)) x16_1 (x5_1.length : Int) x24_2 l0_0 l0_1) else (none)) else (r8Level.l2 k3 x5_1 x16_1 x7_3 x24_2 (wrap64 (x9_3 - 1)) (wrap64 (a1 + 1)) x16_1 (x5_1.length : Int) x24_2 l0_0 l0_1))) = some r := H
                         have A36 := As0.mk A360
                         clear A360
                         replace H := Option.bind_eq_some_iff.mp H
                         obtain ⟨t140, A370, H⟩ := H
                         replace H : (if t139 = t140 then (if x24_2 < (x7_3.length : Int) then (r8Level.l2 k3 x5_1 x16_1 (x7_3.set (x24_2 : Int).toNat x9_3) x24_2 (wrap64 (x9_3 - 1)) (wrap64 (a1 + 1)) x16_1 (x5_1.length : Int) x24_2 l0_0 l0_1) else (none)) else (r8Level.l2 k3 x5_1 x16_1 x7_3 x24_2 (wrap64 (x9_3 - 1)) (wrap64 (a1 + 1)) x16_1 (x5_1.length : Int) x24_2 l0_0 l0_1)) = some r := H
                         have A37 := As0.mk A370
                         clear A370
                         by_cases c38 : t139 = t140
                         ·rw [if_pos c38] at H
                          have c38b0 : (t139 == t140) = true := beq_iff_eq.mpr c38
                          have c38b1 : (t139 != t140) = false := bne_eq_false_iff_eq.mpr c38
                          clear c38
                          by_cases c39 : x24_2 < (x7_3.length : Int)
                          ·rw [if_pos c39] at H
                           have c39b0 : decide (x24_2 < (x7_3.length : Int)) = true := decide_eq_true c39
                           clear c39
                           obtain ⟨y141, hy141⟩ : ∃ y_ : List Int, y_ = (x7_3.set (x24_2 : Int).toNat x9_3) := ⟨_, rfl⟩
                           replace H : (r8Level.l2 k3 x5_1 x16_1 y141 x24_2 (wrap64 (x9_3 - 1)) (wrap64 (a1 + 1)) x16_1 (x5_1.length : Int) x24_2 l0_0 l0_1) = some r := by first | (rw [hy141]; with_reducible exact H) | (have H2_ := (Option.bind_some _ _).symm.trans H; rw [hy141]; with_reducible exact H2_) | (have H2_ := (Option.bind_some _ _).symm.trans H; with_reducible exact H2_) | with_reducible exact H | (rw [hy141]; exact H) | exact H
                           have Ny141 := As0.mk hy141
                           clear hy141
                           have H' := As0.mk H
                           clear H
                           try go_wp2
                           have n0_ := As0.mk (Kd.R_drew HO_5.out)
                           have n1_ := As0.mk (Kd.R_drew HO_7.out)
                           have n2_ := As0.mk (blk_drew BK126.out)
                           have n3_ := As0.mk (bd1 HB.out)
                           clear HO_5
                           clear HO_7
                           clear BK126
                           clear HB
                           have HO_5 := n0_
                           have HO_7 := n1_
                           have BK126 := n2_
                           have HB := n3_
                           clear n0_ n1_ n2_ n3_
                           have p134 : 0 ≤ (x24_2 : Int) := of_decide_eq_true (by first | (with_reducible assumption) | assumption)
                           have q134 : x24_2 < (l0_1.length : Int) := of_decide_eq_true (by first | (with_reducible assumption) | assumption)
                           obtain ⟨ad134, e134, hx134_0⟩ := Kd.at_int HR0_1.out x24_2 p134 q134
                           have hw134_0 := hx134_0
                           cases e134
                           replace hx134_0 := (HB.out.cell (World.block_lt_of_cell? w _ hx134_0)).trans hx134_0
                           replace p134 := eq_true p134
                           replace q134 := eq_true q134
                           have p135 : 0 ≤ (x9_3 : Int) := of_decide_eq_true (by first | (with_reducible assumption) | assumption)
                           have q135 : x9_3 < (l0_1.length : Int) := of_decide_eq_true (by first | (with_reducible assumption) | assumption)
                           obtain ⟨ad135, e135, hx135_0⟩ := Kd.at_int HR0_1.out x9_3 p135 q135
                           have hw135_0 := hx135_0
                           obtain rfl : ad134 = ad135 := (by injection e135)
                           replace hx135_0 := (HB.out.cell (World.block_lt_of_cell? w _ hx135_0)).trans hx135_0
                           replace p135 := eq_true p135
                           replace q135 := eq_true q135
                           have p137 : 0 ≤ (x24_2 : Int) := of_decide_eq_true (by first | (with_reducible assumption) | assumption)
                           have q137 : x24_2 < (x5_1.length : Int) := of_decide_eq_true (by first | (with_reducible assumption) | assumption)
                           obtain ⟨ad137, e137, hx137_0⟩ := Kd.at_int (Kd.R_reads' HO_5.out).2.2 x24_2 p137 q137
                           cases e137
                           replace p137 := eq_true p137
                           replace q137 := eq_true q137
                           have p138 : 0 ≤ (x9_3 : Int) := of_decide_eq_true (by first | (with_reducible assumption) | assumption)
                           have q138 : x9_3 < (x5_1.length : Int) := of_decide_eq_true (by first | (with_reducible assumption) | assumption)
                           obtain ⟨ad138, e138, hx138_0⟩ := Kd.at_int (Kd.R_reads' HO_5.out).2.2 x9_3 p138 q138
                           obtain rfl : ad137 = ad138 := (by injection e138)
                           replace p138 := eq_true p138
                           replace q138 := eq_true q138
                           refine start_ (n := 37) (S := fun w' => w'.cell? ⟨gb126, 0, none⟩ = some (.slice A0_0 l0_0.length c0_0) ∧ w'.cell? ⟨gb126, 1, none⟩ = some (.slice (some ad134) l0_1.length c0_1) ∧ w'.cell? (ad134.add (x24_2).toNat) = some (.int .i64 (rd l0_1 x24_2)) ∧ w'.cell? (ad134.add (x9_3).toNat) = some (.int .i64 (rd l0_1 x9_3)) ∧ w'.cell? (ad137.add (x24_2).toNat) = some (.int .i64 (rd x5_1 x24_2)) ∧ w'.cell? (ad137.add (x9_3).toNat) = some (.int .i64 (rd x5_1 x9_3))) (ds := []) Mq91 (by kernel_rfl) rfl rfl ⟨(blk_cell BK126.out 0).trans rfl, (blk_cell BK126.out 1).trans rfl, ((HB.out.cell (World.block_lt_of_cell? w _ hw134_0)).trans hw134_0), ((HB.out.cell (World.block_lt_of_cell? w _ hw135_0)).trans hw135_0), hx137_0, hx138_0⟩ (fun hHeld => ?_); refine with_tabW r8Level.tab13 r8Level.bits13 (fun HT_ HW_ => ?_)
                           generalize wr.drew = w41 at HO_5 HO_7 BK126 HB hx134_0 hx135_0 hx137_0 hx138_0 hHeld ⊢
                           refine pw (v := ?_) (a' := ?_) 0 (some 37) Mq92 HT_.out ?_ ?_ ?_
                           rotate_left;(intro w';go_simp;with_reducible rfl);rotate_left;(simp only [Act.put, sq];rfl)
                           refine pw (v := ?_) (a' := ?_) 2 (some 39) Mq93 HT_.out ?_ ?_ ?_
                           rotate_left;(intro w';go_simp;with_reducible rfl);rotate_left;(simp only [Act.put, sq];rfl)
                           refine pw (v := ?_) (a' := ?_) 5 (some 42) Mq94 HT_.out ?_ ?_ ?_
                           rotate_left;(intro w';go_simp;with_reducible rfl);rotate_left;(simp only [Act.put, sq];rfl)
                           refine pw (v := ?_) (a' := ?_) 7 (some 44) Mq95 HT_.out ?_ ?_ ?_
                           rotate_left;(intro w';go_simp;with_reducible rfl);rotate_left;(simp only [Act.put, sq];rfl)
                           refine tw (v := ?_) (a' := ?_) 1 (some 38) Mq96 HT_.out HW_.out ?_ hHeld ?_ ?_
                           rotate_left
                           ·rintro w' ⟨s0, s1, s2, s3, s4, s5⟩
                            go_simp
                            with_reducible rfl
                           rotate_left
                           ·simp only [Act.put, sq]
                            rfl
                           refine pw (v := ?_) (a' := ?_) 3 (some 40) Mq97 HT_.out ?_ ?_ ?_
                           rotate_left;(intro w';go_simp;with_reducible rfl);rotate_left;(simp only [Act.put, sq];rfl)
                           refine tw (v := ?_) (a' := ?_) 4 (some 41) Mq98 HT_.out HW_.out ?_ hHeld ?_ ?_
                           rotate_left
                           ·rintro w' ⟨s0, s1, s2, s3, s4, s5⟩
                            go_simp
                            with_reducible rfl
                           rotate_left
                           ·simp only [Act.put, sq]
                            rfl
                           refine tw (v := ?_) (a' := ?_) 6 (some 43) Mq99 HT_.out HW_.out ?_ hHeld ?_ ?_
                           rotate_left
                           ·rintro w' ⟨s0, s1, s2, s3, s4, s5⟩
                            go_simp
                            with_reducible rfl
                           rotate_left
                           ·simp only [Act.put, sq]
                            rfl
                           refine pw (v := ?_) (a' := ?_) 8 (some 45) Mq100 HT_.out ?_ ?_ ?_
                           rotate_left;(intro w';go_simp;with_reducible rfl);rotate_left;(simp only [Act.put, sq];rfl)
                           refine tw (v := ?_) (a' := ?_) 9 (some 46) Mq101 HT_.out HW_.out ?_ hHeld ?_ ?_
                           rotate_left
                           ·rintro w' ⟨s0, s1, s2, s3, s4, s5⟩
                            go_simp
                            with_reducible rfl
                           rotate_left
                           ·simp only [Act.put, sq]
                            rfl
                           refine pw (v := ?_) (a' := ?_) 10 (some 47) Mq102 HT_.out ?_ ?_ ?_
                           rotate_left;(intro w';go_simp;with_reducible rfl);rotate_left;(simp only [Act.put, sq];rfl)
                           refine pw (v := ?_) (a' := ?_) 11 (some 48) Mq103 HT_.out ?_ ?_ ?_
                           rotate_left;(intro w';go_simp;with_reducible rfl);rotate_left;(simp only [Act.put, sq];rfl)
                           refine pw (v := ?_) (a' := ?_) 12 (some 49) Mq104 HT_.out ?_ ?_ ?_
                           rotate_left;(intro w';go_simp;with_reducible rfl);rotate_left;(simp only [Act.put, sq];rfl)
                           refine pw (v := ?_) (a' := ?_) 13 (some 50) Mq105 HT_.out ?_ ?_ ?_
                           rotate_left;(intro w';go_simp;with_reducible rfl);rotate_left;(simp only [Act.put, sq];rfl)
                           refine pw (v := ?_) (a' := ?_) 14 (some 51) Mq106 HT_.out ?_ ?_ ?_
                           rotate_left;(intro w';go_simp;with_reducible rfl);rotate_left;(simp only [Act.put, sq];rfl)
                           refine pw (v := ?_) (a' := ?_) 15 (some 52) Mq107 HT_.out ?_ ?_ ?_
                           rotate_left;(intro w';go_simp;with_reducible rfl);rotate_left;(simp only [Act.put, sq];rfl)
                           refine pw (v := ?_) (a' := ?_) 16 (some 53) Mq108 HT_.out ?_ ?_ ?_
                           rotate_left;(intro w';go_simp;with_reducible rfl);rotate_left;(simp only [Act.put, sq];rfl)
                           refine pw (v := ?_) (a' := ?_) 17 (some 54) Mq109 HT_.out ?_ ?_ ?_
                           rotate_left;(intro w';go_simp;with_reducible rfl);rotate_left;(simp only [Act.put, sq];rfl)
                           refine pw (v := ?_) (a' := ?_) 19 (some 56) Mq129 HT_.out ?_ ?_ ?_
                           rotate_left;(intro w';go_simp;with_reducible rfl);rotate_left;(simp only [Act.put, sq];rfl)
                           refine pw (v := ?_) (a' := ?_) 20 (some 57) Mq130 HT_.out ?_ ?_ ?_
                           rotate_left;(intro w';go_simp;with_reducible rfl);rotate_left;(simp only [Act.put, sq];rfl)
                           refine pw (v := ?_) (a' := ?_) 21 (some 58) Mq131 HT_.out ?_ ?_ ?_
                           rotate_left;(intro w';go_simp;with_reducible rfl);rotate_left;(simp only [Act.put, sq];rfl)
                           refine tw (v := ?_) (a' := ?_) 18 (some 55) Mq113 HT_.out HW_.out ?_ hHeld ?_ ?_
                           rotate_left
                           ·rintro w' ⟨s0, s1, s2, s3, s4, s5⟩
                            go_simp
                            with_reducible rfl
                           rotate_left
                           ·simp only [Act.put, sq]
                            rfl
                           refine tw (v := ?_) (a' := ?_) 22 (some 59) Mq114 HT_.out HW_.out ?_ hHeld ?_ ?_
                           rotate_left
                           ·rintro w' ⟨s0, s1, s2, s3, s4, s5⟩
                            go_simp
                            with_reducible rfl
                           rotate_left
                           ·simp only [Act.put, sq]
                            rfl
                           refine pw (v := ?_) (a' := ?_) 23 (some 60) Mq115 HT_.out ?_ ?_ ?_
                           rotate_left;(intro w';go_simp;with_reducible rfl);rotate_left;(simp only [Act.put, sq];rfl)
                           refine pw (v := ?_) (a' := ?_) 24 (some 61) Mq116 HT_.out ?_ ?_ ?_
                           rotate_left;(intro w';go_simp;with_reducible rfl);rotate_left;(simp only [Act.put, sq];rfl)
                           refine pw (v := ?_) (a' := ?_) 26 (some 63) Mq132 HT_.out ?_ ?_ ?_
                           rotate_left;(intro w';go_simp;with_reducible rfl);rotate_left;(simp only [Act.put, sq];rfl)
                           refine pw (v := ?_) (a' := ?_) 27 (some 64) Mq133 HT_.out ?_ ?_ ?_
                           rotate_left;(intro w';go_simp;with_reducible rfl);rotate_left;(simp only [Act.put, sq];rfl)
                           refine pw (v := ?_) (a' := ?_) 30 (some 67) Mq134 HT_.out ?_ ?_ ?_
                           rotate_left;(intro w';go_simp;with_reducible rfl);rotate_left;(simp only [Act.put, sq];rfl)
                           refine pw (v := ?_) (a' := ?_) 31 (some 68) Mq135 HT_.out ?_ ?_ ?_
                           rotate_left;(intro w';go_simp;with_reducible rfl);rotate_left;(simp only [Act.put, sq];rfl)
                           refine tw (v := ?_) (a' := ?_) 25 (some 62) Mq136 HT_.out HW_.out ?_ hHeld ?_ ?_
                           rotate_left
                           ·rintro w' ⟨s0, s1, s2, s3, s4, s5⟩
                            go_simp
                            with_reducible rfl
                           rotate_left
                           ·simp only [Act.put, sq]
                            rfl
                           refine tw (v := ?_) (a' := ?_) 29 (some 66) Mq137 HT_.out HW_.out ?_ hHeld ?_ ?_
                           rotate_left
                           ·rintro w' ⟨s0, s1, s2, s3, s4, s5⟩
                            go_simp
                            with_reducible rfl
                           rotate_left
                           ·simp only [Act.put, sq]
                            rfl
                           refine one_ (i := 28) (N := some 65) Mq123 rfl rfl (one_of HT_.out (by kernel_rfl)) (by decide) (fun K hK => ?_)
                           refine goes_ Try.func80 (by kernel_rfl) rfl #[.agg #[.slice A0_0 l0_0.length c0_0, .slice (some ad134) l0_1.length c0_1], .slice (some ad137) x5_1.length co12, .int .i64 x24_2] (by rfl) rfl rfl (by (try simp only [sm]); first | done | rfl | (simp only [List.length_drop, List.length_take]; rfl)) ?_
                           with_reducible refine (r8led.calls k3 _ _ l0_0 _ _ l0_1 _ _ x5_1 x24_2 t139 _ ?side1 ?side2 ?side3 ?side4 ?side5 ?side6 A36.out).mono ?_
                           (case side1 => repeat (first | exact (Kd.C_below HR0_0.out HB.out) | (with_reducible refine Kd.C_alloc ?_ _) | (with_reducible refine Kd.C_drewN ?_ _) | (with_reducible refine Kd.C_drew ?_)))
                           (case side2 => exact HC0_0.out)
                           (case side3 => repeat (first | exact (Kd.C_below HR0_1.out HB.out) | (with_reducible refine Kd.C_alloc ?_ _) | (with_reducible refine Kd.C_drewN ?_ _) | (with_reducible refine Kd.C_drew ?_)))
                           (case side4 => exact HC0_1.out)
                           (case side5 => repeat (first | exact (Kd.R_reads' HO_5.out).2.2 | (with_reducible refine Kd.C_alloc ?_ _) | (with_reducible refine Kd.C_drewN ?_ _) | (with_reducible refine Kd.C_drew ?_)))
                           (case side6 => exact (Kd.R_reads' HO_5.out).2.1)
                           rintro e w42 ⟨rfl, hb⟩
                           have HS4_ := (hb.cell (World.block_lt_of_cell? _ _ (hHeld.2.2.2.2.1))).trans (hHeld.2.2.2.2.1)
                           have HS5_ := (hb.cell (World.block_lt_of_cell? _ _ (hHeld.2.2.2.2.2))).trans (hHeld.2.2.2.2.2)
                           refine ⟨_, rfl, ?_⟩
                           have n0_ := As0.mk (Kd.R_below (by (with_reducible repeat (first | apply Kd.R_alloc | apply Kd.R_drewN | apply Kd.R_drew)); exact HO_5.out) hb)
                           have n1_ := As0.mk (Kd.R_below (by (with_reducible repeat (first | apply Kd.R_alloc | apply Kd.R_drewN | apply Kd.R_drew)); exact HO_7.out) hb)
                           have n2_ := As0.mk (blk_below (g := gb126) (o := .cells #[.slice A0_0 l0_0.length c0_0, .slice (some ad134) l0_1.length c0_1] 24 (0, 0)) (by (with_reducible repeat (first | refine blk_drewN ?_ _ | refine blk_drew ?_ | refine blk_alloc ?_ _)); exact BK126.out) hb)
                           have n3_ := As0.mk (bst (by repeat (first | (with_reducible first | exact HB.out | apply below_alloc | apply pwd | apply bd1 | refine below_set ?_ GE126.out) | exact HB.out)) hb)
                           clear HO_5
                           clear HO_7
                           clear BK126
                           clear HB
                           have HO_5 := n0_
                           have HO_7 := n1_
                           have BK126 := n2_
                           have HB := n3_
                           clear n0_ n1_ n2_ n3_
                           (try clear hb)
                           (try clear hb2)
                           (try clear hk)
                           (try clear hi)
                           refine hK.out _ _ ⟨(blk_cell BK126.out 0).trans rfl, (blk_cell BK126.out 1).trans rfl, ((HB.out.cell (World.block_lt_of_cell? w _ hw134_0)).trans hw134_0), ((HB.out.cell (World.block_lt_of_cell? w _ hw135_0)).trans hw135_0), HS4_, HS5_⟩ (fun hHeld => ?_)
                           clear hK K
                           refine norm_ (a' := ?_) ?_ ?_
                           rotate_left
                           ·show Act.put _ (some 65) _ = _
                            simp only [Act.put, sq]
                            rfl
                           refine one_ (i := 32) (N := some 69) Mq124 rfl rfl (one_of HT_.out (by kernel_rfl)) (by decide) (fun K hK => ?_)
                           refine goes_ Try.func80 (by kernel_rfl) rfl #[.agg #[.slice A0_0 l0_0.length c0_0, .slice (some ad134) l0_1.length c0_1], .slice (some ad137) x5_1.length co12, .int .i64 x9_3] (by rfl) rfl rfl (by (try simp only [sm]); first | done | rfl | (simp only [List.length_drop, List.length_take]; rfl)) ?_
                           with_reducible refine (r8led.calls k3 _ _ l0_0 _ _ l0_1 _ _ x5_1 x9_3 t140 _ ?side1 ?side2 ?side3 ?side4 ?side5 ?side6 A37.out).mono ?_
                           (case side1 => repeat (first | exact (Kd.C_below HR0_0.out HB.out) | (with_reducible refine Kd.C_alloc ?_ _) | (with_reducible refine Kd.C_drewN ?_ _) | (with_reducible refine Kd.C_drew ?_)))
                           (case side2 => exact HC0_0.out)
                           (case side3 => repeat (first | exact (Kd.C_below HR0_1.out HB.out) | (with_reducible refine Kd.C_alloc ?_ _) | (with_reducible refine Kd.C_drewN ?_ _) | (with_reducible refine Kd.C_drew ?_)))
                           (case side4 => exact HC0_1.out)
                           (case side5 => repeat (first | exact (Kd.R_reads' HO_5.out).2.2 | (with_reducible refine Kd.C_alloc ?_ _) | (with_reducible refine Kd.C_drewN ?_ _) | (with_reducible refine Kd.C_drew ?_)))
                           (case side6 => exact (Kd.R_reads' HO_5.out).2.1)
                           rintro e w43 ⟨rfl, hb⟩
                           have HS4_ := (hb.cell (World.block_lt_of_cell? _ _ (hHeld.2.2.2.2.1))).trans (hHeld.2.2.2.2.1)
                           have HS5_ := (hb.cell (World.block_lt_of_cell? _ _ (hHeld.2.2.2.2.2))).trans (hHeld.2.2.2.2.2)
                           refine ⟨_, rfl, ?_⟩
                           have n0_ := As0.mk (Kd.R_below (by (with_reducible repeat (first | apply Kd.R_alloc | apply Kd.R_drewN | apply Kd.R_drew)); exact HO_5.out) hb)
                           have n1_ := As0.mk (Kd.R_below (by (with_reducible repeat (first | apply Kd.R_alloc | apply Kd.R_drewN | apply Kd.R_drew)); exact HO_7.out) hb)
                           have n2_ := As0.mk (blk_below (g := gb126) (o := .cells #[.slice A0_0 l0_0.length c0_0, .slice (some ad134) l0_1.length c0_1] 24 (0, 0)) (by (with_reducible repeat (first | refine blk_drewN ?_ _ | refine blk_drew ?_ | refine blk_alloc ?_ _)); exact BK126.out) hb)
                           have n3_ := As0.mk (bst (by repeat (first | (with_reducible first | exact HB.out | apply below_alloc | apply pwd | apply bd1 | refine below_set ?_ GE126.out) | exact HB.out)) hb)
                           clear HO_5
                           clear HO_7
                           clear BK126
                           clear HB
                           have HO_5 := n0_
                           have HO_7 := n1_
                           have BK126 := n2_
                           have HB := n3_
                           clear n0_ n1_ n2_ n3_
                           (try clear hb)
                           (try clear hb2)
                           (try clear hk)
                           (try clear hi)
                           refine hK.out _ _ ⟨(blk_cell BK126.out 0).trans rfl, (blk_cell BK126.out 1).trans rfl, ((HB.out.cell (World.block_lt_of_cell? w _ hw134_0)).trans hw134_0), ((HB.out.cell (World.block_lt_of_cell? w _ hw135_0)).trans hw135_0), HS4_, HS5_⟩ (fun hHeld => ?_)
                           clear hK K
                           refine norm_ (a' := ?_) ?_ ?_
                           rotate_left
                           ·show Act.put _ (some 69) _ = _
                            simp only [Act.put, sq]
                            rfl
                           refine pw (v := ?_) (a' := ?_) 33 (some 70) Mq125 HT_.out ?_ ?_ ?_
                           rotate_left;(intro w';go_simp;with_reducible rfl);rotate_left;(simp only [Act.put, sq];rfl)
                           refine pw (v := ?_) (a' := ?_) 34 (some 71) Mq126 HT_.out ?_ ?_ ?_
                           rotate_left;(intro w';go_simp;with_reducible rfl);rotate_left;(simp only [Act.put, sq];rfl)
                           refine pw (v := ?_) (a' := ?_) 35 (some 72) Mq127 HT_.out ?_ ?_ ?_
                           rotate_left;(intro w';go_simp;with_reducible rfl);rotate_left;(simp only [Act.put, sq];rfl)
                           refine pw (v := ?_) (a' := ?_) 36 (some 73) Mq128 HT_.out ?_ ?_ ?_
                           rotate_left;(intro w';go_simp;with_reducible rfl);rotate_left;(simp only [Act.put, sq];rfl)
                           refine done_ (done_of HT_.out (by kernel_rfl)) ?_
                           have p40 : 0 ≤ (x24_2 : Int) := of_decide_eq_true (by first | (with_reducible assumption) | assumption)
                           have q40 : (x24_2 : Int) < ((x7_3.length : Int) : Int) := of_decide_eq_true (by first | (with_reducible assumption) | assumption)
                           obtain ⟨hx40_0, hf40_0⟩ := Kd.R_celln 0 HO_7.out (x24_2 : Int) p40 q40
                           replace p40 := eq_true p40
                           replace q40 := eq_true q40
                           obtain ⟨hy44_, hz44_⟩ := Kd.R_celln 0 HO_7.out (x24_2 : Int) (of_decide_eq_true (by first | (with_reducible assumption) | assumption)) (of_decide_eq_true (by first | (with_reducible assumption) | assumption))
                           have HP44 := Kd.R_putg HO_7.out (x24_2 : Int) x9_3
                           try go_wp2_with (first | ((with_reducible refine gate_store (t := 3) (p := 77) rfl ?_); refine store_event (t := 3) (p := 77) (v := ?vo_w45) (w1 := (w43.setCell ⟨go18, (x24_2 : Int).toNat, none⟩ (.int .i64 x9_3))) ?hg ?ho ?hn ?hr ?_; (case ho => rfl); (case hg => rfl); (case hn => rfl); (case hr => first | (go_simp; done) | (go_simp; rfl)); intro w45 hw; have hg : w43.grownBy w45 (some go18) := (by rw [hw]; exact HP44.2); have hp_ : Kd.R (Kd.int .i64) 3 w45 w.heap.size (fun k_ => some k_ ≠ (.slice (some ad137) x5_1.length co12 : Value).ownBlock) (.slice (some ⟨go18, 0, none⟩) x7_3.length co18) y141 := (by rw [hw, Ny141.out]; exact HP44.1); clear HP44; have n0_ := As0.mk (Kd.R_after (v := (.slice (some ⟨go18, 0, none⟩) x7_3.length co18)) (v1 := (.slice (some ⟨go18, 0, none⟩) x7_3.length co18)) (ok := (fun _ => True)) (by (with_reducible repeat (first | apply Kd.R_alloc | apply Kd.R_drewN | apply Kd.R_drew)); exact Kd.R_mono HO_5.out (fun _ hk => ⟨trivial, hk⟩)) hg (.inl rfl)); have n1_ := As0.mk (hp_); have n2_ := As0.mk (blk_grown (g := gb126) (o := .cells #[.slice A0_0 l0_0.length c0_0, .slice (some ad134) l0_1.length c0_1] 24 (0, 0)) (by (with_reducible repeat (first | refine blk_drewN ?_ _ | refine blk_drew ?_ | refine blk_alloc ?_ _)); exact BK126.out) hg (Kd.R_ne HO_7.out BK126.out (by decide))); have n3_ := As0.mk ((by rw [hw]; exact below_set (HB.out) GB18.out : Below w.heap.size w w45)); clear HO_5; clear HO_7; clear BK126; clear HB; have HO_5 := n0_; have HO_7 := n1_; have BK126 := n2_; have HB := n3_; clear n0_ n1_ n2_ n3_; clear hg hw hp_))
                           (try simp only [← hl7_3])
                           go_roundg k3
                           case measure => have := HK1.out; have := HK2.out; have := HK3.out; omega
                           case rel => exact ⟨(y141), (wrap64 (x9_3 - 1)), (by first | rfl | (simp; done) | (simp [*]; done)), H', ⟨by have := HK1.out; have := HK2.out; have := HK3.out; omega⟩, ⟨by (try simp only [hl7_3]); (with_reducible repeat (first | apply Kd.R_alloc | apply Kd.R_drewN | apply Kd.R_drew)); exact Kd.R_mono HO_5.out (fun _ hk => hk.2)⟩, ⟨by (try simp only [hl7_3]); (with_reducible repeat (first | apply Kd.R_alloc | apply Kd.R_drewN | apply Kd.R_drew)); exact HO_7.out⟩, ⟨by (try simp only [hl7_3]); (with_reducible repeat (first | refine blk_drewN ?_ _ | refine blk_drew ?_ | refine blk_alloc ?_ _)); exact BK126.out⟩, ⟨by repeat (first | (with_reducible first | exact HB.out | apply below_alloc | apply pwd | apply bd1 | refine below_set ?_ GE126.out) | exact HB.out)⟩⟩
                          ·rw [if_neg c39] at H
                           exact absurd H (by simp)
                         ·rw [if_neg c38] at H
                          have c38b0 : (t139 == t140) = false := beq_eq_false_iff_ne.mpr c38
                          have c38b1 : (t139 != t140) = true := bne_iff_ne.mpr c38
                          have H' := As0.mk H
                          clear H
                          try go_wp2
                          have n0_ := As0.mk (Kd.R_drew HO_5.out)
                          have n1_ := As0.mk (Kd.R_drew HO_7.out)
                          have n2_ := As0.mk (blk_drew BK126.out)
                          have n3_ := As0.mk (bd1 HB.out)
                          clear HO_5
                          clear HO_7
                          clear BK126
                          clear HB
                          have HO_5 := n0_
                          have HO_7 := n1_
                          have BK126 := n2_
                          have HB := n3_
                          clear n0_ n1_ n2_ n3_
                          have p134 : 0 ≤ (x24_2 : Int) := of_decide_eq_true (by first | (with_reducible assumption) | assumption)
                          have q134 : x24_2 < (l0_1.length : Int) := of_decide_eq_true (by first | (with_reducible assumption) | assumption)
                          obtain ⟨ad134, e134, hx134_0⟩ := Kd.at_int HR0_1.out x24_2 p134 q134
                          have hw134_0 := hx134_0
                          cases e134
                          replace hx134_0 := (HB.out.cell (World.block_lt_of_cell? w _ hx134_0)).trans hx134_0
                          replace p134 := eq_true p134
                          replace q134 := eq_true q134
                          have p135 : 0 ≤ (x9_3 : Int) := of_decide_eq_true (by first | (with_reducible assumption) | assumption)
                          have q135 : x9_3 < (l0_1.length : Int) := of_decide_eq_true (by first | (with_reducible assumption) | assumption)
                          obtain ⟨ad135, e135, hx135_0⟩ := Kd.at_int HR0_1.out x9_3 p135 q135
                          have hw135_0 := hx135_0
                          obtain rfl : ad134 = ad135 := (by injection e135)
                          replace hx135_0 := (HB.out.cell (World.block_lt_of_cell? w _ hx135_0)).trans hx135_0
                          replace p135 := eq_true p135
                          replace q135 := eq_true q135
                          have p137 : 0 ≤ (x24_2 : Int) := of_decide_eq_true (by first | (with_reducible assumption) | assumption)
                          have q137 : x24_2 < (x5_1.length : Int) := of_decide_eq_true (by first | (with_reducible assumption) | assumption)
                          obtain ⟨ad137, e137, hx137_0⟩ := Kd.at_int (Kd.R_reads' HO_5.out).2.2 x24_2 p137 q137
                          cases e137
                          replace p137 := eq_true p137
                          replace q137 := eq_true q137
                          have p138 : 0 ≤ (x9_3 : Int) := of_decide_eq_true (by first | (with_reducible assumption) | assumption)
                          have q138 : x9_3 < (x5_1.length : Int) := of_decide_eq_true (by first | (with_reducible assumption) | assumption)
                          obtain ⟨ad138, e138, hx138_0⟩ := Kd.at_int (Kd.R_reads' HO_5.out).2.2 x9_3 p138 q138
                          obtain rfl : ad137 = ad138 := (by injection e138)
                          replace p138 := eq_true p138
                          replace q138 := eq_true q138
                          refine start_ (n := 37) (S := fun w' => w'.cell? ⟨gb126, 0, none⟩ = some (.slice A0_0 l0_0.length c0_0) ∧ w'.cell? ⟨gb126, 1, none⟩ = some (.slice (some ad134) l0_1.length c0_1) ∧ w'.cell? (ad134.add (x24_2).toNat) = some (.int .i64 (rd l0_1 x24_2)) ∧ w'.cell? (ad134.add (x9_3).toNat) = some (.int .i64 (rd l0_1 x9_3)) ∧ w'.cell? (ad137.add (x24_2).toNat) = some (.int .i64 (rd x5_1 x24_2)) ∧ w'.cell? (ad137.add (x9_3).toNat) = some (.int .i64 (rd x5_1 x9_3))) (ds := []) Mq91 (by kernel_rfl) rfl rfl ⟨(blk_cell BK126.out 0).trans rfl, (blk_cell BK126.out 1).trans rfl, ((HB.out.cell (World.block_lt_of_cell? w _ hw134_0)).trans hw134_0), ((HB.out.cell (World.block_lt_of_cell? w _ hw135_0)).trans hw135_0), hx137_0, hx138_0⟩ (fun hHeld => ?_); refine with_tabW r8Level.tab13 r8Level.bits13 (fun HT_ HW_ => ?_)
                          generalize wr.drew = w46 at HO_5 HO_7 BK126 HB hx134_0 hx135_0 hx137_0 hx138_0 hHeld ⊢
                          refine pw (v := ?_) (a' := ?_) 0 (some 37) Mq92 HT_.out ?_ ?_ ?_
                          rotate_left;(intro w';go_simp;with_reducible rfl);rotate_left;(simp only [Act.put, sq];rfl)
                          refine pw (v := ?_) (a' := ?_) 2 (some 39) Mq93 HT_.out ?_ ?_ ?_
                          rotate_left;(intro w';go_simp;with_reducible rfl);rotate_left;(simp only [Act.put, sq];rfl)
                          refine pw (v := ?_) (a' := ?_) 5 (some 42) Mq94 HT_.out ?_ ?_ ?_
                          rotate_left;(intro w';go_simp;with_reducible rfl);rotate_left;(simp only [Act.put, sq];rfl)
                          refine pw (v := ?_) (a' := ?_) 7 (some 44) Mq95 HT_.out ?_ ?_ ?_
                          rotate_left;(intro w';go_simp;with_reducible rfl);rotate_left;(simp only [Act.put, sq];rfl)
                          refine tw (v := ?_) (a' := ?_) 1 (some 38) Mq96 HT_.out HW_.out ?_ hHeld ?_ ?_
                          rotate_left
                          ·rintro w' ⟨s0, s1, s2, s3, s4, s5⟩
                           go_simp
                           with_reducible rfl
                          rotate_left
                          ·simp only [Act.put, sq]
                           rfl
                          refine pw (v := ?_) (a' := ?_) 3 (some 40) Mq97 HT_.out ?_ ?_ ?_
                          rotate_left;(intro w';go_simp;with_reducible rfl);rotate_left;(simp only [Act.put, sq];rfl)
                          refine tw (v := ?_) (a' := ?_) 4 (some 41) Mq98 HT_.out HW_.out ?_ hHeld ?_ ?_
                          rotate_left
                          ·rintro w' ⟨s0, s1, s2, s3, s4, s5⟩
                           go_simp
                           with_reducible rfl
                          rotate_left
                          ·simp only [Act.put, sq]
                           rfl
                          refine tw (v := ?_) (a' := ?_) 6 (some 43) Mq99 HT_.out HW_.out ?_ hHeld ?_ ?_
                          rotate_left
                          ·rintro w' ⟨s0, s1, s2, s3, s4, s5⟩
                           go_simp
                           with_reducible rfl
                          rotate_left
                          ·simp only [Act.put, sq]
                           rfl
                          refine pw (v := ?_) (a' := ?_) 8 (some 45) Mq100 HT_.out ?_ ?_ ?_
                          rotate_left;(intro w';go_simp;with_reducible rfl);rotate_left;(simp only [Act.put, sq];rfl)
                          refine tw (v := ?_) (a' := ?_) 9 (some 46) Mq101 HT_.out HW_.out ?_ hHeld ?_ ?_
                          rotate_left
                          ·rintro w' ⟨s0, s1, s2, s3, s4, s5⟩
                           go_simp
                           with_reducible rfl
                          rotate_left
                          ·simp only [Act.put, sq]
                           rfl
                          refine pw (v := ?_) (a' := ?_) 10 (some 47) Mq102 HT_.out ?_ ?_ ?_
                          rotate_left;(intro w';go_simp;with_reducible rfl);rotate_left;(simp only [Act.put, sq];rfl)
                          refine pw (v := ?_) (a' := ?_) 11 (some 48) Mq103 HT_.out ?_ ?_ ?_
                          rotate_left;(intro w';go_simp;with_reducible rfl);rotate_left;(simp only [Act.put, sq];rfl)
                          refine pw (v := ?_) (a' := ?_) 12 (some 49) Mq104 HT_.out ?_ ?_ ?_
                          rotate_left;(intro w';go_simp;with_reducible rfl);rotate_left;(simp only [Act.put, sq];rfl)
                          refine pw (v := ?_) (a' := ?_) 13 (some 50) Mq105 HT_.out ?_ ?_ ?_
                          rotate_left;(intro w';go_simp;with_reducible rfl);rotate_left;(simp only [Act.put, sq];rfl)
                          refine pw (v := ?_) (a' := ?_) 14 (some 51) Mq106 HT_.out ?_ ?_ ?_
                          rotate_left;(intro w';go_simp;with_reducible rfl);rotate_left;(simp only [Act.put, sq];rfl)
                          refine pw (v := ?_) (a' := ?_) 15 (some 52) Mq107 HT_.out ?_ ?_ ?_
                          rotate_left;(intro w';go_simp;with_reducible rfl);rotate_left;(simp only [Act.put, sq];rfl)
                          refine pw (v := ?_) (a' := ?_) 16 (some 53) Mq108 HT_.out ?_ ?_ ?_
                          rotate_left;(intro w';go_simp;with_reducible rfl);rotate_left;(simp only [Act.put, sq];rfl)
                          refine pw (v := ?_) (a' := ?_) 17 (some 54) Mq109 HT_.out ?_ ?_ ?_
                          rotate_left;(intro w';go_simp;with_reducible rfl);rotate_left;(simp only [Act.put, sq];rfl)
                          refine pw (v := ?_) (a' := ?_) 19 (some 56) Mq129 HT_.out ?_ ?_ ?_
                          rotate_left;(intro w';go_simp;with_reducible rfl);rotate_left;(simp only [Act.put, sq];rfl)
                          refine pw (v := ?_) (a' := ?_) 20 (some 57) Mq130 HT_.out ?_ ?_ ?_
                          rotate_left;(intro w';go_simp;with_reducible rfl);rotate_left;(simp only [Act.put, sq];rfl)
                          refine pw (v := ?_) (a' := ?_) 21 (some 58) Mq131 HT_.out ?_ ?_ ?_
                          rotate_left;(intro w';go_simp;with_reducible rfl);rotate_left;(simp only [Act.put, sq];rfl)
                          refine tw (v := ?_) (a' := ?_) 18 (some 55) Mq113 HT_.out HW_.out ?_ hHeld ?_ ?_
                          rotate_left
                          ·rintro w' ⟨s0, s1, s2, s3, s4, s5⟩
                           go_simp
                           with_reducible rfl
                          rotate_left
                          ·simp only [Act.put, sq]
                           rfl
                          refine tw (v := ?_) (a' := ?_) 22 (some 59) Mq114 HT_.out HW_.out ?_ hHeld ?_ ?_
                          rotate_left
                          ·rintro w' ⟨s0, s1, s2, s3, s4, s5⟩
                           go_simp
                           with_reducible rfl
                          rotate_left
                          ·simp only [Act.put, sq]
                           rfl
                          refine pw (v := ?_) (a' := ?_) 23 (some 60) Mq115 HT_.out ?_ ?_ ?_
                          rotate_left;(intro w';go_simp;with_reducible rfl);rotate_left;(simp only [Act.put, sq];rfl)
                          refine pw (v := ?_) (a' := ?_) 24 (some 61) Mq116 HT_.out ?_ ?_ ?_
                          rotate_left;(intro w';go_simp;with_reducible rfl);rotate_left;(simp only [Act.put, sq];rfl)
                          refine pw (v := ?_) (a' := ?_) 26 (some 63) Mq132 HT_.out ?_ ?_ ?_
                          rotate_left;(intro w';go_simp;with_reducible rfl);rotate_left;(simp only [Act.put, sq];rfl)
                          refine pw (v := ?_) (a' := ?_) 27 (some 64) Mq133 HT_.out ?_ ?_ ?_
                          rotate_left;(intro w';go_simp;with_reducible rfl);rotate_left;(simp only [Act.put, sq];rfl)
                          refine pw (v := ?_) (a' := ?_) 30 (some 67) Mq134 HT_.out ?_ ?_ ?_
                          rotate_left;(intro w';go_simp;with_reducible rfl);rotate_left;(simp only [Act.put, sq];rfl)
                          refine pw (v := ?_) (a' := ?_) 31 (some 68) Mq135 HT_.out ?_ ?_ ?_
                          rotate_left;(intro w';go_simp;with_reducible rfl);rotate_left;(simp only [Act.put, sq];rfl)
                          refine tw (v := ?_) (a' := ?_) 25 (some 62) Mq136 HT_.out HW_.out ?_ hHeld ?_ ?_
                          rotate_left
                          ·rintro w' ⟨s0, s1, s2, s3, s4, s5⟩
                           go_simp
                           with_reducible rfl
                          rotate_left
                          ·simp only [Act.put, sq]
                           rfl
                          refine tw (v := ?_) (a' := ?_) 29 (some 66) Mq137 HT_.out HW_.out ?_ hHeld ?_ ?_
                          rotate_left
                          ·rintro w' ⟨s0, s1, s2, s3, s4, s5⟩
                           go_simp
                           with_reducible rfl
                          rotate_left
                          ·simp only [Act.put, sq]
                           rfl
                          refine one_ (i := 28) (N := some 65) Mq123 rfl rfl (one_of HT_.out (by kernel_rfl)) (by decide) (fun K hK => ?_)
                          refine goes_ Try.func80 (by kernel_rfl) rfl #[.agg #[.slice A0_0 l0_0.length c0_0, .slice (some ad134) l0_1.length c0_1], .slice (some ad137) x5_1.length co12, .int .i64 x24_2] (by rfl) rfl rfl (by (try simp only [sm]); first | done | rfl | (simp only [List.length_drop, List.length_take]; rfl)) ?_
                          with_reducible refine (r8led.calls k3 _ _ l0_0 _ _ l0_1 _ _ x5_1 x24_2 t139 _ ?side1 ?side2 ?side3 ?side4 ?side5 ?side6 A36.out).mono ?_
                          (case side1 => repeat (first | exact (Kd.C_below HR0_0.out HB.out) | (with_reducible refine Kd.C_alloc ?_ _) | (with_reducible refine Kd.C_drewN ?_ _) | (with_reducible refine Kd.C_drew ?_)))
                          (case side2 => exact HC0_0.out)
                          (case side3 => repeat (first | exact (Kd.C_below HR0_1.out HB.out) | (with_reducible refine Kd.C_alloc ?_ _) | (with_reducible refine Kd.C_drewN ?_ _) | (with_reducible refine Kd.C_drew ?_)))
                          (case side4 => exact HC0_1.out)
                          (case side5 => repeat (first | exact (Kd.R_reads' HO_5.out).2.2 | (with_reducible refine Kd.C_alloc ?_ _) | (with_reducible refine Kd.C_drewN ?_ _) | (with_reducible refine Kd.C_drew ?_)))
                          (case side6 => exact (Kd.R_reads' HO_5.out).2.1)
                          rintro e w47 ⟨rfl, hb⟩
                          have HS4_ := (hb.cell (World.block_lt_of_cell? _ _ (hHeld.2.2.2.2.1))).trans (hHeld.2.2.2.2.1)
                          have HS5_ := (hb.cell (World.block_lt_of_cell? _ _ (hHeld.2.2.2.2.2))).trans (hHeld.2.2.2.2.2)
                          refine ⟨_, rfl, ?_⟩
                          have n0_ := As0.mk (Kd.R_below (by (with_reducible repeat (first | apply Kd.R_alloc | apply Kd.R_drewN | apply Kd.R_drew)); exact HO_5.out) hb)
                          have n1_ := As0.mk (Kd.R_below (by (with_reducible repeat (first | apply Kd.R_alloc | apply Kd.R_drewN | apply Kd.R_drew)); exact HO_7.out) hb)
                          have n2_ := As0.mk (blk_below (g := gb126) (o := .cells #[.slice A0_0 l0_0.length c0_0, .slice (some ad134) l0_1.length c0_1] 24 (0, 0)) (by (with_reducible repeat (first | refine blk_drewN ?_ _ | refine blk_drew ?_ | refine blk_alloc ?_ _)); exact BK126.out) hb)
                          have n3_ := As0.mk (bst (by repeat (first | (with_reducible first | exact HB.out | apply below_alloc | apply pwd | apply bd1 | refine below_set ?_ GE126.out) | exact HB.out)) hb)
                          clear HO_5
                          clear HO_7
                          clear BK126
                          clear HB
                          have HO_5 := n0_
                          have HO_7 := n1_
                          have BK126 := n2_
                          have HB := n3_
                          clear n0_ n1_ n2_ n3_
                          (try clear hb)
                          (try clear hb2)
                          (try clear hk)
                          (try clear hi)
                          refine hK.out _ _ ⟨(blk_cell BK126.out 0).trans rfl, (blk_cell BK126.out 1).trans rfl, ((HB.out.cell (World.block_lt_of_cell? w _ hw134_0)).trans hw134_0), ((HB.out.cell (World.block_lt_of_cell? w _ hw135_0)).trans hw135_0), HS4_, HS5_⟩ (fun hHeld => ?_)
                          clear hK K
                          refine norm_ (a' := ?_) ?_ ?_
                          rotate_left
                          ·show Act.put _ (some 65) _ = _
                           simp only [Act.put, sq]
                           rfl
                          refine one_ (i := 32) (N := some 69) Mq124 rfl rfl (one_of HT_.out (by kernel_rfl)) (by decide) (fun K hK => ?_)
                          refine goes_ Try.func80 (by kernel_rfl) rfl #[.agg #[.slice A0_0 l0_0.length c0_0, .slice (some ad134) l0_1.length c0_1], .slice (some ad137) x5_1.length co12, .int .i64 x9_3] (by rfl) rfl rfl (by (try simp only [sm]); first | done | rfl | (simp only [List.length_drop, List.length_take]; rfl)) ?_
                          with_reducible refine (r8led.calls k3 _ _ l0_0 _ _ l0_1 _ _ x5_1 x9_3 t140 _ ?side1 ?side2 ?side3 ?side4 ?side5 ?side6 A37.out).mono ?_
                          (case side1 => repeat (first | exact (Kd.C_below HR0_0.out HB.out) | (with_reducible refine Kd.C_alloc ?_ _) | (with_reducible refine Kd.C_drewN ?_ _) | (with_reducible refine Kd.C_drew ?_)))
                          (case side2 => exact HC0_0.out)
                          (case side3 => repeat (first | exact (Kd.C_below HR0_1.out HB.out) | (with_reducible refine Kd.C_alloc ?_ _) | (with_reducible refine Kd.C_drewN ?_ _) | (with_reducible refine Kd.C_drew ?_)))
                          (case side4 => exact HC0_1.out)
                          (case side5 => repeat (first | exact (Kd.R_reads' HO_5.out).2.2 | (with_reducible refine Kd.C_alloc ?_ _) | (with_reducible refine Kd.C_drewN ?_ _) | (with_reducible refine Kd.C_drew ?_)))
                          (case side6 => exact (Kd.R_reads' HO_5.out).2.1)
                          rintro e w48 ⟨rfl, hb⟩
                          have HS4_ := (hb.cell (World.block_lt_of_cell? _ _ (hHeld.2.2.2.2.1))).trans (hHeld.2.2.2.2.1)
                          have HS5_ := (hb.cell (World.block_lt_of_cell? _ _ (hHeld.2.2.2.2.2))).trans (hHeld.2.2.2.2.2)
                          refine ⟨_, rfl, ?_⟩
                          have n0_ := As0.mk (Kd.R_below (by (with_reducible repeat (first | apply Kd.R_alloc | apply Kd.R_drewN | apply Kd.R_drew)); exact HO_5.out) hb)
                          have n1_ := As0.mk (Kd.R_below (by (with_reducible repeat (first | apply Kd.R_alloc | apply Kd.R_drewN | apply Kd.R_drew)); exact HO_7.out) hb)
                          have n2_ := As0.mk (blk_below (g := gb126) (o := .cells #[.slice A0_0 l0_0.length c0_0, .slice (some ad134) l0_1.length c0_1] 24 (0, 0)) (by (with_reducible repeat (first | refine blk_drewN ?_ _ | refine blk_drew ?_ | refine blk_alloc ?_ _)); exact BK126.out) hb)
                          have n3_ := As0.mk (bst (by repeat (first | (with_reducible first | exact HB.out | apply below_alloc | apply pwd | apply bd1 | refine below_set ?_ GE126.out) | exact HB.out)) hb)
                          clear HO_5
                          clear HO_7
                          clear BK126
                          clear HB
                          have HO_5 := n0_
                          have HO_7 := n1_
                          have BK126 := n2_
                          have HB := n3_
                          clear n0_ n1_ n2_ n3_
                          (try clear hb)
                          (try clear hb2)
                          (try clear hk)
                          (try clear hi)
                          refine hK.out _ _ ⟨(blk_cell BK126.out 0).trans rfl, (blk_cell BK126.out 1).trans rfl, ((HB.out.cell (World.block_lt_of_cell? w _ hw134_0)).trans hw134_0), ((HB.out.cell (World.block_lt_of_cell? w _ hw135_0)).trans hw135_0), HS4_, HS5_⟩ (fun hHeld => ?_)
                          clear hK K
                          refine norm_ (a' := ?_) ?_ ?_
                          rotate_left
                          ·show Act.put _ (some 69) _ = _
                           simp only [Act.put, sq]
                           rfl
                          refine pw (v := ?_) (a' := ?_) 33 (some 70) Mq125 HT_.out ?_ ?_ ?_
                          rotate_left;(intro w';go_simp;with_reducible rfl);rotate_left;(simp only [Act.put, sq];rfl)
                          refine pw (v := ?_) (a' := ?_) 34 (some 71) Mq126 HT_.out ?_ ?_ ?_
                          rotate_left;(intro w';go_simp;with_reducible rfl);rotate_left;(simp only [Act.put, sq];rfl)
                          refine pw (v := ?_) (a' := ?_) 35 (some 72) Mq127 HT_.out ?_ ?_ ?_
                          rotate_left;(intro w';go_simp;with_reducible rfl);rotate_left;(simp only [Act.put, sq];rfl)
                          refine pw (v := ?_) (a' := ?_) 36 (some 73) Mq128 HT_.out ?_ ?_ ?_
                          rotate_left;(intro w';go_simp;with_reducible rfl);rotate_left;(simp only [Act.put, sq];rfl)
                          refine done_ (done_of HT_.out (by kernel_rfl)) ?_
                          try go_wp2
                          (try simp only [← hl7_3])
                          go_roundg k3
                          case measure => have := HK1.out; have := HK2.out; have := HK3.out; omega
                          case rel => exact ⟨(x7_3), (wrap64 (x9_3 - 1)), (by first | rfl | (simp; done) | (simp [*]; done)), H', ⟨by have := HK1.out; have := HK2.out; have := HK3.out; omega⟩, ⟨by (try simp only [hl7_3]); (with_reducible repeat (first | apply Kd.R_alloc | apply Kd.R_drewN | apply Kd.R_drew)); exact HO_5.out⟩, ⟨by (try simp only [hl7_3]); (with_reducible repeat (first | apply Kd.R_alloc | apply Kd.R_drewN | apply Kd.R_drew)); exact HO_7.out⟩, ⟨by (try simp only [hl7_3]); (with_reducible repeat (first | refine blk_drewN ?_ _ | refine blk_drew ?_ | refine blk_alloc ?_ _)); exact BK126.out⟩, ⟨by repeat (first | (with_reducible first | exact HB.out | apply below_alloc | apply pwd | apply bd1 | refine below_set ?_ GE126.out) | exact HB.out)⟩⟩
                        ·rw [if_neg c35] at H
                         have c35b0 : ((rd x5_1 x24_2) == (rd x5_1 x9_3)) = false := beq_eq_false_iff_ne.mpr c35
                         have c35b1 : ((rd x5_1 x24_2) != (rd x5_1 x9_3)) = true := bne_iff_ne.mpr c35
                         have H' := As0.mk H
                         clear H
                         try go_wp2
                         have n0_ := As0.mk (Kd.R_drew HO_5.out)
                         have n1_ := As0.mk (Kd.R_drew HO_7.out)
                         have n2_ := As0.mk (blk_drew BK126.out)
                         have n3_ := As0.mk (bd1 HB.out)
                         clear HO_5
                         clear HO_7
                         clear BK126
                         clear HB
                         have HO_5 := n0_
                         have HO_7 := n1_
                         have BK126 := n2_
                         have HB := n3_
                         clear n0_ n1_ n2_ n3_
                         have p134 : 0 ≤ (x24_2 : Int) := of_decide_eq_true (by first | (with_reducible assumption) | assumption)
                         have q134 : x24_2 < (l0_1.length : Int) := of_decide_eq_true (by first | (with_reducible assumption) | assumption)
                         obtain ⟨ad134, e134, hx134_0⟩ := Kd.at_int HR0_1.out x24_2 p134 q134
                         have hw134_0 := hx134_0
                         cases e134
                         replace hx134_0 := (HB.out.cell (World.block_lt_of_cell? w _ hx134_0)).trans hx134_0
                         replace p134 := eq_true p134
                         replace q134 := eq_true q134
                         have p135 : 0 ≤ (x9_3 : Int) := of_decide_eq_true (by first | (with_reducible assumption) | assumption)
                         have q135 : x9_3 < (l0_1.length : Int) := of_decide_eq_true (by first | (with_reducible assumption) | assumption)
                         obtain ⟨ad135, e135, hx135_0⟩ := Kd.at_int HR0_1.out x9_3 p135 q135
                         have hw135_0 := hx135_0
                         obtain rfl : ad134 = ad135 := (by injection e135)
                         replace hx135_0 := (HB.out.cell (World.block_lt_of_cell? w _ hx135_0)).trans hx135_0
                         replace p135 := eq_true p135
                         replace q135 := eq_true q135
                         have p137 : 0 ≤ (x24_2 : Int) := of_decide_eq_true (by first | (with_reducible assumption) | assumption)
                         have q137 : x24_2 < (x5_1.length : Int) := of_decide_eq_true (by first | (with_reducible assumption) | assumption)
                         obtain ⟨ad137, e137, hx137_0⟩ := Kd.at_int (Kd.R_reads' HO_5.out).2.2 x24_2 p137 q137
                         cases e137
                         replace p137 := eq_true p137
                         replace q137 := eq_true q137
                         have p138 : 0 ≤ (x9_3 : Int) := of_decide_eq_true (by first | (with_reducible assumption) | assumption)
                         have q138 : x9_3 < (x5_1.length : Int) := of_decide_eq_true (by first | (with_reducible assumption) | assumption)
                         obtain ⟨ad138, e138, hx138_0⟩ := Kd.at_int (Kd.R_reads' HO_5.out).2.2 x9_3 p138 q138
                         obtain rfl : ad137 = ad138 := (by injection e138)
                         replace p138 := eq_true p138
                         replace q138 := eq_true q138
                         refine start_ (n := 37) (S := fun w' => w'.cell? ⟨gb126, 0, none⟩ = some (.slice A0_0 l0_0.length c0_0) ∧ w'.cell? ⟨gb126, 1, none⟩ = some (.slice (some ad134) l0_1.length c0_1) ∧ w'.cell? (ad134.add (x24_2).toNat) = some (.int .i64 (rd l0_1 x24_2)) ∧ w'.cell? (ad134.add (x9_3).toNat) = some (.int .i64 (rd l0_1 x9_3)) ∧ w'.cell? (ad137.add (x24_2).toNat) = some (.int .i64 (rd x5_1 x24_2)) ∧ w'.cell? (ad137.add (x9_3).toNat) = some (.int .i64 (rd x5_1 x9_3))) (ds := []) Mq91 (by kernel_rfl) rfl rfl ⟨(blk_cell BK126.out 0).trans rfl, (blk_cell BK126.out 1).trans rfl, ((HB.out.cell (World.block_lt_of_cell? w _ hw134_0)).trans hw134_0), ((HB.out.cell (World.block_lt_of_cell? w _ hw135_0)).trans hw135_0), hx137_0, hx138_0⟩ (fun hHeld => ?_); refine with_tabW r8Level.tab13 r8Level.bits13 (fun HT_ HW_ => ?_)
                         generalize wr.drew = w49 at HO_5 HO_7 BK126 HB hx134_0 hx135_0 hx137_0 hx138_0 hHeld ⊢
                         refine pw (v := ?_) (a' := ?_) 0 (some 37) Mq92 HT_.out ?_ ?_ ?_
                         rotate_left;(intro w';go_simp;with_reducible rfl);rotate_left;(simp only [Act.put, sq];rfl)
                         refine pw (v := ?_) (a' := ?_) 2 (some 39) Mq93 HT_.out ?_ ?_ ?_
                         rotate_left;(intro w';go_simp;with_reducible rfl);rotate_left;(simp only [Act.put, sq];rfl)
                         refine pw (v := ?_) (a' := ?_) 5 (some 42) Mq94 HT_.out ?_ ?_ ?_
                         rotate_left;(intro w';go_simp;with_reducible rfl);rotate_left;(simp only [Act.put, sq];rfl)
                         refine pw (v := ?_) (a' := ?_) 7 (some 44) Mq95 HT_.out ?_ ?_ ?_
                         rotate_left;(intro w';go_simp;with_reducible rfl);rotate_left;(simp only [Act.put, sq];rfl)
                         refine tw (v := ?_) (a' := ?_) 1 (some 38) Mq96 HT_.out HW_.out ?_ hHeld ?_ ?_
                         rotate_left
                         ·rintro w' ⟨s0, s1, s2, s3, s4, s5⟩
                          go_simp
                          with_reducible rfl
                         rotate_left
                         ·simp only [Act.put, sq]
                          rfl
                         refine pw (v := ?_) (a' := ?_) 3 (some 40) Mq97 HT_.out ?_ ?_ ?_
                         rotate_left;(intro w';go_simp;with_reducible rfl);rotate_left;(simp only [Act.put, sq];rfl)
                         refine tw (v := ?_) (a' := ?_) 4 (some 41) Mq98 HT_.out HW_.out ?_ hHeld ?_ ?_
                         rotate_left
                         ·rintro w' ⟨s0, s1, s2, s3, s4, s5⟩
                          go_simp
                          with_reducible rfl
                         rotate_left
                         ·simp only [Act.put, sq]
                          rfl
                         refine tw (v := ?_) (a' := ?_) 6 (some 43) Mq99 HT_.out HW_.out ?_ hHeld ?_ ?_
                         rotate_left
                         ·rintro w' ⟨s0, s1, s2, s3, s4, s5⟩
                          go_simp
                          with_reducible rfl
                         rotate_left
                         ·simp only [Act.put, sq]
                          rfl
                         refine pw (v := ?_) (a' := ?_) 8 (some 45) Mq100 HT_.out ?_ ?_ ?_
                         rotate_left;(intro w';go_simp;with_reducible rfl);rotate_left;(simp only [Act.put, sq];rfl)
                         refine tw (v := ?_) (a' := ?_) 9 (some 46) Mq101 HT_.out HW_.out ?_ hHeld ?_ ?_
                         rotate_left
                         ·rintro w' ⟨s0, s1, s2, s3, s4, s5⟩
                          go_simp
                          with_reducible rfl
                         rotate_left
                         ·simp only [Act.put, sq]
                          rfl
                         refine pw (v := ?_) (a' := ?_) 10 (some 47) Mq102 HT_.out ?_ ?_ ?_
                         rotate_left;(intro w';go_simp;with_reducible rfl);rotate_left;(simp only [Act.put, sq];rfl)
                         refine pw (v := ?_) (a' := ?_) 11 (some 48) Mq103 HT_.out ?_ ?_ ?_
                         rotate_left;(intro w';go_simp;with_reducible rfl);rotate_left;(simp only [Act.put, sq];rfl)
                         refine pw (v := ?_) (a' := ?_) 12 (some 49) Mq104 HT_.out ?_ ?_ ?_
                         rotate_left;(intro w';go_simp;with_reducible rfl);rotate_left;(simp only [Act.put, sq];rfl)
                         refine pw (v := ?_) (a' := ?_) 13 (some 50) Mq105 HT_.out ?_ ?_ ?_
                         rotate_left;(intro w';go_simp;with_reducible rfl);rotate_left;(simp only [Act.put, sq];rfl)
                         refine pw (v := ?_) (a' := ?_) 14 (some 51) Mq106 HT_.out ?_ ?_ ?_
                         rotate_left;(intro w';go_simp;with_reducible rfl);rotate_left;(simp only [Act.put, sq];rfl)
                         refine pw (v := ?_) (a' := ?_) 15 (some 52) Mq107 HT_.out ?_ ?_ ?_
                         rotate_left;(intro w';go_simp;with_reducible rfl);rotate_left;(simp only [Act.put, sq];rfl)
                         refine pw (v := ?_) (a' := ?_) 16 (some 53) Mq108 HT_.out ?_ ?_ ?_
                         rotate_left;(intro w';go_simp;with_reducible rfl);rotate_left;(simp only [Act.put, sq];rfl)
                         refine pw (v := ?_) (a' := ?_) 17 (some 54) Mq109 HT_.out ?_ ?_ ?_
                         rotate_left;(intro w';go_simp;with_reducible rfl);rotate_left;(simp only [Act.put, sq];rfl)
                         refine pw (v := ?_) (a' := ?_) 19 (some 56) Mq129 HT_.out ?_ ?_ ?_
                         rotate_left;(intro w';go_simp;with_reducible rfl);rotate_left;(simp only [Act.put, sq];rfl)
                         refine pw (v := ?_) (a' := ?_) 20 (some 57) Mq130 HT_.out ?_ ?_ ?_
                         rotate_left;(intro w';go_simp;with_reducible rfl);rotate_left;(simp only [Act.put, sq];rfl)
                         refine pw (v := ?_) (a' := ?_) 21 (some 58) Mq131 HT_.out ?_ ?_ ?_
                         rotate_left;(intro w';go_simp;with_reducible rfl);rotate_left;(simp only [Act.put, sq];rfl)
                         refine tw (v := ?_) (a' := ?_) 18 (some 55) Mq113 HT_.out HW_.out ?_ hHeld ?_ ?_
                         rotate_left
                         ·rintro w' ⟨s0, s1, s2, s3, s4, s5⟩
                          go_simp
                          with_reducible rfl
                         rotate_left
                         ·simp only [Act.put, sq]
                          rfl
                         refine tw (v := ?_) (a' := ?_) 22 (some 59) Mq114 HT_.out HW_.out ?_ hHeld ?_ ?_
                         rotate_left
                         ·rintro w' ⟨s0, s1, s2, s3, s4, s5⟩
                          go_simp
                          with_reducible rfl
                         rotate_left
                         ·simp only [Act.put, sq]
                          rfl
                         refine pw (v := ?_) (a' := ?_) 23 (some 60) Mq115 HT_.out ?_ ?_ ?_
                         rotate_left;(intro w';go_simp;with_reducible rfl);rotate_left;(simp only [Act.put, sq];rfl)
                         refine pw (v := ?_) (a' := ?_) 24 (some 61) Mq116 HT_.out ?_ ?_ ?_
                         rotate_left;(intro w';go_simp;with_reducible rfl);rotate_left;(simp only [Act.put, sq];rfl)
                         refine pu (a' := ?_) 25 (some 62) Mq117 HT_.out ?_ ?_
                         rotate_left
                         ·simp only [Act.put, sq]
                          rfl
                         refine pu (a' := ?_) 26 (some 63) Mq118 HT_.out ?_ ?_
                         rotate_left
                         ·simp only [Act.put, sq]
                          rfl
                         refine pu (a' := ?_) 27 (some 64) Mq119 HT_.out ?_ ?_
                         rotate_left
                         ·simp only [Act.put, sq]
                          rfl
                         refine pu (a' := ?_) 28 (some 65) Mq120 HT_.out ?_ ?_
                         rotate_left
                         ·simp only [Act.put, sq]
                          rfl
                         refine pu (a' := ?_) 29 (some 66) Mq121 HT_.out ?_ ?_
                         rotate_left
                         ·simp only [Act.put, sq]
                          rfl
                         refine pu (a' := ?_) 30 (some 67) Mq122 HT_.out ?_ ?_
                         rotate_left
                         ·simp only [Act.put, sq]
                          rfl
                         refine pu (a' := ?_) 31 (some 68) Mq123 HT_.out ?_ ?_
                         rotate_left
                         ·simp only [Act.put, sq]
                          rfl
                         refine pu (a' := ?_) 32 (some 69) Mq124 HT_.out ?_ ?_
                         rotate_left
                         ·simp only [Act.put, sq]
                          rfl
                         refine pu (a' := ?_) 33 (some 70) Mq125 HT_.out ?_ ?_
                         rotate_left
                         ·simp only [Act.put, sq]
                          rfl
                         refine pw (v := ?_) (a' := ?_) 34 (some 71) Mq126 HT_.out ?_ ?_ ?_
                         rotate_left;(intro w';go_simp;with_reducible rfl);rotate_left;(simp only [Act.put, sq];rfl)
                         refine pw (v := ?_) (a' := ?_) 35 (some 72) Mq127 HT_.out ?_ ?_ ?_
                         rotate_left;(intro w';go_simp;with_reducible rfl);rotate_left;(simp only [Act.put, sq];rfl)
                         refine pw (v := ?_) (a' := ?_) 36 (some 73) Mq128 HT_.out ?_ ?_ ?_
                         rotate_left;(intro w';go_simp;with_reducible rfl);rotate_left;(simp only [Act.put, sq];rfl)
                         refine done_ (done_of HT_.out (by kernel_rfl)) ?_
                         try go_wp2
                         (try simp only [← hl7_3])
                         go_roundg k3
                         case measure => have := HK1.out; have := HK2.out; have := HK3.out; omega
                         case rel => exact ⟨(x7_3), (wrap64 (x9_3 - 1)), (by first | rfl | (simp; done) | (simp [*]; done)), H', ⟨by have := HK1.out; have := HK2.out; have := HK3.out; omega⟩, ⟨by (try simp only [hl7_3]); (with_reducible repeat (first | apply Kd.R_alloc | apply Kd.R_drewN | apply Kd.R_drew)); exact HO_5.out⟩, ⟨by (try simp only [hl7_3]); (with_reducible repeat (first | apply Kd.R_alloc | apply Kd.R_drewN | apply Kd.R_drew)); exact HO_7.out⟩, ⟨by (try simp only [hl7_3]); (with_reducible repeat (first | refine blk_drewN ?_ _ | refine blk_drew ?_ | refine blk_alloc ?_ _)); exact BK126.out⟩, ⟨by repeat (first | (with_reducible first | exact HB.out | apply below_alloc | apply pwd | apply bd1 | refine below_set ?_ GE126.out) | exact HB.out)⟩⟩
                       ·rw [if_neg c34] at H
                        exact absurd H (by simp)
                      ·rw [if_neg c33] at H
                       exact absurd H (by simp)
                    ·rw [if_neg c26] at H
                     have c26b0 : ((rd l0_1 x24_2) == (rd l0_1 x9_3)) = false := beq_eq_false_iff_ne.mpr c26
                     have c26b1 : ((rd l0_1 x24_2) != (rd l0_1 x9_3)) = true := bne_iff_ne.mpr c26
                     have H' := As0.mk H
                     clear H
                     try go_wp2
                     have n0_ := As0.mk (Kd.R_drew HO_5.out)
                     have n1_ := As0.mk (Kd.R_drew HO_7.out)
                     have n2_ := As0.mk (blk_drew BK126.out)
                     have n3_ := As0.mk (bd1 HB.out)
                     clear HO_5
                     clear HO_7
                     clear BK126
                     clear HB
                     have HO_5 := n0_
                     have HO_7 := n1_
                     have BK126 := n2_
                     have HB := n3_
                     clear n0_ n1_ n2_ n3_
                     have p134 : 0 ≤ (x24_2 : Int) := of_decide_eq_true (by first | (with_reducible assumption) | assumption)
                     have q134 : x24_2 < (l0_1.length : Int) := of_decide_eq_true (by first | (with_reducible assumption) | assumption)
                     obtain ⟨ad134, e134, hx134_0⟩ := Kd.at_int HR0_1.out x24_2 p134 q134
                     have hw134_0 := hx134_0
                     cases e134
                     replace hx134_0 := (HB.out.cell (World.block_lt_of_cell? w _ hx134_0)).trans hx134_0
                     replace p134 := eq_true p134
                     replace q134 := eq_true q134
                     have p135 : 0 ≤ (x9_3 : Int) := of_decide_eq_true (by first | (with_reducible assumption) | assumption)
                     have q135 : x9_3 < (l0_1.length : Int) := of_decide_eq_true (by first | (with_reducible assumption) | assumption)
                     obtain ⟨ad135, e135, hx135_0⟩ := Kd.at_int HR0_1.out x9_3 p135 q135
                     have hw135_0 := hx135_0
                     obtain rfl : ad134 = ad135 := (by injection e135)
                     replace hx135_0 := (HB.out.cell (World.block_lt_of_cell? w _ hx135_0)).trans hx135_0
                     replace p135 := eq_true p135
                     replace q135 := eq_true q135
                     refine start_ (n := 37) (S := fun w' => w'.cell? ⟨gb126, 0, none⟩ = some (.slice A0_0 l0_0.length c0_0) ∧ w'.cell? ⟨gb126, 1, none⟩ = some (.slice (some ad134) l0_1.length c0_1) ∧ w'.cell? (ad134.add (x24_2).toNat) = some (.int .i64 (rd l0_1 x24_2)) ∧ w'.cell? (ad134.add (x9_3).toNat) = some (.int .i64 (rd l0_1 x9_3))) (ds := []) Mq91 (by kernel_rfl) rfl rfl ⟨(blk_cell BK126.out 0).trans rfl, (blk_cell BK126.out 1).trans rfl, ((HB.out.cell (World.block_lt_of_cell? w _ hw134_0)).trans hw134_0), ((HB.out.cell (World.block_lt_of_cell? w _ hw135_0)).trans hw135_0)⟩ (fun hHeld => ?_); refine with_tabW r8Level.tab13 r8Level.bits13 (fun HT_ HW_ => ?_)
                     generalize wr.drew = w50 at HO_5 HO_7 BK126 HB hx134_0 hx135_0 hHeld ⊢
                     refine pw (v := ?_) (a' := ?_) 0 (some 37) Mq92 HT_.out ?_ ?_ ?_
                     rotate_left;(intro w';go_simp;with_reducible rfl);rotate_left;(simp only [Act.put, sq];rfl)
                     refine pw (v := ?_) (a' := ?_) 2 (some 39) Mq93 HT_.out ?_ ?_ ?_
                     rotate_left;(intro w';go_simp;with_reducible rfl);rotate_left;(simp only [Act.put, sq];rfl)
                     refine pw (v := ?_) (a' := ?_) 5 (some 42) Mq94 HT_.out ?_ ?_ ?_
                     rotate_left;(intro w';go_simp;with_reducible rfl);rotate_left;(simp only [Act.put, sq];rfl)
                     refine pw (v := ?_) (a' := ?_) 7 (some 44) Mq95 HT_.out ?_ ?_ ?_
                     rotate_left;(intro w';go_simp;with_reducible rfl);rotate_left;(simp only [Act.put, sq];rfl)
                     refine tw (v := ?_) (a' := ?_) 1 (some 38) Mq96 HT_.out HW_.out ?_ hHeld ?_ ?_
                     rotate_left
                     ·rintro w' ⟨s0, s1, s2, s3⟩
                      go_simp
                      with_reducible rfl
                     rotate_left
                     ·simp only [Act.put, sq]
                      rfl
                     refine pw (v := ?_) (a' := ?_) 3 (some 40) Mq97 HT_.out ?_ ?_ ?_
                     rotate_left;(intro w';go_simp;with_reducible rfl);rotate_left;(simp only [Act.put, sq];rfl)
                     refine tw (v := ?_) (a' := ?_) 4 (some 41) Mq98 HT_.out HW_.out ?_ hHeld ?_ ?_
                     rotate_left
                     ·rintro w' ⟨s0, s1, s2, s3⟩
                      go_simp
                      with_reducible rfl
                     rotate_left
                     ·simp only [Act.put, sq]
                      rfl
                     refine tw (v := ?_) (a' := ?_) 6 (some 43) Mq99 HT_.out HW_.out ?_ hHeld ?_ ?_
                     rotate_left
                     ·rintro w' ⟨s0, s1, s2, s3⟩
                      go_simp
                      with_reducible rfl
                     rotate_left
                     ·simp only [Act.put, sq]
                      rfl
                     refine pw (v := ?_) (a' := ?_) 8 (some 45) Mq100 HT_.out ?_ ?_ ?_
                     rotate_left;(intro w';go_simp;with_reducible rfl);rotate_left;(simp only [Act.put, sq];rfl)
                     refine tw (v := ?_) (a' := ?_) 9 (some 46) Mq101 HT_.out HW_.out ?_ hHeld ?_ ?_
                     rotate_left
                     ·rintro w' ⟨s0, s1, s2, s3⟩
                      go_simp
                      with_reducible rfl
                     rotate_left
                     ·simp only [Act.put, sq]
                      rfl
                     refine pw (v := ?_) (a' := ?_) 10 (some 47) Mq102 HT_.out ?_ ?_ ?_
                     rotate_left;(intro w';go_simp;with_reducible rfl);rotate_left;(simp only [Act.put, sq];rfl)
                     refine pw (v := ?_) (a' := ?_) 11 (some 48) Mq103 HT_.out ?_ ?_ ?_
                     rotate_left;(intro w';go_simp;with_reducible rfl);rotate_left;(simp only [Act.put, sq];rfl)
                     refine pu (a' := ?_) 12 (some 49) Mq104 HT_.out ?_ ?_
                     rotate_left
                     ·simp only [Act.put, sq]
                      rfl
                     refine pu (a' := ?_) 13 (some 50) Mq105 HT_.out ?_ ?_
                     rotate_left
                     ·simp only [Act.put, sq]
                      rfl
                     refine pu (a' := ?_) 14 (some 51) Mq106 HT_.out ?_ ?_
                     rotate_left
                     ·simp only [Act.put, sq]
                      rfl
                     refine pu (a' := ?_) 15 (some 52) Mq107 HT_.out ?_ ?_
                     rotate_left
                     ·simp only [Act.put, sq]
                      rfl
                     refine pu (a' := ?_) 16 (some 53) Mq108 HT_.out ?_ ?_
                     rotate_left
                     ·simp only [Act.put, sq]
                      rfl
                     refine pu (a' := ?_) 17 (some 54) Mq109 HT_.out ?_ ?_
                     rotate_left
                     ·simp only [Act.put, sq]
                      rfl
                     refine pu (a' := ?_) 18 (some 55) Mq110 HT_.out ?_ ?_
                     rotate_left
                     ·simp only [Act.put, sq]
                      rfl
                     refine pu (a' := ?_) 19 (some 56) Mq111 HT_.out ?_ ?_
                     rotate_left
                     ·simp only [Act.put, sq]
                      rfl
                     refine pu (a' := ?_) 20 (some 57) Mq112 HT_.out ?_ ?_
                     rotate_left
                     ·simp only [Act.put, sq]
                      rfl
                     refine pu (a' := ?_) 21 (some 58) Mq113 HT_.out ?_ ?_
                     rotate_left
                     ·simp only [Act.put, sq]
                      rfl
                     refine pu (a' := ?_) 22 (some 59) Mq114 HT_.out ?_ ?_
                     rotate_left
                     ·simp only [Act.put, sq]
                      rfl
                     refine pu (a' := ?_) 23 (some 60) Mq115 HT_.out ?_ ?_
                     rotate_left
                     ·simp only [Act.put, sq]
                      rfl
                     refine pu (a' := ?_) 24 (some 61) Mq116 HT_.out ?_ ?_
                     rotate_left
                     ·simp only [Act.put, sq]
                      rfl
                     refine pu (a' := ?_) 25 (some 62) Mq117 HT_.out ?_ ?_
                     rotate_left
                     ·simp only [Act.put, sq]
                      rfl
                     refine pu (a' := ?_) 26 (some 63) Mq118 HT_.out ?_ ?_
                     rotate_left
                     ·simp only [Act.put, sq]
                      rfl
                     refine pu (a' := ?_) 27 (some 64) Mq119 HT_.out ?_ ?_
                     rotate_left
                     ·simp only [Act.put, sq]
                      rfl
                     refine pu (a' := ?_) 28 (some 65) Mq120 HT_.out ?_ ?_
                     rotate_left
                     ·simp only [Act.put, sq]
                      rfl
                     refine pu (a' := ?_) 29 (some 66) Mq121 HT_.out ?_ ?_
                     rotate_left
                     ·simp only [Act.put, sq]
                      rfl
                     refine pu (a' := ?_) 30 (some 67) Mq122 HT_.out ?_ ?_
                     rotate_left
                     ·simp only [Act.put, sq]
                      rfl
                     refine pu (a' := ?_) 31 (some 68) Mq123 HT_.out ?_ ?_
                     rotate_left
                     ·simp only [Act.put, sq]
                      rfl
                     refine pu (a' := ?_) 32 (some 69) Mq124 HT_.out ?_ ?_
                     rotate_left
                     ·simp only [Act.put, sq]
                      rfl
                     refine pu (a' := ?_) 33 (some 70) Mq125 HT_.out ?_ ?_
                     rotate_left
                     ·simp only [Act.put, sq]
                      rfl
                     refine pu (a' := ?_) 34 (some 71) Mq126 HT_.out ?_ ?_
                     rotate_left
                     ·simp only [Act.put, sq]
                      rfl
                     refine pu (a' := ?_) 35 (some 72) Mq127 HT_.out ?_ ?_
                     rotate_left
                     ·simp only [Act.put, sq]
                      rfl
                     refine pw (v := ?_) (a' := ?_) 36 (some 73) Mq128 HT_.out ?_ ?_ ?_
                     rotate_left;(intro w';go_simp;with_reducible rfl);rotate_left;(simp only [Act.put, sq];rfl)
                     refine done_ (done_of HT_.out (by kernel_rfl)) ?_
                     try go_wp2
                     (try simp only [← hl7_3])
                     go_roundg k3
                     case measure => have := HK1.out; have := HK2.out; have := HK3.out; omega
                     case rel => exact ⟨(x7_3), (wrap64 (x9_3 - 1)), (by first | rfl | (simp; done) | (simp [*]; done)), H', ⟨by have := HK1.out; have := HK2.out; have := HK3.out; omega⟩, ⟨by (try simp only [hl7_3]); (with_reducible repeat (first | apply Kd.R_alloc | apply Kd.R_drewN | apply Kd.R_drew)); exact HO_5.out⟩, ⟨by (try simp only [hl7_3]); (with_reducible repeat (first | apply Kd.R_alloc | apply Kd.R_drewN | apply Kd.R_drew)); exact HO_7.out⟩, ⟨by (try simp only [hl7_3]); (with_reducible repeat (first | refine blk_drewN ?_ _ | refine blk_drew ?_ | refine blk_alloc ?_ _)); exact BK126.out⟩, ⟨by repeat (first | (with_reducible first | exact HB.out | apply below_alloc | apply pwd | apply bd1 | refine below_set ?_ GE126.out) | exact HB.out)⟩⟩
                   ·rw [if_neg c25] at H
                    exact absurd H (by simp)
                  ·rw [if_neg c24] at H
                   exact absurd H (by simp)
                 ·rw [if_neg c23] at H
                  exact absurd H (by simp)
                ·rw [if_neg c22] at H
                 exact absurd H (by simp)
               ·rw [if_neg c21] at H
                have c21b0 : decide (0 ≤ x9_3) = false := decide_eq_false c21
                clear c21
                have H' := As0.mk H
                clear H
                go_wp2
                (try simp only [← hl7_3])
                go_roundg k3
                case measure => have := HK1.out; have := HK2.out; have := HK3.out; omega
                case rel => exact ⟨(x7_3), (wrap64 (x24_2 + 1)), (by first | rfl | (simp; done) | (simp [*]; done)), H', ⟨by have := HK1.out; have := HK2.out; have := HK3.out; omega⟩, ⟨by (try simp only [hl7_3]); (with_reducible repeat (first | apply Kd.R_alloc | apply Kd.R_drewN | apply Kd.R_drew)); exact HO_5.out⟩, ⟨by (try simp only [hl7_3]); (with_reducible repeat (first | apply Kd.R_alloc | apply Kd.R_drewN | apply Kd.R_drew)); exact HO_7.out⟩, ⟨by (try simp only [hl7_3]); (with_reducible repeat (first | refine blk_drewN ?_ _ | refine blk_drew ?_ | refine blk_alloc ?_ _)); exact BK126.out⟩, ⟨by repeat (first | (with_reducible first | exact HB.out | apply below_alloc | apply pwd | apply bd1 | refine below_set ?_ GE126.out) | exact HB.out)⟩⟩
            ·rw [if_neg c17] at H
             exact absurd H (by simp)
           ·rw [if_neg c16] at H
            exact absurd H (by simp)
          ·rw [if_neg c15] at H
           have c15b0 : decide (x24_2 < (x5_1.length : Int)) = false := decide_eq_false c15
           clear c15
           have H' := As0.mk H
           clear H
           go_wp2
           go_roundg k2
           case measure => have := HK1.out; have := HK2.out; omega
           case rel => exact ⟨(x7_2), (wrap64 (x16_1 + 1)), (by first | rfl | (simp; done) | (simp [*]; done)), H', ⟨by have := HK1.out; have := HK2.out; omega⟩, ⟨by (with_reducible repeat (first | apply Kd.R_alloc | apply Kd.R_drewN | apply Kd.R_drew)); exact Kd.R_mono HO_7.out (fun _ hk => trivial)⟩, ⟨by (with_reducible repeat (first | refine blk_drewN ?_ _ | refine blk_drew ?_ | refine blk_alloc ?_ _)); exact BK126.out⟩, ⟨by repeat (first | (with_reducible first | exact HB.out | apply below_alloc | apply pwd | apply bd1 | refine below_set ?_ GE126.out) | exact HB.out)⟩⟩
       ·rw [if_neg c11] at H
        exact absurd H (by simp)
      ·rw [if_neg c10] at H
       exact absurd H (by simp)
     ·rw [if_neg c9] at H
      have c9b0 : decide (x16_1 < (wrap64 (a1 + 1))) = false := decide_eq_false c9
      clear c9
      obtain rfl := Option.some.inj H
      go_wp2
      go_ret
      exact ⟨_, by first | rfl | (simp [errW_none, errW_some] <;> rfl) | (simp [*, errW_none, errW_some] <;> rfl), by (with_reducible repeat (first | apply Kd.R_alloc | apply Kd.R_drewN | apply Kd.R_drew)); exact HO_5.out, by repeat (first | (with_reducible first | exact HB.out | apply below_alloc | apply pwd | apply bd1 | refine below_set ?_ GE126.out) | exact HB.out)⟩
  ·rw [if_neg c4] at H
   exact absurd H (by simp)
 ·rw [if_neg c3] at H
  exact absurd H (by simp)
end Go.Proofs.Ytjffhhalmicodaa.PF
end

section
set_option linter.unusedVariables false
namespace Go.Proofs.Ytjffhhalmicodaa.L
open Go.RowKit Go.Proofs.G.PrintWords Go.Proofs.G.PrintLast Go.Proofs.G.PrintMore Go.Proofs.Ytjffhhalmicodaa.X Go.Proofs.Ytjffhhalmicodaa.PF
theorem led_loop (nx mk l : List Int) {s : Nat} (hs : s < nx.length) (hl : l.length = nx.length) (h6 : nx.length ≤ 1000) (hr : ∀ t : Nat, t < nx.length → 0 ≤ rd l t) :
    ∀ d t : Nat, t + d = nx.length → Evr (fun k => r8led.l0 k (s : Int) (setTo nx l s t) l (nx.length : Int) (t : Int) nx mk) (setTo nx l s nx.length) := by
  intro d
  induction d with
  | zero =>
    intro t ht
    obtain rfl : t = nx.length := by omega
    refine Evr.step (h := fun _ => some (setTo nx l s nx.length)) (fun k => ?_) (Evr.const _)
    simp only [r8led.l0]
    rw [if_neg (by omega)]
  | succ d ih =>
    intro t ht
    have h0 := hr t (by omega)
    refine Evr.step (h := fun k => r8led.l0 k (s : Int) (setTo nx l s (t + 1)) l (nx.length : Int) ((t + 1 : Nat) : Int) nx mk) (fun k => ?_) (ih (t + 1) (by omega))
    simp only [r8led.l0]
    rw [if_pos (by omega), if_pos (by omega), if_pos (by omega), if_pos (by omega), if_pos (by omega), wsucc (by omega), setTo]
    by_cases hb : bits .and .i64 (shr .i64 (rd nx (s : Int)) (t : Int)) 1 = 1
    · rw [if_pos hb, if_pos hb, if_pos h0]
    · rw [if_neg hb, if_neg hb]
theorem led_ev (nx mk l : List Int) {s : Nat} (hs : s < nx.length) (hl : l.length = nx.length) (h6 : nx.length ≤ 1000) (hr : ∀ t : Nat, t < nx.length → 0 ≤ rd l t) :
    Evr (fun k => r8led.f k nx mk l (s : Int)) (setTo nx l s nx.length) := by
  have := led_loop nx mk l hs hl h6 hr nx.length 0 (by omega)
  unfold r8led.f
  rw [hl]
  exact this
def Ask (nx mk x5 : List Int) (kk s t : Nat) : Prop := rd mk s = rd mk t ∧ (kk = 0 ∨ (rd x5 s = rd x5 t ∧ setTo nx x5 s nx.length = setTo nx x5 t nx.length))
theorem level_in (nx mk x5 : List Int) (hm : mk.length = nx.length) (h5 : x5.length = nx.length) (h6 : nx.length ≤ 6) (hr : ∀ t : Nat, t < nx.length → 0 ≤ rd x5 t) {kk s : Nat} (hs : s < nx.length) {r : List Int} {L : List Int} (hL : L.length = nx.length) {p : Nat → Bool} (hp : ∀ t, t < s → (p t = true ↔ Ask nx mk x5 kk s t)) (x15 x16 x23 x24 : Int) :
    ∀ (m v : Nat), m ≤ s → Evr (fun k => r8Level.l1 k x5 (kk : Int) (L.set s (lower p m v : Int)) x15 x16 x23 (wrap64 (x24 + 1)) nx mk) r → Evr (fun k => r8Level.l2 k x5 (kk : Int) (L.set s (v : Int)) (s : Int) ((m : Int) - 1) x15 x16 x23 x24 nx mk) r := by
  intro m
  induction m with
  | zero =>
    intro v _ h
    refine Evr.step (fun k => ?_) h
    simp only [r8Level.l2]
    rw [if_neg (by omega)]
    rfl
  | succ m ih =>
    intro v hm1 h
    have e1 : (((m + 1 : Nat) : Int)) - 1 = (m : Int) := by omega
    have e2 : wrap64 ((m : Int) - 1) = (m : Int) - 1 := by unfold wrap64; omega
    rw [e1]
    rw [lower] at h
    have hask := hp m (by omega)
    have ih1 := ih (if p m = true then m else v) (by omega) h
    have hset : ∀ u : Int, (L.set s (v : Int)).set (s : Int).toNat u = L.set s u := fun u => by rw [Int.toNat_natCast, List.set_set]
    have hlen : (L.set s (v : Int)).length = nx.length := by rw [List.length_set, hL]
    by_cases hmk : rd mk (s : Int) = rd mk (m : Int)
    · by_cases k0 : kk = 0
      · have hpt : p m = true := hask.2 ⟨hmk, .inl k0⟩
        rw [if_pos hpt] at ih1
        refine Evr.step (fun k => ?_) ih1
        simp only [r8Level.l2]
        rw [if_pos (by omega), if_pos (by omega), if_pos (by omega), if_pos (by omega), if_pos (by omega), if_pos hmk, if_pos (by omega), if_pos (by omega), hset, e2]
      · by_cases hc : rd x5 (s : Int) = rd x5 (m : Int)
        · by_cases hq : setTo nx x5 s nx.length = setTo nx x5 m nx.length
          · have hpt : p m = true := hask.2 ⟨hmk, .inr ⟨hc, hq⟩⟩
            rw [if_pos hpt] at ih1
            refine Evr.step (h := fun k => (r8led.f k nx mk x5 (s : Int)).bind fun a => (r8led.f k nx mk x5 (m : Int)).bind fun b => if a = b then r8Level.l2 k x5 (kk : Int) (L.set s (m : Int)) (s : Int) ((m : Int) - 1) x15 x16 x23 x24 nx mk else r8Level.l2 k x5 (kk : Int) (L.set s (v : Int)) (s : Int) ((m : Int) - 1) x15 x16 x23 x24 nx mk) (fun k => ?_) ?_
            · simp only [r8Level.l2]
              rw [if_pos (by omega), if_pos (by omega), if_pos (by omega), if_pos (by omega), if_pos (by omega), if_pos hmk, if_neg (by omega), if_pos (by omega), if_pos (by omega), if_pos hc, hset, e2]
              simp only [show ((s : Int) < ((L.set s (v : Int)).length : Int)) from by omega, if_true]
            · refine Evr.bind (led_ev nx mk x5 hs h5 (by omega) hr) (Evr.bind (led_ev nx mk x5 (s := m) (by omega) h5 (by omega) hr) ?_)
              simp only [hq, if_true]
              exact ih1
          · have hpt : ¬ p m = true := fun q => by
              rcases (hask.1 q).2 with a | a
              · exact k0 a
              · exact hq a.2
            rw [if_neg hpt] at ih1
            refine Evr.step (h := fun k => (r8led.f k nx mk x5 (s : Int)).bind fun a => (r8led.f k nx mk x5 (m : Int)).bind fun b => if a = b then r8Level.l2 k x5 (kk : Int) (L.set s (m : Int)) (s : Int) ((m : Int) - 1) x15 x16 x23 x24 nx mk else r8Level.l2 k x5 (kk : Int) (L.set s (v : Int)) (s : Int) ((m : Int) - 1) x15 x16 x23 x24 nx mk) (fun k => ?_) ?_
            · simp only [r8Level.l2]
              rw [if_pos (by omega), if_pos (by omega), if_pos (by omega), if_pos (by omega), if_pos (by omega), if_pos hmk, if_neg (by omega), if_pos (by omega), if_pos (by omega), if_pos hc, hset, e2]
              simp only [show ((s : Int) < ((L.set s (v : Int)).length : Int)) from by omega, if_true]
            · refine Evr.bind (led_ev nx mk x5 hs h5 (by omega) hr) (Evr.bind (led_ev nx mk x5 (s := m) (by omega) h5 (by omega) hr) ?_)
              simp only [hq, if_false]
              exact ih1
        · have hpt : ¬ p m = true := fun q => by
            rcases (hask.1 q).2 with a | a
            · exact k0 a
            · exact hc a.1
          rw [if_neg hpt] at ih1
          refine Evr.step (fun k => ?_) ih1
          simp only [r8Level.l2]
          rw [if_pos (by omega), if_pos (by omega), if_pos (by omega), if_pos (by omega), if_pos (by omega), if_pos hmk, if_neg (by omega), if_pos (by omega), if_pos (by omega), if_neg hc, e2]
    · have hpt : ¬ p m = true := fun q => hmk (hask.1 q).1
      rw [if_neg hpt] at ih1
      refine Evr.step (fun k => ?_) ih1
      simp only [r8Level.l2]
      rw [if_pos (by omega), if_pos (by omega), if_pos (by omega), if_pos (by omega), if_pos (by omega), if_neg hmk, e2]
theorem rd_set {L : List Int} {s : Nat} (hs : s < L.length) (x : Int) (i : Nat) : rd (L.set s x) i = if i = s then x else rd L i := by
 unfold rd
 rw [Int.toNat_natCast, List.getD_eq_getElem?_getD, List.getElem?_set, List.getD_eq_getElem?_getD]
 by_cases h : s = i
 ·subst h
  simp [hs]
 ·have h' : ¬ i = s := fun e => h e.symm
  simp [h, h']
theorem level_mid {nx mk x5 : List Int} (hv : VW nx mk) (h5 : x5.length = nx.length) (hr : ∀ t : Nat, t < nx.length → 0 ≤ rd x5 t) {kk : Nat} (hp : ∀ s t, s < nx.length → t < nx.length → (E nx mk kk s t ↔ Ask nx mk x5 kk s t)) {r : List Int} (x15 x16 : Int)
    (hnext : ∀ l, RepOk nx mk kk l → Evr (fun k => r8Level.l0 k l x15 (wrap64 (x16 + 1)) nx mk) r) :
    ∀ (d s : Nat) (L : List Int), s + d = nx.length → L.length = nx.length → (∀ i : Nat, i < s → rd L i = (rep (E nx mk kk) i : Int)) → Evr (fun k => r8Level.l1 k x5 (kk : Int) L x15 x16 (nx.length : Int) (s : Int) nx mk) r := by
  have h6 := hv.le
  intro d
  induction d with
  | zero =>
    intro s L hs hL hI
    obtain rfl : s = nx.length := by omega
    refine Evr.step (fun k => ?_) (hnext L ⟨hL, hI⟩)
    simp only [r8Level.l1]
    rw [if_neg (by omega)]
  | succ d ih =>
    intro s L hs hL hI
    classical
    have hin := level_in nx mk x5 hv.len h5 h6 hr (kk := kk) (s := s) (by omega) (r := r) (L := L) hL (p := fun t => decide (E nx mk kk s t)) (fun t ht => by rw [decide_eq_true_eq]; exact hp s t (by omega) (by omega)) x15 x16 (nx.length : Int) (s : Int) s s (Nat.le_refl _)
    have hrep : lower (fun t => decide (E nx mk kk s t)) s s = rep (E nx mk kk) s := by unfold rep; rfl
    rw [hrep, wsucc (by omega)] at hin
    refine Evr.step (fun k => ?_) (hin (ih (s + 1) _ (by omega) (by rw [List.length_set, hL]) (fun i hi => ?_)))
    · simp only [r8Level.l1]
      rw [if_pos (by omega), if_pos (by omega), if_pos (by omega), Int.toNat_natCast, show wrap64 ((s : Int) - 1) = (s : Int) - 1 by unfold wrap64; omega]
    · rw [rd_set (by omega)]
      by_cases e : i = s
      · rw [if_pos e, e]
      · rw [if_neg e]
        exact hI i (by omega)
theorem rd_rep (n : Nat) (i : Nat) : rd (List.replicate n 0) (i : Int) = 0 := by
  unfold rd
  rw [List.getD_eq_getElem?_getD, List.getElem?_replicate]
  split <;> rfl
theorem level_out {nx mk : List Int} (hv : VW nx mk) (dep : Nat) (hd : dep ≤ 1000) : ∀ (d kk : Nat) (x5 : List Int), kk + d = dep → x5.length = nx.length → (∀ t : Nat, t < nx.length → 0 ≤ rd x5 t) → (∀ j, kk = j + 1 → RepOk nx mk j x5) → ∃ l, RepOk nx mk dep l ∧ Evr (fun k => r8Level.l0 k x5 ((dep + 1 : Nat) : Int) (kk : Int) nx mk) l := by
 have h6 := hv.le
 intro d
 have ask : ∀ (kk : Nat) (x5 : List Int), (∀ j, kk = j + 1 → RepOk nx mk j x5) → ∀ s t, s < nx.length → t < nx.length → (E nx mk kk s t ↔ Ask nx mk x5 kk s t) := by
  intro kk x5 hR s t hs ht
  unfold Ask
  cases kk with
  | zero =>
   rw [E_zero hs ht]
   simp
  | succ j =>
   rw [(hR j rfl).succ hv hs ht]
   simp
 have enter : ∀ (kk : Nat) (x5 : List Int) (r : List Int), kk ≤ dep → x5.length = nx.length → (∀ t : Nat, t < nx.length → 0 ≤ rd x5 t) → (∀ j, kk = j + 1 → RepOk nx mk j x5) → (∀ l, RepOk nx mk kk l → Evr (fun k => r8Level.l0 k l ((dep + 1 : Nat) : Int) ((kk + 1 : Nat) : Int) nx mk) r) → Evr (fun k => r8Level.l0 k x5 ((dep + 1 : Nat) : Int) (kk : Int) nx mk) r := by
  intro kk x5 r hk h5 hr hR hn
  refine Evr.step (fun k => ?_) (level_mid hv h5 hr (ask kk x5 hR) ((dep + 1 : Nat) : Int) (kk : Int) (fun l hl => by rw [wsucc (by omega)]; exact hn l hl) nx.length 0 (List.replicate nx.length 0) (by omega) (by simp) (fun i hi => by omega))
  simp only [r8Level.l0]
  rw [if_pos (by omega), if_pos (by omega), if_pos (by rw [Int.toNat_natCast]; omega), Int.toNat_natCast, h5]
  rfl
 induction d with
 | zero =>
  intro kk x5 hk h5 hr hR
  obtain rfl : kk = dep := by omega
  have : ∃ l, RepOk nx mk kk l := by
   refine ⟨(List.range nx.length).map fun s => (rep (E nx mk kk) s : Int), by simp, fun s hs => ?_⟩
   simp [rd, List.getD_eq_getElem?_getD, hs]
  obtain ⟨l0, hl0⟩ := this
  refine ⟨l0, hl0, enter kk x5 l0 (Nat.le_refl _) h5 hr hR (fun l hl => ?_)⟩
  have e : l = l0 := list_ext_rd (by rw [hl.1, hl0.1]) (fun i hi => by rw [hl.1] at hi; rw [hl.2 i hi, hl0.2 i hi])
  subst e
  refine Evr.step (h := fun _ => some l) (fun k => ?_) (Evr.const _)
  simp only [r8Level.l0]
  rw [if_neg (by omega)]
 | succ d ih =>
  intro kk x5 hk h5 hr hR
  have hex : ∃ l, RepOk nx mk kk l := by
   refine ⟨(List.range nx.length).map fun s => (rep (E nx mk kk) s : Int), by simp, fun s hs => ?_⟩
   simp [rd, List.getD_eq_getElem?_getD, hs]
  obtain ⟨l1, hl1⟩ := hex
  obtain ⟨l, hl, hev⟩ := ih (kk + 1) l1 (by omega) hl1.1 (fun t ht => (hl1.range ht).1) (fun j hj => by (obtain rfl : j = kk := by omega); exact hl1)
  refine ⟨l, hl, enter kk x5 l (by omega) h5 hr hR (fun l' hl' => ?_)⟩
  have e : l' = l1 := list_ext_rd (by rw [hl'.1, hl1.1]) (fun i hi => by rw [hl'.1] at hi; rw [hl'.2 i hi, hl1.2 i hi])
  subst e
  exact hev
theorem Level_ev {nx mk : List Int} (hv : VW nx mk) (dep : Nat) (hd : dep ≤ 1000) : ∃ l, RepOk nx mk dep l ∧ Evr (fun k => r8Level.f k nx mk (dep : Int)) l := by
 have h6 := hv.le
 obtain ⟨l, h1, h2⟩ := level_out hv dep hd dep 0 (List.replicate nx.length 0) (by omega) (by simp) (fun t ht => by rw [rd_rep]; exact Int.le_refl _) (fun j hj => by omega)
 refine ⟨l, h1, Evr.congr (fun k => ?_) h2⟩
 unfold r8Level.f
 rw [if_pos (by omega), if_pos (by rw [Int.toNat_natCast]; omega), Int.toNat_natCast, wsucc (by omega)]
 rfl
end Go.Proofs.Ytjffhhalmicodaa.L
end
