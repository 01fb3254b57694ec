import Derived.Test.YtjffhhalmicodaaXw
set_option linter.unusedVariables false
set_option linter.unusedSimpArgs false
namespace Go.Proofs.Ytjffhhalmicodaa.X
open Go.RowKit Go.Proofs.YtjffhhalmicodaaW.PrintWords Go.Proofs.YtjffhhalmicodaaW.PrintLast Go.Proofs.YtjffhhalmicodaaW.PrintMore

set_option maxRecDepth 100000 in
set_option maxHeartbeats 4000000 in
theorem RHolds_at (A0 : Option Addr) (c0 : Nat) (nx : List Int) (A1 : Option Addr) (c1 : Nat) (mk : List Int) (s : ByteArray) (w : World) (hr0 : Kd.C (Kd.int .i64) w A0 nx.length nx) (hc0 : nx.length ≤ c0) (hr1 : Kd.C (Kd.int .i64) w A1 mk.length mk) (hc1 : mk.length ≤ c1) (hsz : s.size ≤ 1000000000) (f : Fm) (k : Nat) (res : Int) (ho : whole (cs s) = some f) (hf : rholdF nx mk k f (0, 0, 0) = some res) :
    Calls Try.prog 23 #[.agg #[.slice A0 nx.length c0, .slice A1 mk.length c1], .string s] w fun e w' => e = .returned (.int .i64 res) ∧ Below w.heap.size w w' := by
  have hstr := (whole_str ho).1
  have HD := Lib.hid (show (cs s).drop 0 = str f ++ [] by rw [List.drop_zero, List.append_nil]; exact hstr)
  have HA := Lib.hid (rholds_all nx mk k f 0 0 0 res (whole_str ho).2 hf)
  clear ho hf hstr
  have hu := Try.underlying24
  have hu2 := Try.underlying71
  have HR0 := Lib.hid hr0
  have HR1 := Lib.hid hr1
  clear hr0 hr1
  go_enter Try.func23, Try.ntmps23
  go_wp2_with (first | ((with_reducible refine gate_dst (N := 2) rfl ?_); refine box_event ?hg (N := 2) ?hd (cs := #[.slice A0 nx.length c0, .slice A1 mk.length c1]) (t := 24) ?hr ?_; (case hd => rfl); (case hg => rfl); (case hr => first | (go_simp; done) | (go_simp; rfl)); intro gw hgw wb hbw hbb; have HBW := Lib.hid (below_step (Below.refl w.heap.size w) hbb); have hw0 : wb.cell? ⟨gw, 0, none⟩ = some (.slice A0 nx.length c0) := (blk_cell hbw 0).trans rfl; have hw1 : wb.cell? ⟨gw, 1, none⟩ = some (.slice A1 mk.length c1) := (blk_cell hbw 1).trans rfl; clear hgw hbb hbw) | fail)
  refine (HA.out A0 c0 A1 c1 s 0 0 [] _ (Kd.C_below HR0.out HBW.out) hc0 (Kd.C_below HR1.out HBW.out) hc1 hsz rfl HD.out).mono ?_
  rintro e w9 ⟨rfl, hb⟩
  have HB9 := Lib.hid (below_step HBW.out hb)
  clear hb hw0 hw1
  go_wp2
  go_ret
  exact ⟨rfl, HB9.out⟩

set_option maxRecDepth 100000 in
set_option maxHeartbeats 4000000 in
theorem RSteps_103_120 (A0 : Option Addr) (c0 : Nat) (nx : List Int) (A1 : Option Addr) (c1 : Nat) (mk : List Int) (s : ByteArray) (w : World) (hr0 : Kd.C (Kd.int .i64) w A0 nx.length nx) (hc0 : nx.length ≤ c0) (hr1 : Kd.C (Kd.int .i64) w A1 mk.length mk) (hc1 : mk.length ≤ c1) (hsz : s.size ≤ 1000000000) (a : Fm) (k : Nat) (set cnt : Int) (ho : whole (cs s) = some (.fix 103 120 a)) (hf : rloopF nx mk k 120 a (allOf nx) 1 (0, 0, 0) = some (set, cnt)) :
    Calls Try.prog 25 #[.agg #[.slice A0 nx.length c0, .slice A1 mk.length c1], .string s] w fun e w' => e = .returned (.int .i64 cnt) ∧ Below w.heap.size w w' := by
  have hstr := (whole_str ho).1
  have HWF := Lib.hid (whole_str ho).2
  have HD := Lib.hid (show (cs s).drop 0 = 103 :: 120 :: (str a ++ []) by rw [List.drop_zero, List.append_nil]; exact hstr)
  have HF := Lib.hid hf
  clear ho hf hstr
  have hu := Try.underlying24
  have hu2 := Try.underlying71
  have HR0 := Lib.hid hr0
  have HR1 := Lib.hid hr1
  clear hr0 hr1
  go_enter Try.func25, Try.ntmps25
  go_wp2_with (first | ((with_reducible refine gate_dst (N := 2) rfl ?_); refine box_event ?hg (N := 2) ?hd (cs := #[.slice A0 nx.length c0, .slice A1 mk.length c1]) (t := 24) ?hr ?_; (case hd => rfl); (case hg => rfl); (case hr => first | (go_simp; done) | (go_simp; rfl)); intro gw hgw wb hbw hbb; have HBW := Lib.hid (below_step (Below.refl w.heap.size w) hbb); have hw0 : wb.cell? ⟨gw, 0, none⟩ = some (.slice A0 nx.length c0) := (blk_cell hbw 0).trans rfl; have hw1 : wb.cell? ⟨gw, 1, none⟩ = some (.slice A1 mk.length c1) := (blk_cell hbw 1).trans rfl; clear hgw hbb hbw) | fail)
  refine (rfix103_120 A0 c0 nx A1 c1 mk s 0 0 0 0 _ (Kd.C_below HR0.out HBW.out) hc0 (Kd.C_below HR1.out HBW.out) hc1 hsz a k set cnt [] HD.out (fun j _ x y z res h => rholds_all nx mk j a x y z res HWF.out.2.2 h) HF.out).mono ?_
  rintro e w9 ⟨rfl, hb⟩
  have HB9 := Lib.hid (below_step HBW.out hb)
  clear hb hw0 hw1
  go_wp2
  go_ret
  exact ⟨rfl, HB9.out⟩

set_option maxRecDepth 100000 in
set_option maxHeartbeats 4000000 in
theorem RSteps_103_121 (A0 : Option Addr) (c0 : Nat) (nx : List Int) (A1 : Option Addr) (c1 : Nat) (mk : List Int) (s : ByteArray) (w : World) (hr0 : Kd.C (Kd.int .i64) w A0 nx.length nx) (hc0 : nx.length ≤ c0) (hr1 : Kd.C (Kd.int .i64) w A1 mk.length mk) (hc1 : mk.length ≤ c1) (hsz : s.size ≤ 1000000000) (a : Fm) (k : Nat) (set cnt : Int) (ho : whole (cs s) = some (.fix 103 121 a)) (hf : rloopF nx mk k 121 a (allOf nx) 1 (0, 0, 0) = some (set, cnt)) :
    Calls Try.prog 25 #[.agg #[.slice A0 nx.length c0, .slice A1 mk.length c1], .string s] w fun e w' => e = .returned (.int .i64 cnt) ∧ Below w.heap.size w w' := by
  have hstr := (whole_str ho).1
  have HWF := Lib.hid (whole_str ho).2
  have HD := Lib.hid (show (cs s).drop 0 = 103 :: 121 :: (str a ++ []) by rw [List.drop_zero, List.append_nil]; exact hstr)
  have HF := Lib.hid hf
  clear ho hf hstr
  have hu := Try.underlying24
  have hu2 := Try.underlying71
  have HR0 := Lib.hid hr0
  have HR1 := Lib.hid hr1
  clear hr0 hr1
  go_enter Try.func25, Try.ntmps25
  go_wp2_with (first | ((with_reducible refine gate_dst (N := 2) rfl ?_); refine box_event ?hg (N := 2) ?hd (cs := #[.slice A0 nx.length c0, .slice A1 mk.length c1]) (t := 24) ?hr ?_; (case hd => rfl); (case hg => rfl); (case hr => first | (go_simp; done) | (go_simp; rfl)); intro gw hgw wb hbw hbb; have HBW := Lib.hid (below_step (Below.refl w.heap.size w) hbb); have hw0 : wb.cell? ⟨gw, 0, none⟩ = some (.slice A0 nx.length c0) := (blk_cell hbw 0).trans rfl; have hw1 : wb.cell? ⟨gw, 1, none⟩ = some (.slice A1 mk.length c1) := (blk_cell hbw 1).trans rfl; clear hgw hbb hbw) | fail)
  refine (rfix103_121 A0 c0 nx A1 c1 mk s 0 0 0 0 _ (Kd.C_below HR0.out HBW.out) hc0 (Kd.C_below HR1.out HBW.out) hc1 hsz a k set cnt [] HD.out (fun j _ x y z res h => rholds_all nx mk j a x y z res HWF.out.2.2 h) HF.out).mono ?_
  rintro e w9 ⟨rfl, hb⟩
  have HB9 := Lib.hid (below_step HBW.out hb)
  clear hb hw0 hw1
  go_wp2
  go_ret
  exact ⟨rfl, HB9.out⟩

set_option maxRecDepth 100000 in
set_option maxHeartbeats 4000000 in
theorem RSteps_103_122 (A0 : Option Addr) (c0 : Nat) (nx : List Int) (A1 : Option Addr) (c1 : Nat) (mk : List Int) (s : ByteArray) (w : World) (hr0 : Kd.C (Kd.int .i64) w A0 nx.length nx) (hc0 : nx.length ≤ c0) (hr1 : Kd.C (Kd.int .i64) w A1 mk.length mk) (hc1 : mk.length ≤ c1) (hsz : s.size ≤ 1000000000) (a : Fm) (k : Nat) (set cnt : Int) (ho : whole (cs s) = some (.fix 103 122 a)) (hf : rloopF nx mk k 122 a (allOf nx) 1 (0, 0, 0) = some (set, cnt)) :
    Calls Try.prog 25 #[.agg #[.slice A0 nx.length c0, .slice A1 mk.length c1], .string s] w fun e w' => e = .returned (.int .i64 cnt) ∧ Below w.heap.size w w' := by
  have hstr := (whole_str ho).1
  have HWF := Lib.hid (whole_str ho).2
  have HD := Lib.hid (show (cs s).drop 0 = 103 :: 122 :: (str a ++ []) by rw [List.drop_zero, List.append_nil]; exact hstr)
  have HF := Lib.hid hf
  clear ho hf hstr
  have hu := Try.underlying24
  have hu2 := Try.underlying71
  have HR0 := Lib.hid hr0
  have HR1 := Lib.hid hr1
  clear hr0 hr1
  go_enter Try.func25, Try.ntmps25
  go_wp2_with (first | ((with_reducible refine gate_dst (N := 2) rfl ?_); refine box_event ?hg (N := 2) ?hd (cs := #[.slice A0 nx.length c0, .slice A1 mk.length c1]) (t := 24) ?hr ?_; (case hd => rfl); (case hg => rfl); (case hr => first | (go_simp; done) | (go_simp; rfl)); intro gw hgw wb hbw hbb; have HBW := Lib.hid (below_step (Below.refl w.heap.size w) hbb); have hw0 : wb.cell? ⟨gw, 0, none⟩ = some (.slice A0 nx.length c0) := (blk_cell hbw 0).trans rfl; have hw1 : wb.cell? ⟨gw, 1, none⟩ = some (.slice A1 mk.length c1) := (blk_cell hbw 1).trans rfl; clear hgw hbb hbw) | fail)
  refine (rfix103_122 A0 c0 nx A1 c1 mk s 0 0 0 0 _ (Kd.C_below HR0.out HBW.out) hc0 (Kd.C_below HR1.out HBW.out) hc1 hsz a k set cnt [] HD.out (fun j _ x y z res h => rholds_all nx mk j a x y z res HWF.out.2.2 h) HF.out).mono ?_
  rintro e w9 ⟨rfl, hb⟩
  have HB9 := Lib.hid (below_step HBW.out hb)
  clear hb hw0 hw1
  go_wp2
  go_ret
  exact ⟨rfl, HB9.out⟩

set_option maxRecDepth 100000 in
set_option maxHeartbeats 4000000 in
theorem RSteps_109_120 (A0 : Option Addr) (c0 : Nat) (nx : List Int) (A1 : Option Addr) (c1 : Nat) (mk : List Int) (s : ByteArray) (w : World) (hr0 : Kd.C (Kd.int .i64) w A0 nx.length nx) (hc0 : nx.length ≤ c0) (hr1 : Kd.C (Kd.int .i64) w A1 mk.length mk) (hc1 : mk.length ≤ c1) (hsz : s.size ≤ 1000000000) (a : Fm) (k : Nat) (set cnt : Int) (ho : whole (cs s) = some (.fix 109 120 a)) (hf : rloopF nx mk k 120 a 0 1 (0, 0, 0) = some (set, cnt)) :
    Calls Try.prog 25 #[.agg #[.slice A0 nx.length c0, .slice A1 mk.length c1], .string s] w fun e w' => e = .returned (.int .i64 cnt) ∧ Below w.heap.size w w' := by
  have hstr := (whole_str ho).1
  have HWF := Lib.hid (whole_str ho).2
  have HD := Lib.hid (show (cs s).drop 0 = 109 :: 120 :: (str a ++ []) by rw [List.drop_zero, List.append_nil]; exact hstr)
  have HF := Lib.hid hf
  clear ho hf hstr
  have hu := Try.underlying24
  have hu2 := Try.underlying71
  have HR0 := Lib.hid hr0
  have HR1 := Lib.hid hr1
  clear hr0 hr1
  go_enter Try.func25, Try.ntmps25
  go_wp2_with (first | ((with_reducible refine gate_dst (N := 2) rfl ?_); refine box_event ?hg (N := 2) ?hd (cs := #[.slice A0 nx.length c0, .slice A1 mk.length c1]) (t := 24) ?hr ?_; (case hd => rfl); (case hg => rfl); (case hr => first | (go_simp; done) | (go_simp; rfl)); intro gw hgw wb hbw hbb; have HBW := Lib.hid (below_step (Below.refl w.heap.size w) hbb); have hw0 : wb.cell? ⟨gw, 0, none⟩ = some (.slice A0 nx.length c0) := (blk_cell hbw 0).trans rfl; have hw1 : wb.cell? ⟨gw, 1, none⟩ = some (.slice A1 mk.length c1) := (blk_cell hbw 1).trans rfl; clear hgw hbb hbw) | fail)
  refine (rfix109_120 A0 c0 nx A1 c1 mk s 0 0 0 0 _ (Kd.C_below HR0.out HBW.out) hc0 (Kd.C_below HR1.out HBW.out) hc1 hsz a k set cnt [] HD.out (fun j _ x y z res h => rholds_all nx mk j a x y z res HWF.out.2.2 h) HF.out).mono ?_
  rintro e w9 ⟨rfl, hb⟩
  have HB9 := Lib.hid (below_step HBW.out hb)
  clear hb hw0 hw1
  go_wp2
  go_ret
  exact ⟨rfl, HB9.out⟩

set_option maxRecDepth 100000 in
set_option maxHeartbeats 4000000 in
theorem RSteps_109_121 (A0 : Option Addr) (c0 : Nat) (nx : List Int) (A1 : Option Addr) (c1 : Nat) (mk : List Int) (s : ByteArray) (w : World) (hr0 : Kd.C (Kd.int .i64) w A0 nx.length nx) (hc0 : nx.length ≤ c0) (hr1 : Kd.C (Kd.int .i64) w A1 mk.length mk) (hc1 : mk.length ≤ c1) (hsz : s.size ≤ 1000000000) (a : Fm) (k : Nat) (set cnt : Int) (ho : whole (cs s) = some (.fix 109 121 a)) (hf : rloopF nx mk k 121 a 0 1 (0, 0, 0) = some (set, cnt)) :
    Calls Try.prog 25 #[.agg #[.slice A0 nx.length c0, .slice A1 mk.length c1], .string s] w fun e w' => e = .returned (.int .i64 cnt) ∧ Below w.heap.size w w' := by
  have hstr := (whole_str ho).1
  have HWF := Lib.hid (whole_str ho).2
  have HD := Lib.hid (show (cs s).drop 0 = 109 :: 121 :: (str a ++ []) by rw [List.drop_zero, List.append_nil]; exact hstr)
  have HF := Lib.hid hf
  clear ho hf hstr
  have hu := Try.underlying24
  have hu2 := Try.underlying71
  have HR0 := Lib.hid hr0
  have HR1 := Lib.hid hr1
  clear hr0 hr1
  go_enter Try.func25, Try.ntmps25
  go_wp2_with (first | ((with_reducible refine gate_dst (N := 2) rfl ?_); refine box_event ?hg (N := 2) ?hd (cs := #[.slice A0 nx.length c0, .slice A1 mk.length c1]) (t := 24) ?hr ?_; (case hd => rfl); (case hg => rfl); (case hr => first | (go_simp; done) | (go_simp; rfl)); intro gw hgw wb hbw hbb; have HBW := Lib.hid (below_step (Below.refl w.heap.size w) hbb); have hw0 : wb.cell? ⟨gw, 0, none⟩ = some (.slice A0 nx.length c0) := (blk_cell hbw 0).trans rfl; have hw1 : wb.cell? ⟨gw, 1, none⟩ = some (.slice A1 mk.length c1) := (blk_cell hbw 1).trans rfl; clear hgw hbb hbw) | fail)
  refine (rfix109_121 A0 c0 nx A1 c1 mk s 0 0 0 0 _ (Kd.C_below HR0.out HBW.out) hc0 (Kd.C_below HR1.out HBW.out) hc1 hsz a k set cnt [] HD.out (fun j _ x y z res h => rholds_all nx mk j a x y z res HWF.out.2.2 h) HF.out).mono ?_
  rintro e w9 ⟨rfl, hb⟩
  have HB9 := Lib.hid (below_step HBW.out hb)
  clear hb hw0 hw1
  go_wp2
  go_ret
  exact ⟨rfl, HB9.out⟩

set_option maxRecDepth 100000 in
set_option maxHeartbeats 4000000 in
theorem RSteps_109_122 (A0 : Option Addr) (c0 : Nat) (nx : List Int) (A1 : Option Addr) (c1 : Nat) (mk : List Int) (s : ByteArray) (w : World) (hr0 : Kd.C (Kd.int .i64) w A0 nx.length nx) (hc0 : nx.length ≤ c0) (hr1 : Kd.C (Kd.int .i64) w A1 mk.length mk) (hc1 : mk.length ≤ c1) (hsz : s.size ≤ 1000000000) (a : Fm) (k : Nat) (set cnt : Int) (ho : whole (cs s) = some (.fix 109 122 a)) (hf : rloopF nx mk k 122 a 0 1 (0, 0, 0) = some (set, cnt)) :
    Calls Try.prog 25 #[.agg #[.slice A0 nx.length c0, .slice A1 mk.length c1], .string s] w fun e w' => e = .returned (.int .i64 cnt) ∧ Below w.heap.size w w' := by
  have hstr := (whole_str ho).1
  have HWF := Lib.hid (whole_str ho).2
  have HD := Lib.hid (show (cs s).drop 0 = 109 :: 122 :: (str a ++ []) by rw [List.drop_zero, List.append_nil]; exact hstr)
  have HF := Lib.hid hf
  clear ho hf hstr
  have hu := Try.underlying24
  have hu2 := Try.underlying71
  have HR0 := Lib.hid hr0
  have HR1 := Lib.hid hr1
  clear hr0 hr1
  go_enter Try.func25, Try.ntmps25
  go_wp2_with (first | ((with_reducible refine gate_dst (N := 2) rfl ?_); refine box_event ?hg (N := 2) ?hd (cs := #[.slice A0 nx.length c0, .slice A1 mk.length c1]) (t := 24) ?hr ?_; (case hd => rfl); (case hg => rfl); (case hr => first | (go_simp; done) | (go_simp; rfl)); intro gw hgw wb hbw hbb; have HBW := Lib.hid (below_step (Below.refl w.heap.size w) hbb); have hw0 : wb.cell? ⟨gw, 0, none⟩ = some (.slice A0 nx.length c0) := (blk_cell hbw 0).trans rfl; have hw1 : wb.cell? ⟨gw, 1, none⟩ = some (.slice A1 mk.length c1) := (blk_cell hbw 1).trans rfl; clear hgw hbb hbw) | fail)
  refine (rfix109_122 A0 c0 nx A1 c1 mk s 0 0 0 0 _ (Kd.C_below HR0.out HBW.out) hc0 (Kd.C_below HR1.out HBW.out) hc1 hsz a k set cnt [] HD.out (fun j _ x y z res h => rholds_all nx mk j a x y z res HWF.out.2.2 h) HF.out).mono ?_
  rintro e w9 ⟨rfl, hb⟩
  have HB9 := Lib.hid (below_step HBW.out hb)
  clear hb hw0 hw1
  go_wp2
  go_ret
  exact ⟨rfl, HB9.out⟩

theorem rholdF_mono (nx mk : List Int) : ∀ k, (∀ f s, LeO (rholdF nx mk k f s) (rholdF nx mk (k + 1) f s)) ∧ (∀ x a st c s, LeO (rloopF nx mk k x a st c s) (rloopF nx mk (k + 1) x a st c s)) := by
  intro k
  induction k with
  | zero => exact ⟨fun f m r h => by simp [rholdF] at h, fun x a s c m r h => by simp [rloopF] at h⟩
  | succ k ih =>
    obtain ⟨ih1, ih2⟩ := ih
    refine ⟨fun f m => ?_, fun x a s c m => ?_⟩
    · cases f with
      | mark neg j => simp only [rholdF]; exact LeO.refl _
      | con c => simp only [rholdF]; exact LeO.refl _
      | var c => simp only [rholdF]; exact LeO.refl _
      | two c a b =>
        rw [rholdF, rholdF]
        exact LeO.bind (ih1 a m) (fun p => LeO.bind (ih1 b m) (fun q => LeO.refl _))
      | one c a =>
        rw [rholdF, rholdF]
        exact LeO.bind (ih1 a m) (fun p => LeO.refl _)
      | fix c x a =>
        rw [rholdF, rholdF]
        exact LeO.bind (ih2 x a _ 1 m) (fun p => LeO.refl _)
    · rw [rloopF, rloopF]
      exact LeO.bind (ih1 a _) (fun p => LeO.ite (LeO.refl _) (ih2 x a _ _ _))

def ref_Holds.f (k : Nat) (l0_0 l0_1 : List Int) (a1 : ByteArray) : Option Int := if a1.size ≤ 1000000000 then (match whole (cs a1) with
  | none => none
  | some f => rholdF l0_0 l0_1 k f (0, 0, 0)) else none
theorem ref_Holds.mono : ∀ a0 a1 a2 k, LeO (ref_Holds.f k a0 a1 a2) (ref_Holds.f (k + 1) a0 a1 a2) := by
  intro a0 a1 a2 k
  unfold ref_Holds.f
  refine LeO.ite ?_ (LeO.refl _)
  cases whole (cs a2) with
  | none => exact LeO.refl _
  | some f => exact (rholdF_mono a0 a1 k).1 f _
theorem ref_Holds.calls (k : Nat) (A0_0 : Option Addr) (c0_0 : Nat) (l0_0 : List Int) (A0_1 : Option Addr) (c0_1 : Nat) (l0_1 : List Int) (a1 : ByteArray) (r : Int) (w : World) (hr0_0 : Kd.C (Kd.int .i64) w A0_0 l0_0.length l0_0) (hc0_0 : l0_0.length ≤ c0_0) (hr0_1 : Kd.C (Kd.int .i64) w A0_1 l0_1.length l0_1) (hc0_1 : l0_1.length ≤ c0_1) (h : ref_Holds.f k l0_0 l0_1 a1 = some r) :
    Calls Try.prog 23 #[.agg #[.slice A0_0 l0_0.length c0_0, .slice A0_1 l0_1.length c0_1], .string a1] w fun e w' => e = .returned (.int .i64 r) ∧ Below w.heap.size w w' := by
  unfold ref_Holds.f at h
  split at h
  · rename_i hsz
    cases ho : whole (cs a1) with
    | none => rw [ho] at h; cases h
    | some f =>
      rw [ho] at h
      exact RHolds_at A0_0 c0_0 l0_0 A0_1 c0_1 l0_1 a1 w hr0_0 hc0_0 hr0_1 hc0_1 hsz f k r ho h
  · cases h

def ref_Steps.f (k : Nat) (l0_0 l0_1 : List Int) (a1 : ByteArray) : Option Int := if a1.size ≤ 1000000000 then (match whole (cs a1) with
  | some (.fix c x a) => (rloopF l0_0 l0_1 k x a (if c = 103 then allOf l0_0 else 0) 1 (0, 0, 0)).bind fun p => some p.2
  | _ => none) else none
theorem ref_Steps.mono : ∀ a0 a1 a2 k, LeO (ref_Steps.f k a0 a1 a2) (ref_Steps.f (k + 1) a0 a1 a2) := by
  intro a0 a1 a2 k
  unfold ref_Steps.f
  refine LeO.ite ?_ (LeO.refl _)
  split
  · exact LeO.bind ((rholdF_mono a0 a1 k).2 _ _ _ _ _) (fun p => LeO.refl _)
  · exact LeO.refl _
theorem ref_Steps.calls (k : Nat) (A0_0 : Option Addr) (c0_0 : Nat) (l0_0 : List Int) (A0_1 : Option Addr) (c0_1 : Nat) (l0_1 : List Int) (a1 : ByteArray) (r : Int) (w : World) (hr0_0 : Kd.C (Kd.int .i64) w A0_0 l0_0.length l0_0) (hc0_0 : l0_0.length ≤ c0_0) (hr0_1 : Kd.C (Kd.int .i64) w A0_1 l0_1.length l0_1) (hc0_1 : l0_1.length ≤ c0_1) (h : ref_Steps.f k l0_0 l0_1 a1 = some r) :
    Calls Try.prog 25 #[.agg #[.slice A0_0 l0_0.length c0_0, .slice A0_1 l0_1.length c0_1], .string a1] w fun e w' => e = .returned (.int .i64 r) ∧ Below w.heap.size w w' := by
  unfold ref_Steps.f at h
  split at h
  · rename_i hsz
    split at h
    · rename_i c x a ho
      obtain ⟨p, hp, h⟩ := Option.bind_eq_some_iff.mp h
      injection h with h
      subst h
      have hwf := (whole_str ho).2
      simp only [WF] at hwf
      obtain ⟨hc, hx, _⟩ := hwf
      rcases hc with rfl | rfl
      · rw [if_neg (by omega)] at hp
        rcases (show x = 120 ∨ x = 121 ∨ x = 122 by omega) with rfl | rfl | rfl
        · exact RSteps_109_120 A0_0 c0_0 l0_0 A0_1 c0_1 l0_1 a1 w hr0_0 hc0_0 hr0_1 hc0_1 hsz a k p.1 p.2 ho hp
        · exact RSteps_109_121 A0_0 c0_0 l0_0 A0_1 c0_1 l0_1 a1 w hr0_0 hc0_0 hr0_1 hc0_1 hsz a k p.1 p.2 ho hp
        · exact RSteps_109_122 A0_0 c0_0 l0_0 A0_1 c0_1 l0_1 a1 w hr0_0 hc0_0 hr0_1 hc0_1 hsz a k p.1 p.2 ho hp
      · simp only [if_true] at hp
        rcases (show x = 120 ∨ x = 121 ∨ x = 122 by omega) with rfl | rfl | rfl
        · exact RSteps_103_120 A0_0 c0_0 l0_0 A0_1 c0_1 l0_1 a1 w hr0_0 hc0_0 hr0_1 hc0_1 hsz a k p.1 p.2 ho hp
        · exact RSteps_103_121 A0_0 c0_0 l0_0 A0_1 c0_1 l0_1 a1 w hr0_0 hc0_0 hr0_1 hc0_1 hsz a k p.1 p.2 ho hp
        · exact RSteps_103_122 A0_0 c0_0 l0_0 A0_1 c0_1 l0_1 a1 w hr0_0 hc0_0 hr0_1 hc0_1 hsz a k p.1 p.2 ho hp
    · cases h
  · cases h
end Go.Proofs.Ytjffhhalmicodaa.X
