import Derived.Test.YtjffhhalmicodaaXq
import Derived.Test.YtjffhhalmicodaaPAx1
set_option linter.unusedVariables false
set_option linter.unusedSimpArgs false
namespace Go.Proofs.Ytjffhhalmicodaa.X
open Go.RowKit Go.Proofs.YtjffhhalmicodaaW.PrintWords Go.Proofs.YtjffhhalmicodaaW.PrintLast Go.Proofs.YtjffhhalmicodaaW.PrintMore

theorem valid_len {nx mk : List Int} (h : PA.fixes_Works_valid.f nx mk = some true) : 1 ≤ nx.length ∧ nx.length ≤ 6 ∧ nx.length = mk.length := by
  unfold PA.fixes_Works_valid.f at h
  split at h
  · split at h
    · split at h
      · exact ⟨by omega, by omega, by omega⟩
      · cases h
    · cases h
  · cases h

def wholeS (n : Nat) (s : ByteArray) : Option Fm := if s.size ≤ n then whole (cs s) else none
theorem parse_at (n : Nat) (hn : n ≤ 900000) (s : ByteArray) (w : World) : Calls Try.prog 49 #[.string s, .int .i64 (n : Int)] w (ParsePost (wholeS n s) w) := by
  have h := parse_calls s n w (by omega)
  have e : (if (s.size : Int) ≤ (n : Int) then whole (cs s) else none) = wholeS n s := by
    unfold wholeS
    by_cases hc : s.size ≤ n
    · rw [if_pos hc, if_pos (by omega)]
    · rw [if_neg hc, if_neg (by omega)]
  rw [e] at h
  exact h

/-- what reading a works and a formula leaves -/
def RfPost (o : Option Fm) (w : World) (e : Ending) (w' : World) : Prop := Below w.heap.size w w' ∧ match o with
  | none => e = .returned (.tuple #[.pointer none, .int .i64 3])
  | some f => ∃ v, e = .returned (.tuple #[v, .int .i64 0]) ∧ Tree w' (fun k => w.heap.size ≤ k) f v

set_option maxRecDepth 100000 in
set_option maxHeartbeats 2000000 in
theorem rd_bad (A0 : Option Addr) (c0 : Nat) (nx : List Int) (A1 : Option Addr) (c1 : Nat) (mk : List Int) (s : ByteArray) (w : World) (hr0 : Kd.C (Kd.int .i64) w A0 nx.length nx) (hc0 : nx.length ≤ c0) (hr1 : Kd.C (Kd.int .i64) w A1 mk.length mk) (hc1 : mk.length ≤ c1) (hv : PA.fixes_Works_valid.f nx mk = some false) :
    Calls Try.prog 46 #[.agg #[.slice A0 nx.length c0, .slice A1 mk.length c1], .string s] w fun e w' => e = .returned (.tuple #[.pointer none, .int .i64 2]) ∧ Below w.heap.size w w' := by
  have HV := Lib.hid hv
  clear hv
  have hu := Try.underlying28
  have hu2 := Try.underlying74
  have HR0 := Lib.hid hr0
  have HR1 := Lib.hid hr1
  clear hr0 hr1
  go_enter Try.func46, Try.ntmps46
  go_wp2_with (first | ((with_reducible refine gate_dst (N := 2) rfl ?_); refine box_event ?hg (N := 2) ?hd (cs := #[.slice A0 nx.length c0, .slice A1 mk.length c1]) (t := 28) ?hr ?_; (case hd => rfl); (case hg => rfl); (case hr => first | (go_simp; done) | (go_simp; rfl)); intro gw hgw wb hbw hbb; have HBW := Lib.hid (below_step (Below.refl w.heap.size w) hbb); have hw0 : wb.cell? ⟨gw, 0, none⟩ = some (.slice A0 nx.length c0) := (blk_cell hbw 0).trans rfl; have hw1 : wb.cell? ⟨gw, 1, none⟩ = some (.slice A1 mk.length c1) := (blk_cell hbw 1).trans rfl; have HGW := Lib.hid hbw; clear hgw hbb hbw) | fail)
  refine (PA.fixes_Works_valid.calls A0 c0 nx A1 c1 mk false _ (Kd.C_below HR0.out HBW.out) hc0 (Kd.C_below HR1.out HBW.out) hc1 HV.out).mono ?_
  rintro e wv ⟨rfl, hbv⟩
  have j0_ := pw_cell_below hbv hw0
  have j1_ := pw_cell_below hbv hw1
  have n0_ := Lib.hid (below_step HBW.out hbv)
  clear hw0 hw1 HBW hbv
  have hw0 := j0_
  have hw1 := j1_
  have HBW := n0_
  clear j0_ j1_ n0_
  go_wp2
  go_ret2
  exact ⟨rfl, HBW.out⟩

set_option maxRecDepth 100000 in
set_option maxHeartbeats 2000000 in
theorem rd_none (A0 : Option Addr) (c0 : Nat) (nx : List Int) (A1 : Option Addr) (c1 : Nat) (mk : List Int) (s : ByteArray) (w : World) (hr0 : Kd.C (Kd.int .i64) w A0 nx.length nx) (hc0 : nx.length ≤ c0) (hr1 : Kd.C (Kd.int .i64) w A1 mk.length mk) (hc1 : mk.length ≤ c1) (hv : PA.fixes_Works_valid.f nx mk = some true) (ho : wholeS 40 s = none) :
    Calls Try.prog 46 #[.agg #[.slice A0 nx.length c0, .slice A1 mk.length c1], .string s] w (RfPost none w) := by
  have HV := Lib.hid hv
  have HO := Lib.hid ho
  clear hv ho
  have hu := Try.underlying28
  have hu2 := Try.underlying74
  have HR0 := Lib.hid hr0
  have HR1 := Lib.hid hr1
  clear hr0 hr1
  go_enter Try.func46, Try.ntmps46
  go_wp2_with (first | ((with_reducible refine gate_dst (N := 2) rfl ?_); refine box_event ?hg (N := 2) ?hd (cs := #[.slice A0 nx.length c0, .slice A1 mk.length c1]) (t := 28) ?hr ?_; (case hd => rfl); (case hg => rfl); (case hr => first | (go_simp; done) | (go_simp; rfl)); intro gw hgw wb hbw hbb; have HBW := Lib.hid (below_step (Below.refl w.heap.size w) hbb); have hw0 : wb.cell? ⟨gw, 0, none⟩ = some (.slice A0 nx.length c0) := (blk_cell hbw 0).trans rfl; have hw1 : wb.cell? ⟨gw, 1, none⟩ = some (.slice A1 mk.length c1) := (blk_cell hbw 1).trans rfl; have HGW := Lib.hid hbw; clear hgw hbb hbw) | fail)
  refine (PA.fixes_Works_valid.calls A0 c0 nx A1 c1 mk true _ (Kd.C_below HR0.out HBW.out) hc0 (Kd.C_below HR1.out HBW.out) hc1 HV.out).mono ?_
  rintro e wv ⟨rfl, hbv⟩
  have j0_ := pw_cell_below hbv hw0
  have j1_ := pw_cell_below hbv hw1
  have n0_ := Lib.hid (below_step HBW.out hbv)
  clear hw0 hw1 HBW hbv
  have hw0 := j0_
  have hw1 := j1_
  have HBW := n0_
  clear j0_ j1_ n0_
  go_wp2_with fail
  refine (parse_at 40 (by omega) s _).mono ?_
  rintro e wp ⟨hbp, hpp⟩
  rw [HO.out] at hpp
  have hpp' : e = .returned (.pointer none) := hpp
  subst hpp'
  clear hpp
  have j0_ := pw_cell_below hbp hw0
  have j1_ := pw_cell_below hbp hw1
  have n0_ := Lib.hid (below_step HBW.out hbp)
  clear hw0 hw1 HBW hbp
  have hw0 := j0_
  have hw1 := j1_
  have HBW := n0_
  clear j0_ j1_ n0_
  go_wp2
  go_ret2
  exact ⟨HBW.out, rfl⟩

set_option maxRecDepth 100000 in
set_option maxHeartbeats 2000000 in
theorem rd_some (A0 : Option Addr) (c0 : Nat) (nx : List Int) (A1 : Option Addr) (c1 : Nat) (mk : List Int) (s : ByteArray) (w : World) (hr0 : Kd.C (Kd.int .i64) w A0 nx.length nx) (hc0 : nx.length ≤ c0) (hr1 : Kd.C (Kd.int .i64) w A1 mk.length mk) (hc1 : mk.length ≤ c1) (f : Fm) (hv : PA.fixes_Works_valid.f nx mk = some true) (ho : wholeS 40 s = some f) :
    Calls Try.prog 46 #[.agg #[.slice A0 nx.length c0, .slice A1 mk.length c1], .string s] w (RfPost (some f) w) := by
  have HV := Lib.hid hv
  have HO := Lib.hid ho
  clear hv ho
  have hu := Try.underlying28
  have hu2 := Try.underlying74
  have HR0 := Lib.hid hr0
  have HR1 := Lib.hid hr1
  clear hr0 hr1
  go_enter Try.func46, Try.ntmps46
  go_wp2_with (first | ((with_reducible refine gate_dst (N := 2) rfl ?_); refine box_event ?hg (N := 2) ?hd (cs := #[.slice A0 nx.length c0, .slice A1 mk.length c1]) (t := 28) ?hr ?_; (case hd => rfl); (case hg => rfl); (case hr => first | (go_simp; done) | (go_simp; rfl)); intro gw hgw wb hbw hbb; have HBW := Lib.hid (below_step (Below.refl w.heap.size w) hbb); have hw0 : wb.cell? ⟨gw, 0, none⟩ = some (.slice A0 nx.length c0) := (blk_cell hbw 0).trans rfl; have hw1 : wb.cell? ⟨gw, 1, none⟩ = some (.slice A1 mk.length c1) := (blk_cell hbw 1).trans rfl; have HGW := Lib.hid hbw; clear hgw hbb hbw) | fail)
  refine (PA.fixes_Works_valid.calls A0 c0 nx A1 c1 mk true _ (Kd.C_below HR0.out HBW.out) hc0 (Kd.C_below HR1.out HBW.out) hc1 HV.out).mono ?_
  rintro e wv ⟨rfl, hbv⟩
  have j0_ := pw_cell_below hbv hw0
  have j1_ := pw_cell_below hbv hw1
  have n0_ := Lib.hid (below_step HBW.out hbv)
  clear hw0 hw1 HBW hbv
  have hw0 := j0_
  have hw1 := j1_
  have HBW := n0_
  clear j0_ j1_ n0_
  go_wp2_with fail
  refine (parse_at 40 (by omega) s _).mono ?_
  rintro e wp ⟨hbp, hpp⟩
  rw [HO.out] at hpp
  obtain ⟨v, rfl, ht⟩ := hpp
  obtain ⟨gk, rfl⟩ := ht.ptr
  have HSZ := Lib.hid HBW.out.size
  have HT := Lib.hid ht
  clear ht
  have j0_ := pw_cell_below hbp hw0
  have j1_ := pw_cell_below hbp hw1
  have n0_ := Lib.hid (below_step HBW.out hbp)
  clear hw0 hw1 HBW hbp
  have hw0 := j0_
  have hw1 := j1_
  have HBW := n0_
  clear j0_ j1_ n0_
  go_wp2
  go_ret2
  exact ⟨HBW.out, _, rfl, Tree.same (fun _ _ _ hc _ => hc) (fun k _ hk => Nat.le_trans HSZ.out hk) _ _ HT.out⟩

theorem is_calls (s : ByteArray) (w : World) : Calls Try.prog 19 #[.string s] w fun e w' => e = .returned (.bool (wholeS 40 s).isSome) ∧ Below w.heap.size w w' := by
  cases ho : wholeS 40 s with
  | none =>
    have HO := Lib.hid ho
    clear ho
    go_enter Try.func19, Try.ntmps19
    go_wp2_with fail
    refine (parse_at 40 (by omega) s _).mono ?_
    rintro e wp ⟨hbp, hpp⟩
    rw [HO.out] at hpp
    have hpp' : e = .returned (.pointer none) := hpp
    subst hpp'
    have HB := Lib.hid hbp
    clear hpp hbp
    go_wp2
    go_ret
    exact ⟨rfl, HB.out⟩
  | some f =>
    have HO := Lib.hid ho
    clear ho
    go_enter Try.func19, Try.ntmps19
    go_wp2_with fail
    refine (parse_at 40 (by omega) s _).mono ?_
    rintro e wp ⟨hbp, hpp⟩
    rw [HO.out] at hpp
    obtain ⟨v, rfl, ht⟩ := hpp
    obtain ⟨gk, rfl⟩ := ht.ptr
    have HB := Lib.hid hbp
    clear ht hbp
    go_wp2
    go_ret
    exact ⟨rfl, HB.out⟩

set_option maxRecDepth 100000 in
set_option maxHeartbeats 2000000 in
theorem Holds_bad (A0 : Option Addr) (c0 : Nat) (nx : List Int) (A1 : Option Addr) (c1 : Nat) (mk : List Int) (s : ByteArray) (w : World) (hr0 : Kd.C (Kd.int .i64) w A0 nx.length nx) (hc0 : nx.length ≤ c0) (hr1 : Kd.C (Kd.int .i64) w A1 mk.length mk) (hc1 : mk.length ≤ c1) (hv : PA.fixes_Works_valid.f nx mk = some false) :
    Calls Try.prog 16 #[.agg #[.slice A0 nx.length c0, .slice A1 mk.length c1], .string s] w fun e w' => e = .returned (.tuple #[.int .i64 0, .int .i64 2]) ∧ Below w.heap.size w w' := by
  have HV := Lib.hid hv
  clear hv
  have hu := Try.underlying28
  have hu2 := Try.underlying74
  have HR0 := Lib.hid hr0
  have HR1 := Lib.hid hr1
  clear hr0 hr1
  go_enter Try.func16, Try.ntmps16
  go_wp2_with (first | ((with_reducible refine gate_dst (N := 2) rfl ?_); refine box_event ?hg (N := 2) ?hd (cs := #[.slice A0 nx.length c0, .slice A1 mk.length c1]) (t := 28) ?hr ?_; (case hd => rfl); (case hg => rfl); (case hr => first | (go_simp; done) | (go_simp; rfl)); intro gw hgw wb hbw hbb; have HBW := Lib.hid (below_step (Below.refl w.heap.size w) hbb); have hw0 : wb.cell? ⟨gw, 0, none⟩ = some (.slice A0 nx.length c0) := (blk_cell hbw 0).trans rfl; have hw1 : wb.cell? ⟨gw, 1, none⟩ = some (.slice A1 mk.length c1) := (blk_cell hbw 1).trans rfl; have HGW := Lib.hid hbw; clear hgw hbb hbw) | fail)
  refine (rd_bad A0 c0 nx A1 c1 mk s _ (Kd.C_below HR0.out HBW.out) hc0 (Kd.C_below HR1.out HBW.out) hc1 HV.out).mono ?_
  rintro e wr ⟨rfl, hbr⟩
  have j0_ := pw_cell_below hbr hw0
  have j1_ := pw_cell_below hbr hw1
  have n0_ := Lib.hid (below_step HBW.out hbr)
  clear hw0 hw1 HBW hbr
  have hw0 := j0_
  have hw1 := j1_
  have HBW := n0_
  clear j0_ j1_ n0_
  go_wp2
  go_ret2
  exact ⟨rfl, HBW.out⟩

set_option maxRecDepth 100000 in
set_option maxHeartbeats 2000000 in
theorem Holds_none (A0 : Option Addr) (c0 : Nat) (nx : List Int) (A1 : Option Addr) (c1 : Nat) (mk : List Int) (s : ByteArray) (w : World) (hr0 : Kd.C (Kd.int .i64) w A0 nx.length nx) (hc0 : nx.length ≤ c0) (hr1 : Kd.C (Kd.int .i64) w A1 mk.length mk) (hc1 : mk.length ≤ c1) (hv : PA.fixes_Works_valid.f nx mk = some true) (ho : wholeS 40 s = none) :
    Calls Try.prog 16 #[.agg #[.slice A0 nx.length c0, .slice A1 mk.length c1], .string s] w fun e w' => e = .returned (.tuple #[.int .i64 0, .int .i64 3]) ∧ Below w.heap.size w w' := by
  have HV := Lib.hid hv
  have HO := Lib.hid ho
  clear hv ho
  have hu := Try.underlying28
  have hu2 := Try.underlying74
  have HR0 := Lib.hid hr0
  have HR1 := Lib.hid hr1
  clear hr0 hr1
  go_enter Try.func16, Try.ntmps16
  go_wp2_with (first | ((with_reducible refine gate_dst (N := 2) rfl ?_); refine box_event ?hg (N := 2) ?hd (cs := #[.slice A0 nx.length c0, .slice A1 mk.length c1]) (t := 28) ?hr ?_; (case hd => rfl); (case hg => rfl); (case hr => first | (go_simp; done) | (go_simp; rfl)); intro gw hgw wb hbw hbb; have HBW := Lib.hid (below_step (Below.refl w.heap.size w) hbb); have hw0 : wb.cell? ⟨gw, 0, none⟩ = some (.slice A0 nx.length c0) := (blk_cell hbw 0).trans rfl; have hw1 : wb.cell? ⟨gw, 1, none⟩ = some (.slice A1 mk.length c1) := (blk_cell hbw 1).trans rfl; have HGW := Lib.hid hbw; clear hgw hbb hbw) | fail)
  refine (rd_none A0 c0 nx A1 c1 mk s _ (Kd.C_below HR0.out HBW.out) hc0 (Kd.C_below HR1.out HBW.out) hc1 HV.out HO.out).mono ?_
  rintro e wr ⟨hbr, hpp⟩
  have hpp' : e = .returned (.tuple #[.pointer none, .int .i64 3]) := hpp
  subst hpp'
  clear hpp
  have j0_ := pw_cell_below hbr hw0
  have j1_ := pw_cell_below hbr hw1
  have n0_ := Lib.hid (below_step HBW.out hbr)
  clear hw0 hw1 HBW hbr
  have hw0 := j0_
  have hw1 := j1_
  have HBW := n0_
  clear j0_ j1_ n0_
  go_wp2
  go_ret2
  exact ⟨rfl, HBW.out⟩

set_option maxRecDepth 100000 in
set_option maxHeartbeats 2000000 in
theorem Steps_bad (A0 : Option Addr) (c0 : Nat) (nx : List Int) (A1 : Option Addr) (c1 : Nat) (mk : List Int) (s : ByteArray) (w : World) (hr0 : Kd.C (Kd.int .i64) w A0 nx.length nx) (hc0 : nx.length ≤ c0) (hr1 : Kd.C (Kd.int .i64) w A1 mk.length mk) (hc1 : mk.length ≤ c1) (hv : PA.fixes_Works_valid.f nx mk = some false) :
    Calls Try.prog 24 #[.agg #[.slice A0 nx.length c0, .slice A1 mk.length c1], .string s] w fun e w' => e = .returned (.tuple #[.int .i64 0, .int .i64 2]) ∧ Below w.heap.size w w' := by
  have HV := Lib.hid hv
  clear hv
  have hu := Try.underlying28
  have hu2 := Try.underlying74
  have HR0 := Lib.hid hr0
  have HR1 := Lib.hid hr1
  clear hr0 hr1
  go_enter Try.func24, Try.ntmps24
  go_wp2_with (first | ((with_reducible refine gate_dst (N := 2) rfl ?_); refine box_event ?hg (N := 2) ?hd (cs := #[.slice A0 nx.length c0, .slice A1 mk.length c1]) (t := 28) ?hr ?_; (case hd => rfl); (case hg => rfl); (case hr => first | (go_simp; done) | (go_simp; rfl)); intro gw hgw wb hbw hbb; have HBW := Lib.hid (below_step (Below.refl w.heap.size w) hbb); have hw0 : wb.cell? ⟨gw, 0, none⟩ = some (.slice A0 nx.length c0) := (blk_cell hbw 0).trans rfl; have hw1 : wb.cell? ⟨gw, 1, none⟩ = some (.slice A1 mk.length c1) := (blk_cell hbw 1).trans rfl; have HGW := Lib.hid hbw; clear hgw hbb hbw) | fail)
  refine (rd_bad A0 c0 nx A1 c1 mk s _ (Kd.C_below HR0.out HBW.out) hc0 (Kd.C_below HR1.out HBW.out) hc1 HV.out).mono ?_
  rintro e wr ⟨rfl, hbr⟩
  have j0_ := pw_cell_below hbr hw0
  have j1_ := pw_cell_below hbr hw1
  have n0_ := Lib.hid (below_step HBW.out hbr)
  clear hw0 hw1 HBW hbr
  have hw0 := j0_
  have hw1 := j1_
  have HBW := n0_
  clear j0_ j1_ n0_
  go_wp2
  go_ret2
  exact ⟨rfl, HBW.out⟩

set_option maxRecDepth 100000 in
set_option maxHeartbeats 2000000 in
theorem Steps_none (A0 : Option Addr) (c0 : Nat) (nx : List Int) (A1 : Option Addr) (c1 : Nat) (mk : List Int) (s : ByteArray) (w : World) (hr0 : Kd.C (Kd.int .i64) w A0 nx.length nx) (hc0 : nx.length ≤ c0) (hr1 : Kd.C (Kd.int .i64) w A1 mk.length mk) (hc1 : mk.length ≤ c1) (hv : PA.fixes_Works_valid.f nx mk = some true) (ho : wholeS 40 s = none) :
    Calls Try.prog 24 #[.agg #[.slice A0 nx.length c0, .slice A1 mk.length c1], .string s] w fun e w' => e = .returned (.tuple #[.int .i64 0, .int .i64 3]) ∧ Below w.heap.size w w' := by
  have HV := Lib.hid hv
  have HO := Lib.hid ho
  clear hv ho
  have hu := Try.underlying28
  have hu2 := Try.underlying74
  have HR0 := Lib.hid hr0
  have HR1 := Lib.hid hr1
  clear hr0 hr1
  go_enter Try.func24, Try.ntmps24
  go_wp2_with (first | ((with_reducible refine gate_dst (N := 2) rfl ?_); refine box_event ?hg (N := 2) ?hd (cs := #[.slice A0 nx.length c0, .slice A1 mk.length c1]) (t := 28) ?hr ?_; (case hd => rfl); (case hg => rfl); (case hr => first | (go_simp; done) | (go_simp; rfl)); intro gw hgw wb hbw hbb; have HBW := Lib.hid (below_step (Below.refl w.heap.size w) hbb); have hw0 : wb.cell? ⟨gw, 0, none⟩ = some (.slice A0 nx.length c0) := (blk_cell hbw 0).trans rfl; have hw1 : wb.cell? ⟨gw, 1, none⟩ = some (.slice A1 mk.length c1) := (blk_cell hbw 1).trans rfl; have HGW := Lib.hid hbw; clear hgw hbb hbw) | fail)
  refine (rd_none A0 c0 nx A1 c1 mk s _ (Kd.C_below HR0.out HBW.out) hc0 (Kd.C_below HR1.out HBW.out) hc1 HV.out HO.out).mono ?_
  rintro e wr ⟨hbr, hpp⟩
  have hpp' : e = .returned (.tuple #[.pointer none, .int .i64 3]) := hpp
  subst hpp'
  clear hpp
  have j0_ := pw_cell_below hbr hw0
  have j1_ := pw_cell_below hbr hw1
  have n0_ := Lib.hid (below_step HBW.out hbr)
  clear hw0 hw1 HBW hbr
  have hw0 := j0_
  have hw1 := j1_
  have HBW := n0_
  clear j0_ j1_ n0_
  go_wp2
  go_ret2
  exact ⟨rfl, HBW.out⟩

set_option maxRecDepth 100000 in
set_option maxHeartbeats 2000000 in
theorem Holds_some (A0 : Option Addr) (c0 : Nat) (nx : List Int) (A1 : Option Addr) (c1 : Nat) (mk : List Int) (s : ByteArray) (w : World) (hr0 : Kd.C (Kd.int .i64) w A0 nx.length nx) (hc0 : nx.length ≤ c0) (hr1 : Kd.C (Kd.int .i64) w A1 mk.length mk) (hc1 : mk.length ≤ c1) (f : Fm) (k : Nat) (res : Int) (m' : List (Int × Int)) (hv : PA.fixes_Works_valid.f nx mk = some true) (ho : wholeS 40 s = some f) (hf : holdF nx mk k f [] = some (res, m')) :
    Calls Try.prog 16 #[.agg #[.slice A0 nx.length c0, .slice A1 mk.length c1], .string s] w fun e w' => e = .returned (.tuple #[.int .i64 res, .int .i64 0]) ∧ Below w.heap.size w w' := by
  have HV := Lib.hid hv
  have HO := Lib.hid ho
  clear hv ho
  have HF := Lib.hid hf
  clear hf
  have hu := Try.underlying28
  have hu2 := Try.underlying74
  have HR0 := Lib.hid hr0
  have HR1 := Lib.hid hr1
  clear hr0 hr1
  go_enter Try.func16, Try.ntmps16
  go_wp2_with (first | ((with_reducible refine gate_dst (N := 2) rfl ?_); refine box_event ?hg (N := 2) ?hd (cs := #[.slice A0 nx.length c0, .slice A1 mk.length c1]) (t := 28) ?hr ?_; (case hd => rfl); (case hg => rfl); (case hr => first | (go_simp; done) | (go_simp; rfl)); intro gw hgw wb hbw hbb; have HBW := Lib.hid (below_step (Below.refl w.heap.size w) hbb); have hw0 : wb.cell? ⟨gw, 0, none⟩ = some (.slice A0 nx.length c0) := (blk_cell hbw 0).trans rfl; have hw1 : wb.cell? ⟨gw, 1, none⟩ = some (.slice A1 mk.length c1) := (blk_cell hbw 1).trans rfl; have HGW := Lib.hid hbw; clear hgw hbb hbw) | fail)
  refine (rd_some A0 c0 nx A1 c1 mk s _ (Kd.C_below HR0.out HBW.out) hc0 (Kd.C_below HR1.out HBW.out) hc1 f HV.out HO.out).mono ?_
  rintro e wr ⟨hbr, hpp⟩
  obtain ⟨v, rfl, ht⟩ := hpp
  obtain ⟨gk, rfl⟩ := ht.ptr
  have HT := Lib.hid ht
  clear ht
  have j0_ := pw_cell_below hbr hw0
  have j1_ := pw_cell_below hbr hw1
  have n0_ := Lib.hid (below_step HBW.out hbr)
  clear hw0 hw1 HBW hbr
  have hw0 := j0_
  have hw1 := j1_
  have HBW := n0_
  clear j0_ j1_ n0_
  go_wp2_with (first | ((with_reducible refine gate_op (op := .makeMap 65 none) rfl ?_); refine map_make_event rfl 65 rfl ?_; intro r0 wm hr0 hm hb; have HM_ := Lib.hid (IsM.mk' (enc := Value.int .u8) (encv := Value.int .i64) (l := []) hm rfl); have HW_ := Lib.hid (below_step HBW.out hb); have HT2 := Lib.hid (Tree.same (Cells.of_below hb).same (fun _ _ h => h) _ _ HT.out); have hle : w.heap.size ≤ r0 := (by rw [hr0]; exact HBW.out.size); have HZ_ := Lib.hid hle; clear hm hb hr0 hle) | fail)
  refine (holds_all nx mk (valid_len HV.out).2.2 k f [] res m' HF.out A0 c0 A1 c1 _ _ r0 wm (Kd.C_below HR0.out HW_.out) hc0 (Kd.C_below HR1.out HW_.out) hc1 HT2.out HM_.out).mono ?_
  rintro e w9 ⟨rfl, hp⟩
  have HB9 := Lib.hid (hp.low _ _ HW_.out HZ_.out)
  clear hp
  go_wp2
  go_ret2
  exact ⟨rfl, HB9.out⟩

/-- the first byte of a formula's node -/
def rootB : Fm → Int
  | .mark neg _ => if neg = true then 45 else 48
  | .con c => c
  | .var _ => 120
  | .two c _ _ => c
  | .one c _ => c
  | .fix c _ _ => c
theorem Tree.root {w : World} {ok : Nat → Prop} {f : Fm} {v : Value} (h : Tree w ok f v) : ∃ g, v = .pointer (some ⟨g, 0, none⟩) ∧ w.cell? ⟨g, 0, none⟩ = some (.int .u8 (rootB f)) := by
  cases f <;> simp only [Tree] at h
  case mark neg j => obtain ⟨g, b, off, cap, rfl, o1, o2, h0, _⟩ := h; exact ⟨g, rfl, by simpa [rootB] using h0⟩
  case con => obtain ⟨g, b, off, cap, rfl, o1, o2, h0, _⟩ := h; exact ⟨g, rfl, h0⟩
  case var => obtain ⟨g, b, off, cap, rfl, o1, o2, h0, _⟩ := h; exact ⟨g, rfl, h0⟩
  case two => obtain ⟨_, _, ⟨g, b, off, cap, rfl, o1, o2, h0, _⟩, _⟩ := h; exact ⟨g, rfl, h0⟩
  case one => obtain ⟨_, ⟨g, b, off, cap, rfl, o1, o2, h0, _⟩, _⟩ := h; exact ⟨g, rfl, h0⟩
  case fix => obtain ⟨_, ⟨g, b, off, cap, rfl, o1, o2, h0, _⟩, _⟩ := h; exact ⟨g, rfl, h0⟩

set_option maxRecDepth 100000 in
set_option maxHeartbeats 2000000 in
theorem Steps_other (A0 : Option Addr) (c0 : Nat) (nx : List Int) (A1 : Option Addr) (c1 : Nat) (mk : List Int) (s : ByteArray) (w : World) (hr0 : Kd.C (Kd.int .i64) w A0 nx.length nx) (hc0 : nx.length ≤ c0) (hr1 : Kd.C (Kd.int .i64) w A1 mk.length mk) (hc1 : mk.length ≤ c1) (f : Fm) (d : Int) (hv : PA.fixes_Works_valid.f nx mk = some true) (ho : wholeS 40 s = some f) (hd : rootB f = d) (h1 : (d != 109) = true) (h2 : (d != 103) = true) :
    Calls Try.prog 24 #[.agg #[.slice A0 nx.length c0, .slice A1 mk.length c1], .string s] w fun e w' => e = .returned (.tuple #[.int .i64 0, .int .i64 3]) ∧ Below w.heap.size w w' := by
  have HV := Lib.hid hv
  have HO := Lib.hid ho
  clear hv ho
  have hu := Try.underlying28
  have hu2 := Try.underlying74
  have HR0 := Lib.hid hr0
  have HR1 := Lib.hid hr1
  clear hr0 hr1
  go_enter Try.func24, Try.ntmps24
  go_wp2_with (first | ((with_reducible refine gate_dst (N := 2) rfl ?_); refine box_event ?hg (N := 2) ?hd (cs := #[.slice A0 nx.length c0, .slice A1 mk.length c1]) (t := 28) ?hr ?_; (case hd => rfl); (case hg => rfl); (case hr => first | (go_simp; done) | (go_simp; rfl)); intro gw hgw wb hbw hbb; have HBW := Lib.hid (below_step (Below.refl w.heap.size w) hbb); have hw0 : wb.cell? ⟨gw, 0, none⟩ = some (.slice A0 nx.length c0) := (blk_cell hbw 0).trans rfl; have hw1 : wb.cell? ⟨gw, 1, none⟩ = some (.slice A1 mk.length c1) := (blk_cell hbw 1).trans rfl; have HGW := Lib.hid hbw; clear hgw hbb hbw) | fail)
  refine (rd_some A0 c0 nx A1 c1 mk s _ (Kd.C_below HR0.out HBW.out) hc0 (Kd.C_below HR1.out HBW.out) hc1 f HV.out HO.out).mono ?_
  rintro e wr ⟨hbr, hpp⟩
  obtain ⟨v, rfl, ht⟩ := hpp
  obtain ⟨gk, rfl, hn0⟩ := ht.root
  have j0_ := pw_cell_below hbr hw0
  have j1_ := pw_cell_below hbr hw1
  have n0_ := Lib.hid (below_step HBW.out hbr)
  clear hw0 hw1 HBW hbr
  have hw0 := j0_
  have hw1 := j1_
  have HBW := n0_
  clear j0_ j1_ n0_
  rw [hd] at hn0
  clear hd ht
  go_wp2
  go_ret2
  exact ⟨rfl, HBW.out⟩

set_option maxRecDepth 100000 in
set_option maxHeartbeats 2000000 in
theorem Steps_g (A0 : Option Addr) (c0 : Nat) (nx : List Int) (A1 : Option Addr) (c1 : Nat) (mk : List Int) (s : ByteArray) (w : World) (hr0 : Kd.C (Kd.int .i64) w A0 nx.length nx) (hc0 : nx.length ≤ c0) (hr1 : Kd.C (Kd.int .i64) w A1 mk.length mk) (hc1 : mk.length ≤ c1) (x : Nat) (a : Fm) (k : Nat) (set cnt : Int) (m' : List (Int × Int)) (hv : PA.fixes_Works_valid.f nx mk = some true) (ho : wholeS 40 s = some (.fix 103 x a)) (hf : loopF nx mk k x a (allOf nx) 0 [] = some (set, cnt, m')) :
    Calls Try.prog 24 #[.agg #[.slice A0 nx.length c0, .slice A1 mk.length c1], .string s] w fun e w' => e = .returned (.tuple #[.int .i64 cnt, .int .i64 0]) ∧ Below w.heap.size w w' := by
  have HV := Lib.hid hv
  have HO := Lib.hid ho
  clear hv ho
  have HF := Lib.hid hf
  clear hf
  have hu := Try.underlying28
  have hu2 := Try.underlying74
  have HR0 := Lib.hid hr0
  have HR1 := Lib.hid hr1
  clear hr0 hr1
  go_enter Try.func24, Try.ntmps24
  go_wp2_with (first | ((with_reducible refine gate_dst (N := 2) rfl ?_); refine box_event ?hg (N := 2) ?hd (cs := #[.slice A0 nx.length c0, .slice A1 mk.length c1]) (t := 28) ?hr ?_; (case hd => rfl); (case hg => rfl); (case hr => first | (go_simp; done) | (go_simp; rfl)); intro gw hgw wb hbw hbb; have HBW := Lib.hid (below_step (Below.refl w.heap.size w) hbb); have hw0 : wb.cell? ⟨gw, 0, none⟩ = some (.slice A0 nx.length c0) := (blk_cell hbw 0).trans rfl; have hw1 : wb.cell? ⟨gw, 1, none⟩ = some (.slice A1 mk.length c1) := (blk_cell hbw 1).trans rfl; have HGW := Lib.hid hbw; clear hgw hbb hbw) | fail)
  refine (rd_some A0 c0 nx A1 c1 mk s _ (Kd.C_below HR0.out HBW.out) hc0 (Kd.C_below HR1.out HBW.out) hc1 _ HV.out HO.out).mono ?_
  rintro e wr ⟨hbr, hpp⟩
  obtain ⟨v, rfl, ht⟩ := hpp
  simp only [Tree] at ht
  obtain ⟨va, hn, ha⟩ := ht
  obtain ⟨gk, kb, ko, cp, rfl, hn0, hn1, hn2, hn3, hn4⟩ := hn.one
  have HT := Lib.hid ha
  have HN2 := Lib.hid hn2
  have HN3 := Lib.hid hn3
  have HN4 := Lib.hid hn4
  clear ha hn hn1 hn2 hn3 hn4
  have j0_ := pw_cell_below hbr hw0
  have j1_ := pw_cell_below hbr hw1
  have n0_ := Lib.hid (below_step HBW.out hbr)
  clear hw0 hw1 HBW hbr
  have hw0 := j0_
  have hw1 := j1_
  have HBW := n0_
  clear j0_ j1_ n0_
  go_wp2_with (first | ((with_reducible refine gate_op (op := .makeMap 65 none) rfl ?_); refine map_make_event rfl 65 rfl ?_; intro r0 wm hr0 hm hb; have HM_ := Lib.hid (IsM.mk' (enc := Value.int .u8) (encv := Value.int .i64) (l := []) hm rfl); have HW_ := Lib.hid (below_step HBW.out hb); have HT2 := Lib.hid (Tree.same (Cells.of_below hb).same (fun _ _ h => h) _ _ HT.out); have k0_ := pw_cell_below hb hn0; have k2_ := pw_cell_below hb HN2.out; have k3_ := pw_cell_below hb HN3.out; have k4_ := pw_cell_below hb HN4.out; have hle : w.heap.size ≤ r0 := (by rw [hr0]; exact HBW.out.size); have HZ_ := Lib.hid hle; clear hm hb hr0 hle) | fail)
  refine (fix_g A0 c0 nx A1 c1 mk gk r0 wm (Kd.C_below HR0.out HW_.out) hc0 (Kd.C_below HR1.out HW_.out) hc1 (valid_len HV.out).2.2 kb ko cp va x a k [] m' set cnt _ k0_ k2_ k3_ k4_ HT2.out HM_.out (fun j _ m res m' h => holds_all nx mk (valid_len HV.out).2.2 j a m res m' h) HF.out).mono ?_
  rintro e w9 ⟨rfl, hp⟩
  have HB9 := Lib.hid (hp.low _ _ HW_.out HZ_.out)
  clear hp k0_ k2_ k3_ k4_
  go_wp2
  go_ret2
  exact ⟨rfl, HB9.out⟩

set_option maxRecDepth 100000 in
set_option maxHeartbeats 2000000 in
theorem Steps_m (A0 : Option Addr) (c0 : Nat) (nx : List Int) (A1 : Option Addr) (c1 : Nat) (mk : List Int) (s : ByteArray) (w : World) (hr0 : Kd.C (Kd.int .i64) w A0 nx.length nx) (hc0 : nx.length ≤ c0) (hr1 : Kd.C (Kd.int .i64) w A1 mk.length mk) (hc1 : mk.length ≤ c1) (x : Nat) (a : Fm) (k : Nat) (set cnt : Int) (m' : List (Int × Int)) (hv : PA.fixes_Works_valid.f nx mk = some true) (ho : wholeS 40 s = some (.fix 109 x a)) (hf : loopF nx mk k x a 0 0 [] = some (set, cnt, m')) :
    Calls Try.prog 24 #[.agg #[.slice A0 nx.length c0, .slice A1 mk.length c1], .string s] w fun e w' => e = .returned (.tuple #[.int .i64 cnt, .int .i64 0]) ∧ Below w.heap.size w w' := by
  have HV := Lib.hid hv
  have HO := Lib.hid ho
  clear hv ho
  have HF := Lib.hid hf
  clear hf
  have hu := Try.underlying28
  have hu2 := Try.underlying74
  have HR0 := Lib.hid hr0
  have HR1 := Lib.hid hr1
  clear hr0 hr1
  go_enter Try.func24, Try.ntmps24
  go_wp2_with (first | ((with_reducible refine gate_dst (N := 2) rfl ?_); refine box_event ?hg (N := 2) ?hd (cs := #[.slice A0 nx.length c0, .slice A1 mk.length c1]) (t := 28) ?hr ?_; (case hd => rfl); (case hg => rfl); (case hr => first | (go_simp; done) | (go_simp; rfl)); intro gw hgw wb hbw hbb; have HBW := Lib.hid (below_step (Below.refl w.heap.size w) hbb); have hw0 : wb.cell? ⟨gw, 0, none⟩ = some (.slice A0 nx.length c0) := (blk_cell hbw 0).trans rfl; have hw1 : wb.cell? ⟨gw, 1, none⟩ = some (.slice A1 mk.length c1) := (blk_cell hbw 1).trans rfl; have HGW := Lib.hid hbw; clear hgw hbb hbw) | fail)
  refine (rd_some A0 c0 nx A1 c1 mk s _ (Kd.C_below HR0.out HBW.out) hc0 (Kd.C_below HR1.out HBW.out) hc1 _ HV.out HO.out).mono ?_
  rintro e wr ⟨hbr, hpp⟩
  obtain ⟨v, rfl, ht⟩ := hpp
  simp only [Tree] at ht
  obtain ⟨va, hn, ha⟩ := ht
  obtain ⟨gk, kb, ko, cp, rfl, hn0, hn1, hn2, hn3, hn4⟩ := hn.one
  have HT := Lib.hid ha
  have HN2 := Lib.hid hn2
  have HN3 := Lib.hid hn3
  have HN4 := Lib.hid hn4
  clear ha hn hn1 hn2 hn3 hn4
  have j0_ := pw_cell_below hbr hw0
  have j1_ := pw_cell_below hbr hw1
  have n0_ := Lib.hid (below_step HBW.out hbr)
  clear hw0 hw1 HBW hbr
  have hw0 := j0_
  have hw1 := j1_
  have HBW := n0_
  clear j0_ j1_ n0_
  go_wp2_with (first | ((with_reducible refine gate_op (op := .makeMap 65 none) rfl ?_); refine map_make_event rfl 65 rfl ?_; intro r0 wm hr0 hm hb; have HM_ := Lib.hid (IsM.mk' (enc := Value.int .u8) (encv := Value.int .i64) (l := []) hm rfl); have HW_ := Lib.hid (below_step HBW.out hb); have HT2 := Lib.hid (Tree.same (Cells.of_below hb).same (fun _ _ h => h) _ _ HT.out); have k0_ := pw_cell_below hb hn0; have k2_ := pw_cell_below hb HN2.out; have k3_ := pw_cell_below hb HN3.out; have k4_ := pw_cell_below hb HN4.out; have hle : w.heap.size ≤ r0 := (by rw [hr0]; exact HBW.out.size); have HZ_ := Lib.hid hle; clear hm hb hr0 hle) | fail)
  refine (fix_m A0 c0 nx A1 c1 mk gk r0 wm (Kd.C_below HR0.out HW_.out) hc0 (Kd.C_below HR1.out HW_.out) hc1 (valid_len HV.out).2.2 kb ko cp va x a k [] m' set cnt _ k0_ k2_ k3_ k4_ HT2.out HM_.out (fun j _ m res m' h => holds_all nx mk (valid_len HV.out).2.2 j a m res m' h) HF.out).mono ?_
  rintro e w9 ⟨rfl, hp⟩
  have HB9 := Lib.hid (hp.low _ _ HW_.out HZ_.out)
  clear hp k0_ k2_ k3_ k4_
  go_wp2
  go_ret2
  exact ⟨rfl, HB9.out⟩

end Go.Proofs.Ytjffhhalmicodaa.X
