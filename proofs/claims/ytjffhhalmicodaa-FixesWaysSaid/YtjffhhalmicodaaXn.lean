import Derived.Test.YtjffhhalmicodaaXm
set_option linter.unusedVariables false
set_option linter.unusedSimpArgs false
namespace Go.Proofs.Ytjffhhalmicodaa.X
open Go.RowKit Go.Proofs.YtjffhhalmicodaaW.PrintWords Go.Proofs.YtjffhhalmicodaaW.PrintLast Go.Proofs.YtjffhhalmicodaaW.PrintMore

/-- all states -/
def allOf (nx : List Int) : Int := wrap64 ((shl .i64 1 (nx.length : Int)) - 1)
/-- the states all of whose next states are in a set -/
def boxTo (nx : List Int) (set : Int) : Int := whereTo (fun s => bits .andNot .i64 (rd nx s) set == 0) nx.length

set_option maxRecDepth 100000 in
set_option maxHeartbeats 2000000 in
theorem holds_mark (A0 : Option Addr) (c0 : Nat) (nx : List Int) (A1 : Option Addr) (c1 : Nat) (mk : List Int) (gn r : Nat) (w : World) (hr0 : Kd.C (Kd.int .i64) w A0 nx.length nx) (hc0 : nx.length ≤ c0) (hr1 : Kd.C (Kd.int .i64) w A1 mk.length mk) (hc1 : mk.length ≤ c1) (hlen : nx.length = mk.length) (j : Nat) (hn0 : w.cell? ⟨gn, 0, none⟩ = some (.int .u8 48)) (hn1 : w.cell? ⟨gn, 1, none⟩ = some (.int .i64 j)) :
    Calls Try.prog 47 #[.agg #[.slice A0 nx.length c0, .slice A1 mk.length c1], .pointer (some ⟨gn, 0, none⟩), .map (some r)] w fun e w' => e = .returned (.int .i64 (whereTo (fun s => markOf mk j s == 1) nx.length)) ∧ Below w.heap.size w w' := by
  have hu := Try.underlying28
  have hu2 := Try.underlying74
  have HR0 := Lib.hid hr0
  have HR1 := Lib.hid hr1
  have HLEN := Lib.hid hlen
  have hle := hr0.2.1
  clear hr0 hr1 hlen
  go_enter Try.func47, Try.ntmps47
  go_wp2_with (first | ((with_reducible refine gate_dst (N := 3) rfl ?_); refine box_event ?hg (N := 3) ?hd (cs := #[.slice A0 nx.length c0, .slice A1 mk.length c1]) (t := 28) ?hr ?_; (case hd => rfl); (case hg => rfl); (case hr => first | (go_simp; done) | (go_simp; rfl)); intro gw hgw wb hbw hbb; have k0_ := pw_cell_below hbb hn0; clear hn0; have hn0 := k0_; clear k0_; have k1_ := pw_cell_below hbb hn1; clear hn1; have hn1 := k1_; clear k1_; have HGW := Lib.hid hbw; have HBW := Lib.hid (below_step (Below.refl w.heap.size w) hbb); clear hgw hbw hbb) | ((with_reducible refine gate_dst (N := 4) rfl ?_); refine box_event ?hg (N := 4) ?hd (cs := #[.pointer (some ⟨gn, 0, none⟩)]) (t := 60) ?hr ?_; (case hd => rfl); (case hg => rfl); (case hr => first | (go_simp; done) | (go_simp; rfl)); intro gf hgf wc hbf hbb; have k0_ := pw_cell_below hbb hn0; clear hn0; have hn0 := k0_; clear k0_; have k1_ := pw_cell_below hbb hn1; clear hn1; have hn1 := k1_; clear k1_; have k0_ := Lib.hid (blk_below HGW.out hbb); have k1_ := Lib.hid (below_step HBW.out hbb); clear HGW HBW; have HGW := k0_; have HBW := k1_; clear k0_ k1_; have HGF := Lib.hid hbf; have hw0 : wc.cell? ⟨gw, 0, none⟩ = some (.slice A0 nx.length c0) := (blk_cell HGW.out 0).trans rfl; have hw1 : wc.cell? ⟨gw, 1, none⟩ = some (.slice A1 mk.length c1) := (blk_cell HGW.out 1).trans rfl; have hf0 : wc.cell? ⟨gf, 0, none⟩ = some (.pointer (some ⟨gn, 0, none⟩)) := (blk_cell HGF.out 0).trans rfl; clear hgf hbf hbb) | fail)
  have EG := Lib.hid (enters_of' Try.func69 (by kernel_rfl) rfl)
  refine (where_calls 69 _ EG.out (fun s => markOf mk j s == 1) A0 nx.length c0 A1 mk.length c1 _ hle (pred_h1 _ gw gf gn A1 c1 j nx.length mk (Kd.C_below HR1.out HBW.out) HLEN.out hw1 hf0 hn1)).mono ?_
  rintro e w' ⟨rfl, hb⟩
  have HB := Lib.hid (below_step HBW.out hb)
  clear hb
  go_wp2
  go_ret
  exact ⟨rfl, HB.out⟩

set_option maxRecDepth 100000 in
set_option maxHeartbeats 2000000 in
theorem holds_neg (A0 : Option Addr) (c0 : Nat) (nx : List Int) (A1 : Option Addr) (c1 : Nat) (mk : List Int) (gn r : Nat) (w : World) (hr0 : Kd.C (Kd.int .i64) w A0 nx.length nx) (hc0 : nx.length ≤ c0) (hr1 : Kd.C (Kd.int .i64) w A1 mk.length mk) (hc1 : mk.length ≤ c1) (hlen : nx.length = mk.length) (j : Nat) (hn0 : w.cell? ⟨gn, 0, none⟩ = some (.int .u8 45)) (hn1 : w.cell? ⟨gn, 1, none⟩ = some (.int .i64 j)) :
    Calls Try.prog 47 #[.agg #[.slice A0 nx.length c0, .slice A1 mk.length c1], .pointer (some ⟨gn, 0, none⟩), .map (some r)] w fun e w' => e = .returned (.int .i64 (whereTo (fun s => markOf mk j s == 0) nx.length)) ∧ Below w.heap.size w w' := by
  have hu := Try.underlying28
  have hu2 := Try.underlying74
  have HR0 := Lib.hid hr0
  have HR1 := Lib.hid hr1
  have HLEN := Lib.hid hlen
  have hle := hr0.2.1
  clear hr0 hr1 hlen
  go_enter Try.func47, Try.ntmps47
  go_wp2_with (first | ((with_reducible refine gate_dst (N := 3) rfl ?_); refine box_event ?hg (N := 3) ?hd (cs := #[.slice A0 nx.length c0, .slice A1 mk.length c1]) (t := 28) ?hr ?_; (case hd => rfl); (case hg => rfl); (case hr => first | (go_simp; done) | (go_simp; rfl)); intro gw hgw wb hbw hbb; have k0_ := pw_cell_below hbb hn0; clear hn0; have hn0 := k0_; clear k0_; have k1_ := pw_cell_below hbb hn1; clear hn1; have hn1 := k1_; clear k1_; have HGW := Lib.hid hbw; have HBW := Lib.hid (below_step (Below.refl w.heap.size w) hbb); clear hgw hbw hbb) | ((with_reducible refine gate_dst (N := 4) rfl ?_); refine box_event ?hg (N := 4) ?hd (cs := #[.pointer (some ⟨gn, 0, none⟩)]) (t := 60) ?hr ?_; (case hd => rfl); (case hg => rfl); (case hr => first | (go_simp; done) | (go_simp; rfl)); intro gf hgf wc hbf hbb; have k0_ := pw_cell_below hbb hn0; clear hn0; have hn0 := k0_; clear k0_; have k1_ := pw_cell_below hbb hn1; clear hn1; have hn1 := k1_; clear k1_; have k0_ := Lib.hid (blk_below HGW.out hbb); have k1_ := Lib.hid (below_step HBW.out hbb); clear HGW HBW; have HGW := k0_; have HBW := k1_; clear k0_ k1_; have HGF := Lib.hid hbf; have hw0 : wc.cell? ⟨gw, 0, none⟩ = some (.slice A0 nx.length c0) := (blk_cell HGW.out 0).trans rfl; have hw1 : wc.cell? ⟨gw, 1, none⟩ = some (.slice A1 mk.length c1) := (blk_cell HGW.out 1).trans rfl; have hf0 : wc.cell? ⟨gf, 0, none⟩ = some (.pointer (some ⟨gn, 0, none⟩)) := (blk_cell HGF.out 0).trans rfl; clear hgf hbf hbb) | fail)
  have EG := Lib.hid (enters_of' Try.func70 (by kernel_rfl) rfl)
  refine (where_calls 70 _ EG.out (fun s => markOf mk j s == 0) A0 nx.length c0 A1 mk.length c1 _ hle (pred_h2 _ gw gf gn A1 c1 j nx.length mk (Kd.C_below HR1.out HBW.out) HLEN.out hw1 hf0 hn1)).mono ?_
  rintro e w' ⟨rfl, hb⟩
  have HB := Lib.hid (below_step HBW.out hb)
  clear hb
  go_wp2
  go_ret
  exact ⟨rfl, HB.out⟩

set_option maxRecDepth 100000 in
set_option maxHeartbeats 2000000 in
theorem holds_t (A0 : Option Addr) (c0 : Nat) (nx : List Int) (A1 : Option Addr) (c1 : Nat) (mk : List Int) (gn r : Nat) (w : World) (hr0 : Kd.C (Kd.int .i64) w A0 nx.length nx) (hc0 : nx.length ≤ c0) (hr1 : Kd.C (Kd.int .i64) w A1 mk.length mk) (hc1 : mk.length ≤ c1) (hlen : nx.length = mk.length) (hn0 : w.cell? ⟨gn, 0, none⟩ = some (.int .u8 116)) :
    Calls Try.prog 47 #[.agg #[.slice A0 nx.length c0, .slice A1 mk.length c1], .pointer (some ⟨gn, 0, none⟩), .map (some r)] w fun e w' => e = .returned (.int .i64 (allOf nx)) ∧ Below w.heap.size w w' := by
  have hu := Try.underlying28
  have hu2 := Try.underlying74
  have HR0 := Lib.hid hr0
  have HR1 := Lib.hid hr1
  have HLEN := Lib.hid hlen
  have hle := hr0.2.1
  clear hr0 hr1 hlen
  go_enter Try.func47, Try.ntmps47
  go_wp2_with (first | ((with_reducible refine gate_dst (N := 3) rfl ?_); refine box_event ?hg (N := 3) ?hd (cs := #[.slice A0 nx.length c0, .slice A1 mk.length c1]) (t := 28) ?hr ?_; (case hd => rfl); (case hg => rfl); (case hr => first | (go_simp; done) | (go_simp; rfl)); intro gw hgw wb hbw hbb; have k0_ := pw_cell_below hbb hn0; clear hn0; have hn0 := k0_; clear k0_; have HGW := Lib.hid hbw; have HBW := Lib.hid (below_step (Below.refl w.heap.size w) hbb); clear hgw hbw hbb) | ((with_reducible refine gate_dst (N := 4) rfl ?_); refine box_event ?hg (N := 4) ?hd (cs := #[.pointer (some ⟨gn, 0, none⟩)]) (t := 60) ?hr ?_; (case hd => rfl); (case hg => rfl); (case hr => first | (go_simp; done) | (go_simp; rfl)); intro gf hgf wc hbf hbb; have k0_ := pw_cell_below hbb hn0; clear hn0; have hn0 := k0_; clear k0_; have k0_ := Lib.hid (blk_below HGW.out hbb); have k1_ := Lib.hid (below_step HBW.out hbb); clear HGW HBW; have HGW := k0_; have HBW := k1_; clear k0_ k1_; have HGF := Lib.hid hbf; have hw0 : wc.cell? ⟨gw, 0, none⟩ = some (.slice A0 nx.length c0) := (blk_cell HGW.out 0).trans rfl; have hw1 : wc.cell? ⟨gw, 1, none⟩ = some (.slice A1 mk.length c1) := (blk_cell HGW.out 1).trans rfl; have hf0 : wc.cell? ⟨gf, 0, none⟩ = some (.pointer (some ⟨gn, 0, none⟩)) := (blk_cell HGF.out 0).trans rfl; clear hgf hbf hbb) | fail)
  refine (PA.fixes_Works_all.calls A0 c0 nx A1 c1 mk (allOf nx) _ (Kd.C_below HR0.out HBW.out) hc0 (Kd.C_below HR1.out HBW.out) hc1 rfl).mono ?_
  rintro e w' ⟨rfl, hb⟩
  have HB := Lib.hid (below_step HBW.out hb)
  clear hb
  go_wp2
  go_ret
  exact ⟨rfl, HB.out⟩

set_option maxRecDepth 100000 in
set_option maxHeartbeats 2000000 in
theorem holds_f (A0 : Option Addr) (c0 : Nat) (nx : List Int) (A1 : Option Addr) (c1 : Nat) (mk : List Int) (gn r : Nat) (w : World) (hr0 : Kd.C (Kd.int .i64) w A0 nx.length nx) (hc0 : nx.length ≤ c0) (hr1 : Kd.C (Kd.int .i64) w A1 mk.length mk) (hc1 : mk.length ≤ c1) (hlen : nx.length = mk.length) (hn0 : w.cell? ⟨gn, 0, none⟩ = some (.int .u8 102)) :
    Calls Try.prog 47 #[.agg #[.slice A0 nx.length c0, .slice A1 mk.length c1], .pointer (some ⟨gn, 0, none⟩), .map (some r)] w fun e w' => e = .returned (.int .i64 (0)) ∧ Below w.heap.size w w' := by
  have hu := Try.underlying28
  have hu2 := Try.underlying74
  have HR0 := Lib.hid hr0
  have HR1 := Lib.hid hr1
  have HLEN := Lib.hid hlen
  have hle := hr0.2.1
  clear hr0 hr1 hlen
  go_enter Try.func47, Try.ntmps47
  go_wp2_with (first | ((with_reducible refine gate_dst (N := 3) rfl ?_); refine box_event ?hg (N := 3) ?hd (cs := #[.slice A0 nx.length c0, .slice A1 mk.length c1]) (t := 28) ?hr ?_; (case hd => rfl); (case hg => rfl); (case hr => first | (go_simp; done) | (go_simp; rfl)); intro gw hgw wb hbw hbb; have k0_ := pw_cell_below hbb hn0; clear hn0; have hn0 := k0_; clear k0_; have HGW := Lib.hid hbw; have HBW := Lib.hid (below_step (Below.refl w.heap.size w) hbb); clear hgw hbw hbb) | ((with_reducible refine gate_dst (N := 4) rfl ?_); refine box_event ?hg (N := 4) ?hd (cs := #[.pointer (some ⟨gn, 0, none⟩)]) (t := 60) ?hr ?_; (case hd => rfl); (case hg => rfl); (case hr => first | (go_simp; done) | (go_simp; rfl)); intro gf hgf wc hbf hbb; have k0_ := pw_cell_below hbb hn0; clear hn0; have hn0 := k0_; clear k0_; have k0_ := Lib.hid (blk_below HGW.out hbb); have k1_ := Lib.hid (below_step HBW.out hbb); clear HGW HBW; have HGW := k0_; have HBW := k1_; clear k0_ k1_; have HGF := Lib.hid hbf; have hw0 : wc.cell? ⟨gw, 0, none⟩ = some (.slice A0 nx.length c0) := (blk_cell HGW.out 0).trans rfl; have hw1 : wc.cell? ⟨gw, 1, none⟩ = some (.slice A1 mk.length c1) := (blk_cell HGW.out 1).trans rfl; have hf0 : wc.cell? ⟨gf, 0, none⟩ = some (.pointer (some ⟨gn, 0, none⟩)) := (blk_cell HGF.out 0).trans rfl; clear hgf hbf hbb) | fail)
  go_ret
  exact ⟨rfl, HBW.out⟩

set_option maxRecDepth 100000 in
set_option maxHeartbeats 2000000 in
theorem holds_var (A0 : Option Addr) (c0 : Nat) (nx : List Int) (A1 : Option Addr) (c1 : Nat) (mk : List Int) (gn r : Nat) (w : World) (hr0 : Kd.C (Kd.int .i64) w A0 nx.length nx) (hc0 : nx.length ≤ c0) (hr1 : Kd.C (Kd.int .i64) w A1 mk.length mk) (hc1 : mk.length ≤ c1) (hlen : nx.length = mk.length) (c : Nat) (m : List (Int × Int)) (hm : IsM (Value.int .u8) (Value.int .i64) w r m) (hn0 : w.cell? ⟨gn, 0, none⟩ = some (.int .u8 120)) (hn2 : w.cell? ⟨gn, 2, none⟩ = some (.int .u8 c)) :
    Calls Try.prog 47 #[.agg #[.slice A0 nx.length c0, .slice A1 mk.length c1], .pointer (some ⟨gn, 0, none⟩), .map (some r)] w fun e w' => e = .returned (.int .i64 ((findL m (c : Int)).getD 0)) ∧ Below w.heap.size w w' := by
  have HM := Lib.hid hm
  have hz0 : ∀ w, (zeroValue 3).run Try.prog w = .ok (.int .i64 0) w := fun _ => by kernel_rfl
  have HZ := Lib.hid hz0
  clear hm hz0
  have hu := Try.underlying28
  have hu2 := Try.underlying74
  have HR0 := Lib.hid hr0
  have HR1 := Lib.hid hr1
  have HLEN := Lib.hid hlen
  have hle := hr0.2.1
  clear hr0 hr1 hlen
  go_enter Try.func47, Try.ntmps47
  go_wp2_with (first | ((with_reducible refine gate_dst (N := 3) rfl ?_); refine box_event ?hg (N := 3) ?hd (cs := #[.slice A0 nx.length c0, .slice A1 mk.length c1]) (t := 28) ?hr ?_; (case hd => rfl); (case hg => rfl); (case hr => first | (go_simp; done) | (go_simp; rfl)); intro gw hgw wb hbw hbb; have k0_ := pw_cell_below hbb hn0; clear hn0; have hn0 := k0_; clear k0_; have k1_ := pw_cell_below hbb hn2; clear hn2; have hn2 := k1_; clear k1_; have HGW := Lib.hid hbw; have HBW := Lib.hid (below_step (Below.refl w.heap.size w) hbb); clear hgw hbw hbb) | ((with_reducible refine gate_dst (N := 4) rfl ?_); refine box_event ?hg (N := 4) ?hd (cs := #[.pointer (some ⟨gn, 0, none⟩)]) (t := 60) ?hr ?_; (case hd => rfl); (case hg => rfl); (case hr => first | (go_simp; done) | (go_simp; rfl)); intro gf hgf wc hbf hbb; have k0_ := pw_cell_below hbb hn0; clear hn0; have hn0 := k0_; clear k0_; have k1_ := pw_cell_below hbb hn2; clear hn2; have hn2 := k1_; clear k1_; have k0_ := Lib.hid (blk_below HGW.out hbb); have k1_ := Lib.hid (below_step HBW.out hbb); clear HGW HBW; have HGW := k0_; have HBW := k1_; clear k0_ k1_; have HGF := Lib.hid hbf; have hw0 : wc.cell? ⟨gw, 0, none⟩ = some (.slice A0 nx.length c0) := (blk_cell HGW.out 0).trans rfl; have hw1 : wc.cell? ⟨gw, 1, none⟩ = some (.slice A1 mk.length c1) := (blk_cell HGW.out 1).trans rfl; have hf0 : wc.cell? ⟨gf, 0, none⟩ = some (.pointer (some ⟨gn, 0, none⟩)) := (blk_cell HGF.out 0).trans rfl; clear hgf hbf hbb) | ((with_reducible refine gate_dst (N := 38) rfl ?_); refine map_get_event rfl 65 (.tmp 33) (.tmp 37) false rfl Try.underlying65 (enc := Value.int .u8) (encv := Value.int .i64) HZ.out (keyOk_int Try.underlying5) (c : Int) rfl rfl (HM.out.below HBW.out) ?_; simp only [Bool.false_eq_true, if_false]) | fail)
  go_ret
  exact ⟨rfl, HBW.out⟩

end Go.Proofs.Ytjffhhalmicodaa.X
