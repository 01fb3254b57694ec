import Derived.Test.YtjffhhalmicodaaXv
set_option linter.unusedVariables false
set_option linter.unusedSimpArgs false
namespace Go.Proofs.Ytjffhhalmicodaa.X
open Go.RowKit Go.Proofs.YtjffhhalmicodaaW.PrintWords Go.Proofs.YtjffhhalmicodaaW.PrintLast Go.Proofs.YtjffhhalmicodaaW.PrintMore

set_option maxRecDepth 100000 in
set_option maxHeartbeats 4000000 in
theorem rh_fix103_120 (A0 : Option Addr) (c0 : Nat) (nx : List Int) (A1 : Option Addr) (c1 : Nat) (mk : List Int) (s : ByteArray) (i : Nat) (x y z : Int) (w : World) (hr0 : Kd.C (Kd.int .i64) w A0 nx.length nx) (hc0 : nx.length ≤ c0) (hr1 : Kd.C (Kd.int .i64) w A1 mk.length mk) (hc1 : mk.length ≤ c1) (hsz : s.size ≤ 1000000000) (a : Fm) (k : Nat) (set cnt : Int) (l : List Nat) (hd : (cs s).drop i = 103 :: 120 :: (str a ++ l)) (ih : ∀ j, j < k → ∀ x y z res, rholdF nx mk j a (x, y, z) = some res → RHoldsC nx mk a x y z res) (hf : rloopF nx mk k 120 a (allOf nx) 1 (x, y, z) = some (set, cnt)) :
    Calls Try.prog 51 #[.agg #[.slice A0 nx.length c0, .slice A1 mk.length c1], .string s, .int .i64 i, .agg #[.int .i64 x, .int .i64 y, .int .i64 z]] w fun e w' => e = .returned (.tuple #[.int .i64 (set), .int .i64 ((i : Int) + (((str a).length + 2 : Nat) : Int))]) ∧ Below w.heap.size w w' := by
  have IH := Lib.hid ih
  have HF := Lib.hid hf
  have HD0 := Lib.hid hd
  clear ih hf
  obtain ⟨hi, hch, hrest⟩ := drop_at hd
  have hi2 : (i : Int) < (s.size : Int) := by omega
  have HD := Lib.hid hrest
  clear hrest hd
  have hu := Try.underlying24
  have hu2 := Try.underlying71
  have HR0 := Lib.hid hr0
  have HR1 := Lib.hid hr1
  have hle := hr0.2.1
  have hle1 := hr1.2.1
  clear hr0 hr1
  go_enter Try.func51, Try.ntmps51
  go_wp2_with (first | ((with_reducible refine gate_dst (N := 4) rfl ?_); refine box_event ?hg (N := 4) ?hd (cs := #[.slice A0 nx.length c0, .slice A1 mk.length c1]) (t := 24) ?hr ?_; (case hd => rfl); (case hg => rfl); (case hr => first | (go_simp; done) | (go_simp; rfl)); intro gw hgw wb hbw hbb; have HGW := Lib.hid hbw; have HBW := Lib.hid (below_step (Below.refl w.heap.size w) hbb); have HGE := Lib.hid (Nat.le_of_eq hgw.symm); clear hgw hbw hbb) | ((with_reducible refine gate_dst (N := 7) rfl ?_); refine box_event ?hg (N := 7) ?hd (cs := #[.int .i64 x, .int .i64 y, .int .i64 z]) (t := 71) ?hr ?_; (case hd => rfl); (case hg => rfl); (case hr => first | (go_simp; done) | (go_simp; rfl)); intro gs hgs wc hbs hbb; have k0_ := Lib.hid (blk_below HGW.out hbb); have k1_ := Lib.hid (below_step HBW.out hbb); have HSE := Lib.hid (And.intro (Nat.le_trans HBW.out.size (Nat.le_of_eq hgs.symm)) (show gw ≠ gs from fun e => by have h1 := blk_lt HGW.out; omega)); clear HGW HBW; have HGW := k0_; have HBW := k1_; clear k0_ k1_; have HGS := Lib.hid hbs; have hw0 : wc.cell? ⟨gw, 0, none⟩ = some (.slice A0 nx.length c0) := (blk_cell HGW.out 0).trans rfl; have hw1 : wc.cell? ⟨gw, 1, none⟩ = some (.slice A1 mk.length c1) := (blk_cell HGW.out 1).trans rfl; have hs0 : wc.cell? ⟨gs, 0, none⟩ = some (.int .i64 x) := (blk_cell HGS.out 0).trans rfl; have hs1 : wc.cell? ⟨gs, 1, none⟩ = some (.int .i64 y) := (blk_cell HGS.out 1).trans rfl; have hs2 : wc.cell? ⟨gs, 2, none⟩ = some (.int .i64 z) := (blk_cell HGS.out 2).trans rfl; clear hgs hbs hbb) | fail)
  refine (PA.comfitref08_digit.calls ((103 : Nat) : Int) (-1) _ rfl).mono ?_
  rintro e wd ⟨rfl, hd⟩
  have j0_ := cell_drawn hd hw0
  have j1_ := cell_drawn hd hw1
  have j2_ := cell_drawn hd hs0
  have j3_ := cell_drawn hd hs1
  have j4_ := cell_drawn hd hs2
  have n0_ := Lib.hid (below_drawn HBW.out hd)
  clear hw0 hw1 hs0 hs1 hs2 HBW hd
  have hw0 := j0_
  have hw1 := j1_
  have hs0 := j2_
  have hs1 := j3_
  have hs2 := j4_
  have HBW := n0_
  clear j0_ j1_ j2_ j3_ j4_ n0_
  go_wp2_with fail
  refine (PA.comfitref08_letter.calls ((103 : Nat) : Int) (-1) _ rfl).mono ?_
  rintro e wd ⟨rfl, hd⟩
  have j0_ := cell_drawn hd hw0
  have j1_ := cell_drawn hd hw1
  have j2_ := cell_drawn hd hs0
  have j3_ := cell_drawn hd hs1
  have j4_ := cell_drawn hd hs2
  have n0_ := Lib.hid (below_drawn HBW.out hd)
  clear hw0 hw1 hs0 hs1 hs2 HBW hd
  have hw0 := j0_
  have hw1 := j1_
  have hs0 := j2_
  have hs1 := j3_
  have hs2 := j4_
  have HBW := n0_
  clear j0_ j1_ j2_ j3_ j4_ n0_
  go_wp2_with fail
  refine (rfix103_120 A0 c0 nx A1 c1 mk s i x y z _ (Kd.C_below HR0.out HBW.out) hc0 (Kd.C_below HR1.out HBW.out) hc1 hsz a k set cnt l HD0.out IH.out HF.out).mono ?_
  rintro e w9 ⟨rfl, hb⟩
  have HB9 := Lib.hid (below_step HBW.out hb)
  clear hb hw0 hw1 hs0 hs1 hs2
  go_wp2
  go_ret2
  exact ⟨rfl, HB9.out⟩

set_option maxRecDepth 100000 in
set_option maxHeartbeats 4000000 in
theorem rh_fix103_121 (A0 : Option Addr) (c0 : Nat) (nx : List Int) (A1 : Option Addr) (c1 : Nat) (mk : List Int) (s : ByteArray) (i : Nat) (x y z : Int) (w : World) (hr0 : Kd.C (Kd.int .i64) w A0 nx.length nx) (hc0 : nx.length ≤ c0) (hr1 : Kd.C (Kd.int .i64) w A1 mk.length mk) (hc1 : mk.length ≤ c1) (hsz : s.size ≤ 1000000000) (a : Fm) (k : Nat) (set cnt : Int) (l : List Nat) (hd : (cs s).drop i = 103 :: 121 :: (str a ++ l)) (ih : ∀ j, j < k → ∀ x y z res, rholdF nx mk j a (x, y, z) = some res → RHoldsC nx mk a x y z res) (hf : rloopF nx mk k 121 a (allOf nx) 1 (x, y, z) = some (set, cnt)) :
    Calls Try.prog 51 #[.agg #[.slice A0 nx.length c0, .slice A1 mk.length c1], .string s, .int .i64 i, .agg #[.int .i64 x, .int .i64 y, .int .i64 z]] w fun e w' => e = .returned (.tuple #[.int .i64 (set), .int .i64 ((i : Int) + (((str a).length + 2 : Nat) : Int))]) ∧ Below w.heap.size w w' := by
  have IH := Lib.hid ih
  have HF := Lib.hid hf
  have HD0 := Lib.hid hd
  clear ih hf
  obtain ⟨hi, hch, hrest⟩ := drop_at hd
  have hi2 : (i : Int) < (s.size : Int) := by omega
  have HD := Lib.hid hrest
  clear hrest hd
  have hu := Try.underlying24
  have hu2 := Try.underlying71
  have HR0 := Lib.hid hr0
  have HR1 := Lib.hid hr1
  have hle := hr0.2.1
  have hle1 := hr1.2.1
  clear hr0 hr1
  go_enter Try.func51, Try.ntmps51
  go_wp2_with (first | ((with_reducible refine gate_dst (N := 4) rfl ?_); refine box_event ?hg (N := 4) ?hd (cs := #[.slice A0 nx.length c0, .slice A1 mk.length c1]) (t := 24) ?hr ?_; (case hd => rfl); (case hg => rfl); (case hr => first | (go_simp; done) | (go_simp; rfl)); intro gw hgw wb hbw hbb; have HGW := Lib.hid hbw; have HBW := Lib.hid (below_step (Below.refl w.heap.size w) hbb); have HGE := Lib.hid (Nat.le_of_eq hgw.symm); clear hgw hbw hbb) | ((with_reducible refine gate_dst (N := 7) rfl ?_); refine box_event ?hg (N := 7) ?hd (cs := #[.int .i64 x, .int .i64 y, .int .i64 z]) (t := 71) ?hr ?_; (case hd => rfl); (case hg => rfl); (case hr => first | (go_simp; done) | (go_simp; rfl)); intro gs hgs wc hbs hbb; have k0_ := Lib.hid (blk_below HGW.out hbb); have k1_ := Lib.hid (below_step HBW.out hbb); have HSE := Lib.hid (And.intro (Nat.le_trans HBW.out.size (Nat.le_of_eq hgs.symm)) (show gw ≠ gs from fun e => by have h1 := blk_lt HGW.out; omega)); clear HGW HBW; have HGW := k0_; have HBW := k1_; clear k0_ k1_; have HGS := Lib.hid hbs; have hw0 : wc.cell? ⟨gw, 0, none⟩ = some (.slice A0 nx.length c0) := (blk_cell HGW.out 0).trans rfl; have hw1 : wc.cell? ⟨gw, 1, none⟩ = some (.slice A1 mk.length c1) := (blk_cell HGW.out 1).trans rfl; have hs0 : wc.cell? ⟨gs, 0, none⟩ = some (.int .i64 x) := (blk_cell HGS.out 0).trans rfl; have hs1 : wc.cell? ⟨gs, 1, none⟩ = some (.int .i64 y) := (blk_cell HGS.out 1).trans rfl; have hs2 : wc.cell? ⟨gs, 2, none⟩ = some (.int .i64 z) := (blk_cell HGS.out 2).trans rfl; clear hgs hbs hbb) | fail)
  refine (PA.comfitref08_digit.calls ((103 : Nat) : Int) (-1) _ rfl).mono ?_
  rintro e wd ⟨rfl, hd⟩
  have j0_ := cell_drawn hd hw0
  have j1_ := cell_drawn hd hw1
  have j2_ := cell_drawn hd hs0
  have j3_ := cell_drawn hd hs1
  have j4_ := cell_drawn hd hs2
  have n0_ := Lib.hid (below_drawn HBW.out hd)
  clear hw0 hw1 hs0 hs1 hs2 HBW hd
  have hw0 := j0_
  have hw1 := j1_
  have hs0 := j2_
  have hs1 := j3_
  have hs2 := j4_
  have HBW := n0_
  clear j0_ j1_ j2_ j3_ j4_ n0_
  go_wp2_with fail
  refine (PA.comfitref08_letter.calls ((103 : Nat) : Int) (-1) _ rfl).mono ?_
  rintro e wd ⟨rfl, hd⟩
  have j0_ := cell_drawn hd hw0
  have j1_ := cell_drawn hd hw1
  have j2_ := cell_drawn hd hs0
  have j3_ := cell_drawn hd hs1
  have j4_ := cell_drawn hd hs2
  have n0_ := Lib.hid (below_drawn HBW.out hd)
  clear hw0 hw1 hs0 hs1 hs2 HBW hd
  have hw0 := j0_
  have hw1 := j1_
  have hs0 := j2_
  have hs1 := j3_
  have hs2 := j4_
  have HBW := n0_
  clear j0_ j1_ j2_ j3_ j4_ n0_
  go_wp2_with fail
  refine (rfix103_121 A0 c0 nx A1 c1 mk s i x y z _ (Kd.C_below HR0.out HBW.out) hc0 (Kd.C_below HR1.out HBW.out) hc1 hsz a k set cnt l HD0.out IH.out HF.out).mono ?_
  rintro e w9 ⟨rfl, hb⟩
  have HB9 := Lib.hid (below_step HBW.out hb)
  clear hb hw0 hw1 hs0 hs1 hs2
  go_wp2
  go_ret2
  exact ⟨rfl, HB9.out⟩

set_option maxRecDepth 100000 in
set_option maxHeartbeats 4000000 in
theorem rh_fix103_122 (A0 : Option Addr) (c0 : Nat) (nx : List Int) (A1 : Option Addr) (c1 : Nat) (mk : List Int) (s : ByteArray) (i : Nat) (x y z : Int) (w : World) (hr0 : Kd.C (Kd.int .i64) w A0 nx.length nx) (hc0 : nx.length ≤ c0) (hr1 : Kd.C (Kd.int .i64) w A1 mk.length mk) (hc1 : mk.length ≤ c1) (hsz : s.size ≤ 1000000000) (a : Fm) (k : Nat) (set cnt : Int) (l : List Nat) (hd : (cs s).drop i = 103 :: 122 :: (str a ++ l)) (ih : ∀ j, j < k → ∀ x y z res, rholdF nx mk j a (x, y, z) = some res → RHoldsC nx mk a x y z res) (hf : rloopF nx mk k 122 a (allOf nx) 1 (x, y, z) = some (set, cnt)) :
    Calls Try.prog 51 #[.agg #[.slice A0 nx.length c0, .slice A1 mk.length c1], .string s, .int .i64 i, .agg #[.int .i64 x, .int .i64 y, .int .i64 z]] w fun e w' => e = .returned (.tuple #[.int .i64 (set), .int .i64 ((i : Int) + (((str a).length + 2 : Nat) : Int))]) ∧ Below w.heap.size w w' := by
  have IH := Lib.hid ih
  have HF := Lib.hid hf
  have HD0 := Lib.hid hd
  clear ih hf
  obtain ⟨hi, hch, hrest⟩ := drop_at hd
  have hi2 : (i : Int) < (s.size : Int) := by omega
  have HD := Lib.hid hrest
  clear hrest hd
  have hu := Try.underlying24
  have hu2 := Try.underlying71
  have HR0 := Lib.hid hr0
  have HR1 := Lib.hid hr1
  have hle := hr0.2.1
  have hle1 := hr1.2.1
  clear hr0 hr1
  go_enter Try.func51, Try.ntmps51
  go_wp2_with (first | ((with_reducible refine gate_dst (N := 4) rfl ?_); refine box_event ?hg (N := 4) ?hd (cs := #[.slice A0 nx.length c0, .slice A1 mk.length c1]) (t := 24) ?hr ?_; (case hd => rfl); (case hg => rfl); (case hr => first | (go_simp; done) | (go_simp; rfl)); intro gw hgw wb hbw hbb; have HGW := Lib.hid hbw; have HBW := Lib.hid (below_step (Below.refl w.heap.size w) hbb); have HGE := Lib.hid (Nat.le_of_eq hgw.symm); clear hgw hbw hbb) | ((with_reducible refine gate_dst (N := 7) rfl ?_); refine box_event ?hg (N := 7) ?hd (cs := #[.int .i64 x, .int .i64 y, .int .i64 z]) (t := 71) ?hr ?_; (case hd => rfl); (case hg => rfl); (case hr => first | (go_simp; done) | (go_simp; rfl)); intro gs hgs wc hbs hbb; have k0_ := Lib.hid (blk_below HGW.out hbb); have k1_ := Lib.hid (below_step HBW.out hbb); have HSE := Lib.hid (And.intro (Nat.le_trans HBW.out.size (Nat.le_of_eq hgs.symm)) (show gw ≠ gs from fun e => by have h1 := blk_lt HGW.out; omega)); clear HGW HBW; have HGW := k0_; have HBW := k1_; clear k0_ k1_; have HGS := Lib.hid hbs; have hw0 : wc.cell? ⟨gw, 0, none⟩ = some (.slice A0 nx.length c0) := (blk_cell HGW.out 0).trans rfl; have hw1 : wc.cell? ⟨gw, 1, none⟩ = some (.slice A1 mk.length c1) := (blk_cell HGW.out 1).trans rfl; have hs0 : wc.cell? ⟨gs, 0, none⟩ = some (.int .i64 x) := (blk_cell HGS.out 0).trans rfl; have hs1 : wc.cell? ⟨gs, 1, none⟩ = some (.int .i64 y) := (blk_cell HGS.out 1).trans rfl; have hs2 : wc.cell? ⟨gs, 2, none⟩ = some (.int .i64 z) := (blk_cell HGS.out 2).trans rfl; clear hgs hbs hbb) | fail)
  refine (PA.comfitref08_digit.calls ((103 : Nat) : Int) (-1) _ rfl).mono ?_
  rintro e wd ⟨rfl, hd⟩
  have j0_ := cell_drawn hd hw0
  have j1_ := cell_drawn hd hw1
  have j2_ := cell_drawn hd hs0
  have j3_ := cell_drawn hd hs1
  have j4_ := cell_drawn hd hs2
  have n0_ := Lib.hid (below_drawn HBW.out hd)
  clear hw0 hw1 hs0 hs1 hs2 HBW hd
  have hw0 := j0_
  have hw1 := j1_
  have hs0 := j2_
  have hs1 := j3_
  have hs2 := j4_
  have HBW := n0_
  clear j0_ j1_ j2_ j3_ j4_ n0_
  go_wp2_with fail
  refine (PA.comfitref08_letter.calls ((103 : Nat) : Int) (-1) _ rfl).mono ?_
  rintro e wd ⟨rfl, hd⟩
  have j0_ := cell_drawn hd hw0
  have j1_ := cell_drawn hd hw1
  have j2_ := cell_drawn hd hs0
  have j3_ := cell_drawn hd hs1
  have j4_ := cell_drawn hd hs2
  have n0_ := Lib.hid (below_drawn HBW.out hd)
  clear hw0 hw1 hs0 hs1 hs2 HBW hd
  have hw0 := j0_
  have hw1 := j1_
  have hs0 := j2_
  have hs1 := j3_
  have hs2 := j4_
  have HBW := n0_
  clear j0_ j1_ j2_ j3_ j4_ n0_
  go_wp2_with fail
  refine (rfix103_122 A0 c0 nx A1 c1 mk s i x y z _ (Kd.C_below HR0.out HBW.out) hc0 (Kd.C_below HR1.out HBW.out) hc1 hsz a k set cnt l HD0.out IH.out HF.out).mono ?_
  rintro e w9 ⟨rfl, hb⟩
  have HB9 := Lib.hid (below_step HBW.out hb)
  clear hb hw0 hw1 hs0 hs1 hs2
  go_wp2
  go_ret2
  exact ⟨rfl, HB9.out⟩

set_option maxRecDepth 100000 in
set_option maxHeartbeats 4000000 in
theorem rh_fix109_120 (A0 : Option Addr) (c0 : Nat) (nx : List Int) (A1 : Option Addr) (c1 : Nat) (mk : List Int) (s : ByteArray) (i : Nat) (x y z : Int) (w : World) (hr0 : Kd.C (Kd.int .i64) w A0 nx.length nx) (hc0 : nx.length ≤ c0) (hr1 : Kd.C (Kd.int .i64) w A1 mk.length mk) (hc1 : mk.length ≤ c1) (hsz : s.size ≤ 1000000000) (a : Fm) (k : Nat) (set cnt : Int) (l : List Nat) (hd : (cs s).drop i = 109 :: 120 :: (str a ++ l)) (ih : ∀ j, j < k → ∀ x y z res, rholdF nx mk j a (x, y, z) = some res → RHoldsC nx mk a x y z res) (hf : rloopF nx mk k 120 a 0 1 (x, y, z) = some (set, cnt)) :
    Calls Try.prog 51 #[.agg #[.slice A0 nx.length c0, .slice A1 mk.length c1], .string s, .int .i64 i, .agg #[.int .i64 x, .int .i64 y, .int .i64 z]] w fun e w' => e = .returned (.tuple #[.int .i64 (set), .int .i64 ((i : Int) + (((str a).length + 2 : Nat) : Int))]) ∧ Below w.heap.size w w' := by
  have IH := Lib.hid ih
  have HF := Lib.hid hf
  have HD0 := Lib.hid hd
  clear ih hf
  obtain ⟨hi, hch, hrest⟩ := drop_at hd
  have hi2 : (i : Int) < (s.size : Int) := by omega
  have HD := Lib.hid hrest
  clear hrest hd
  have hu := Try.underlying24
  have hu2 := Try.underlying71
  have HR0 := Lib.hid hr0
  have HR1 := Lib.hid hr1
  have hle := hr0.2.1
  have hle1 := hr1.2.1
  clear hr0 hr1
  go_enter Try.func51, Try.ntmps51
  go_wp2_with (first | ((with_reducible refine gate_dst (N := 4) rfl ?_); refine box_event ?hg (N := 4) ?hd (cs := #[.slice A0 nx.length c0, .slice A1 mk.length c1]) (t := 24) ?hr ?_; (case hd => rfl); (case hg => rfl); (case hr => first | (go_simp; done) | (go_simp; rfl)); intro gw hgw wb hbw hbb; have HGW := Lib.hid hbw; have HBW := Lib.hid (below_step (Below.refl w.heap.size w) hbb); have HGE := Lib.hid (Nat.le_of_eq hgw.symm); clear hgw hbw hbb) | ((with_reducible refine gate_dst (N := 7) rfl ?_); refine box_event ?hg (N := 7) ?hd (cs := #[.int .i64 x, .int .i64 y, .int .i64 z]) (t := 71) ?hr ?_; (case hd => rfl); (case hg => rfl); (case hr => first | (go_simp; done) | (go_simp; rfl)); intro gs hgs wc hbs hbb; have k0_ := Lib.hid (blk_below HGW.out hbb); have k1_ := Lib.hid (below_step HBW.out hbb); have HSE := Lib.hid (And.intro (Nat.le_trans HBW.out.size (Nat.le_of_eq hgs.symm)) (show gw ≠ gs from fun e => by have h1 := blk_lt HGW.out; omega)); clear HGW HBW; have HGW := k0_; have HBW := k1_; clear k0_ k1_; have HGS := Lib.hid hbs; have hw0 : wc.cell? ⟨gw, 0, none⟩ = some (.slice A0 nx.length c0) := (blk_cell HGW.out 0).trans rfl; have hw1 : wc.cell? ⟨gw, 1, none⟩ = some (.slice A1 mk.length c1) := (blk_cell HGW.out 1).trans rfl; have hs0 : wc.cell? ⟨gs, 0, none⟩ = some (.int .i64 x) := (blk_cell HGS.out 0).trans rfl; have hs1 : wc.cell? ⟨gs, 1, none⟩ = some (.int .i64 y) := (blk_cell HGS.out 1).trans rfl; have hs2 : wc.cell? ⟨gs, 2, none⟩ = some (.int .i64 z) := (blk_cell HGS.out 2).trans rfl; clear hgs hbs hbb) | fail)
  refine (PA.comfitref08_digit.calls ((109 : Nat) : Int) (-1) _ rfl).mono ?_
  rintro e wd ⟨rfl, hd⟩
  have j0_ := cell_drawn hd hw0
  have j1_ := cell_drawn hd hw1
  have j2_ := cell_drawn hd hs0
  have j3_ := cell_drawn hd hs1
  have j4_ := cell_drawn hd hs2
  have n0_ := Lib.hid (below_drawn HBW.out hd)
  clear hw0 hw1 hs0 hs1 hs2 HBW hd
  have hw0 := j0_
  have hw1 := j1_
  have hs0 := j2_
  have hs1 := j3_
  have hs2 := j4_
  have HBW := n0_
  clear j0_ j1_ j2_ j3_ j4_ n0_
  go_wp2_with fail
  refine (PA.comfitref08_letter.calls ((109 : Nat) : Int) (-1) _ rfl).mono ?_
  rintro e wd ⟨rfl, hd⟩
  have j0_ := cell_drawn hd hw0
  have j1_ := cell_drawn hd hw1
  have j2_ := cell_drawn hd hs0
  have j3_ := cell_drawn hd hs1
  have j4_ := cell_drawn hd hs2
  have n0_ := Lib.hid (below_drawn HBW.out hd)
  clear hw0 hw1 hs0 hs1 hs2 HBW hd
  have hw0 := j0_
  have hw1 := j1_
  have hs0 := j2_
  have hs1 := j3_
  have hs2 := j4_
  have HBW := n0_
  clear j0_ j1_ j2_ j3_ j4_ n0_
  go_wp2_with fail
  refine (rfix109_120 A0 c0 nx A1 c1 mk s i x y z _ (Kd.C_below HR0.out HBW.out) hc0 (Kd.C_below HR1.out HBW.out) hc1 hsz a k set cnt l HD0.out IH.out HF.out).mono ?_
  rintro e w9 ⟨rfl, hb⟩
  have HB9 := Lib.hid (below_step HBW.out hb)
  clear hb hw0 hw1 hs0 hs1 hs2
  go_wp2
  go_ret2
  exact ⟨rfl, HB9.out⟩

set_option maxRecDepth 100000 in
set_option maxHeartbeats 4000000 in
theorem rh_fix109_121 (A0 : Option Addr) (c0 : Nat) (nx : List Int) (A1 : Option Addr) (c1 : Nat) (mk : List Int) (s : ByteArray) (i : Nat) (x y z : Int) (w : World) (hr0 : Kd.C (Kd.int .i64) w A0 nx.length nx) (hc0 : nx.length ≤ c0) (hr1 : Kd.C (Kd.int .i64) w A1 mk.length mk) (hc1 : mk.length ≤ c1) (hsz : s.size ≤ 1000000000) (a : Fm) (k : Nat) (set cnt : Int) (l : List Nat) (hd : (cs s).drop i = 109 :: 121 :: (str a ++ l)) (ih : ∀ j, j < k → ∀ x y z res, rholdF nx mk j a (x, y, z) = some res → RHoldsC nx mk a x y z res) (hf : rloopF nx mk k 121 a 0 1 (x, y, z) = some (set, cnt)) :
    Calls Try.prog 51 #[.agg #[.slice A0 nx.length c0, .slice A1 mk.length c1], .string s, .int .i64 i, .agg #[.int .i64 x, .int .i64 y, .int .i64 z]] w fun e w' => e = .returned (.tuple #[.int .i64 (set), .int .i64 ((i : Int) + (((str a).length + 2 : Nat) : Int))]) ∧ Below w.heap.size w w' := by
  have IH := Lib.hid ih
  have HF := Lib.hid hf
  have HD0 := Lib.hid hd
  clear ih hf
  obtain ⟨hi, hch, hrest⟩ := drop_at hd
  have hi2 : (i : Int) < (s.size : Int) := by omega
  have HD := Lib.hid hrest
  clear hrest hd
  have hu := Try.underlying24
  have hu2 := Try.underlying71
  have HR0 := Lib.hid hr0
  have HR1 := Lib.hid hr1
  have hle := hr0.2.1
  have hle1 := hr1.2.1
  clear hr0 hr1
  go_enter Try.func51, Try.ntmps51
  go_wp2_with (first | ((with_reducible refine gate_dst (N := 4) rfl ?_); refine box_event ?hg (N := 4) ?hd (cs := #[.slice A0 nx.length c0, .slice A1 mk.length c1]) (t := 24) ?hr ?_; (case hd => rfl); (case hg => rfl); (case hr => first | (go_simp; done) | (go_simp; rfl)); intro gw hgw wb hbw hbb; have HGW := Lib.hid hbw; have HBW := Lib.hid (below_step (Below.refl w.heap.size w) hbb); have HGE := Lib.hid (Nat.le_of_eq hgw.symm); clear hgw hbw hbb) | ((with_reducible refine gate_dst (N := 7) rfl ?_); refine box_event ?hg (N := 7) ?hd (cs := #[.int .i64 x, .int .i64 y, .int .i64 z]) (t := 71) ?hr ?_; (case hd => rfl); (case hg => rfl); (case hr => first | (go_simp; done) | (go_simp; rfl)); intro gs hgs wc hbs hbb; have k0_ := Lib.hid (blk_below HGW.out hbb); have k1_ := Lib.hid (below_step HBW.out hbb); have HSE := Lib.hid (And.intro (Nat.le_trans HBW.out.size (Nat.le_of_eq hgs.symm)) (show gw ≠ gs from fun e => by have h1 := blk_lt HGW.out; omega)); clear HGW HBW; have HGW := k0_; have HBW := k1_; clear k0_ k1_; have HGS := Lib.hid hbs; have hw0 : wc.cell? ⟨gw, 0, none⟩ = some (.slice A0 nx.length c0) := (blk_cell HGW.out 0).trans rfl; have hw1 : wc.cell? ⟨gw, 1, none⟩ = some (.slice A1 mk.length c1) := (blk_cell HGW.out 1).trans rfl; have hs0 : wc.cell? ⟨gs, 0, none⟩ = some (.int .i64 x) := (blk_cell HGS.out 0).trans rfl; have hs1 : wc.cell? ⟨gs, 1, none⟩ = some (.int .i64 y) := (blk_cell HGS.out 1).trans rfl; have hs2 : wc.cell? ⟨gs, 2, none⟩ = some (.int .i64 z) := (blk_cell HGS.out 2).trans rfl; clear hgs hbs hbb) | fail)
  refine (PA.comfitref08_digit.calls ((109 : Nat) : Int) (-1) _ rfl).mono ?_
  rintro e wd ⟨rfl, hd⟩
  have j0_ := cell_drawn hd hw0
  have j1_ := cell_drawn hd hw1
  have j2_ := cell_drawn hd hs0
  have j3_ := cell_drawn hd hs1
  have j4_ := cell_drawn hd hs2
  have n0_ := Lib.hid (below_drawn HBW.out hd)
  clear hw0 hw1 hs0 hs1 hs2 HBW hd
  have hw0 := j0_
  have hw1 := j1_
  have hs0 := j2_
  have hs1 := j3_
  have hs2 := j4_
  have HBW := n0_
  clear j0_ j1_ j2_ j3_ j4_ n0_
  go_wp2_with fail
  refine (PA.comfitref08_letter.calls ((109 : Nat) : Int) (-1) _ rfl).mono ?_
  rintro e wd ⟨rfl, hd⟩
  have j0_ := cell_drawn hd hw0
  have j1_ := cell_drawn hd hw1
  have j2_ := cell_drawn hd hs0
  have j3_ := cell_drawn hd hs1
  have j4_ := cell_drawn hd hs2
  have n0_ := Lib.hid (below_drawn HBW.out hd)
  clear hw0 hw1 hs0 hs1 hs2 HBW hd
  have hw0 := j0_
  have hw1 := j1_
  have hs0 := j2_
  have hs1 := j3_
  have hs2 := j4_
  have HBW := n0_
  clear j0_ j1_ j2_ j3_ j4_ n0_
  go_wp2_with fail
  refine (rfix109_121 A0 c0 nx A1 c1 mk s i x y z _ (Kd.C_below HR0.out HBW.out) hc0 (Kd.C_below HR1.out HBW.out) hc1 hsz a k set cnt l HD0.out IH.out HF.out).mono ?_
  rintro e w9 ⟨rfl, hb⟩
  have HB9 := Lib.hid (below_step HBW.out hb)
  clear hb hw0 hw1 hs0 hs1 hs2
  go_wp2
  go_ret2
  exact ⟨rfl, HB9.out⟩

set_option maxRecDepth 100000 in
set_option maxHeartbeats 4000000 in
theorem rh_fix109_122 (A0 : Option Addr) (c0 : Nat) (nx : List Int) (A1 : Option Addr) (c1 : Nat) (mk : List Int) (s : ByteArray) (i : Nat) (x y z : Int) (w : World) (hr0 : Kd.C (Kd.int .i64) w A0 nx.length nx) (hc0 : nx.length ≤ c0) (hr1 : Kd.C (Kd.int .i64) w A1 mk.length mk) (hc1 : mk.length ≤ c1) (hsz : s.size ≤ 1000000000) (a : Fm) (k : Nat) (set cnt : Int) (l : List Nat) (hd : (cs s).drop i = 109 :: 122 :: (str a ++ l)) (ih : ∀ j, j < k → ∀ x y z res, rholdF nx mk j a (x, y, z) = some res → RHoldsC nx mk a x y z res) (hf : rloopF nx mk k 122 a 0 1 (x, y, z) = some (set, cnt)) :
    Calls Try.prog 51 #[.agg #[.slice A0 nx.length c0, .slice A1 mk.length c1], .string s, .int .i64 i, .agg #[.int .i64 x, .int .i64 y, .int .i64 z]] w fun e w' => e = .returned (.tuple #[.int .i64 (set), .int .i64 ((i : Int) + (((str a).length + 2 : Nat) : Int))]) ∧ Below w.heap.size w w' := by
  have IH := Lib.hid ih
  have HF := Lib.hid hf
  have HD0 := Lib.hid hd
  clear ih hf
  obtain ⟨hi, hch, hrest⟩ := drop_at hd
  have hi2 : (i : Int) < (s.size : Int) := by omega
  have HD := Lib.hid hrest
  clear hrest hd
  have hu := Try.underlying24
  have hu2 := Try.underlying71
  have HR0 := Lib.hid hr0
  have HR1 := Lib.hid hr1
  have hle := hr0.2.1
  have hle1 := hr1.2.1
  clear hr0 hr1
  go_enter Try.func51, Try.ntmps51
  go_wp2_with (first | ((with_reducible refine gate_dst (N := 4) rfl ?_); refine box_event ?hg (N := 4) ?hd (cs := #[.slice A0 nx.length c0, .slice A1 mk.length c1]) (t := 24) ?hr ?_; (case hd => rfl); (case hg => rfl); (case hr => first | (go_simp; done) | (go_simp; rfl)); intro gw hgw wb hbw hbb; have HGW := Lib.hid hbw; have HBW := Lib.hid (below_step (Below.refl w.heap.size w) hbb); have HGE := Lib.hid (Nat.le_of_eq hgw.symm); clear hgw hbw hbb) | ((with_reducible refine gate_dst (N := 7) rfl ?_); refine box_event ?hg (N := 7) ?hd (cs := #[.int .i64 x, .int .i64 y, .int .i64 z]) (t := 71) ?hr ?_; (case hd => rfl); (case hg => rfl); (case hr => first | (go_simp; done) | (go_simp; rfl)); intro gs hgs wc hbs hbb; have k0_ := Lib.hid (blk_below HGW.out hbb); have k1_ := Lib.hid (below_step HBW.out hbb); have HSE := Lib.hid (And.intro (Nat.le_trans HBW.out.size (Nat.le_of_eq hgs.symm)) (show gw ≠ gs from fun e => by have h1 := blk_lt HGW.out; omega)); clear HGW HBW; have HGW := k0_; have HBW := k1_; clear k0_ k1_; have HGS := Lib.hid hbs; have hw0 : wc.cell? ⟨gw, 0, none⟩ = some (.slice A0 nx.length c0) := (blk_cell HGW.out 0).trans rfl; have hw1 : wc.cell? ⟨gw, 1, none⟩ = some (.slice A1 mk.length c1) := (blk_cell HGW.out 1).trans rfl; have hs0 : wc.cell? ⟨gs, 0, none⟩ = some (.int .i64 x) := (blk_cell HGS.out 0).trans rfl; have hs1 : wc.cell? ⟨gs, 1, none⟩ = some (.int .i64 y) := (blk_cell HGS.out 1).trans rfl; have hs2 : wc.cell? ⟨gs, 2, none⟩ = some (.int .i64 z) := (blk_cell HGS.out 2).trans rfl; clear hgs hbs hbb) | fail)
  refine (PA.comfitref08_digit.calls ((109 : Nat) : Int) (-1) _ rfl).mono ?_
  rintro e wd ⟨rfl, hd⟩
  have j0_ := cell_drawn hd hw0
  have j1_ := cell_drawn hd hw1
  have j2_ := cell_drawn hd hs0
  have j3_ := cell_drawn hd hs1
  have j4_ := cell_drawn hd hs2
  have n0_ := Lib.hid (below_drawn HBW.out hd)
  clear hw0 hw1 hs0 hs1 hs2 HBW hd
  have hw0 := j0_
  have hw1 := j1_
  have hs0 := j2_
  have hs1 := j3_
  have hs2 := j4_
  have HBW := n0_
  clear j0_ j1_ j2_ j3_ j4_ n0_
  go_wp2_with fail
  refine (PA.comfitref08_letter.calls ((109 : Nat) : Int) (-1) _ rfl).mono ?_
  rintro e wd ⟨rfl, hd⟩
  have j0_ := cell_drawn hd hw0
  have j1_ := cell_drawn hd hw1
  have j2_ := cell_drawn hd hs0
  have j3_ := cell_drawn hd hs1
  have j4_ := cell_drawn hd hs2
  have n0_ := Lib.hid (below_drawn HBW.out hd)
  clear hw0 hw1 hs0 hs1 hs2 HBW hd
  have hw0 := j0_
  have hw1 := j1_
  have hs0 := j2_
  have hs1 := j3_
  have hs2 := j4_
  have HBW := n0_
  clear j0_ j1_ j2_ j3_ j4_ n0_
  go_wp2_with fail
  refine (rfix109_122 A0 c0 nx A1 c1 mk s i x y z _ (Kd.C_below HR0.out HBW.out) hc0 (Kd.C_below HR1.out HBW.out) hc1 hsz a k set cnt l HD0.out IH.out HF.out).mono ?_
  rintro e w9 ⟨rfl, hb⟩
  have HB9 := Lib.hid (below_step HBW.out hb)
  clear hb hw0 hw1 hs0 hs1 hs2
  go_wp2
  go_ret2
  exact ⟨rfl, HB9.out⟩

theorem rholds_all (nx mk : List Int) : ∀ k f x y z res, WF f → rholdF nx mk k f (x, y, z) = some res → RHoldsC nx mk f x y z res := by
  intro k
  induction k using Nat.strongRecOn with
  | _ k ih =>
    intro f x y z res hw hf A0 c0 A1 c1 s p i l w hr0 hc0 hr1 hc1 hsz hp hd
    subst hp
    cases k with
    | zero => simp [rholdF] at hf
    | succ k =>
      cases f with
      | mark neg j =>
        simp only [rholdF, Option.some.injEq] at hf
        simp only [WF] at hw
        cases neg
        · simp only [Bool.false_eq_true, if_false] at hf
          simp only [str, Bool.false_eq_true, if_false] at hd ⊢
          subst hf
          exact rh_mark A0 c0 nx A1 c1 mk s i x y z w hr0 hc0 hr1 hc1 hsz j hw l hd
        · simp only [if_true] at hf
          simp only [str, if_true] at hd ⊢
          subst hf
          exact rh_neg A0 c0 nx A1 c1 mk s i x y z w hr0 hc0 hr1 hc1 hsz j hw l hd
      | con c =>
        simp only [rholdF, Option.some.injEq] at hf
        simp only [WF] at hw
        simp only [str] at hd ⊢
        rcases hw with rfl | rfl
        · simp only [if_true] at hf
          subst hf
          exact rh_t A0 c0 nx A1 c1 mk s i x y z w hr0 hc0 hr1 hc1 hsz l hd
        · rw [if_neg (by omega)] at hf
          subst hf
          exact rh_f A0 c0 nx A1 c1 mk s i x y z w hr0 hc0 hr1 hc1 hsz l hd
      | var c =>
        simp only [rholdF, Option.some.injEq, getL] at hf
        simp only [WF] at hw
        simp only [str] at hd ⊢
        rcases (show c = 120 ∨ c = 121 ∨ c = 122 by omega) with rfl | rfl | rfl
        · simp only [if_true] at hf
          subst hf
          exact rh_var120 A0 c0 nx A1 c1 mk s i x y z w hr0 hc0 hr1 hc1 hsz l hd
        · rw [if_neg (by omega), if_pos rfl] at hf
          subst hf
          exact rh_var121 A0 c0 nx A1 c1 mk s i x y z w hr0 hc0 hr1 hc1 hsz l hd
        · rw [if_neg (by omega), if_neg (by omega)] at hf
          subst hf
          exact rh_var122 A0 c0 nx A1 c1 mk s i x y z w hr0 hc0 hr1 hc1 hsz l hd
      | two c a b =>
        simp only [rholdF] at hf
        simp only [WF] at hw
        obtain ⟨hc, hwa, hwb⟩ := hw
        obtain ⟨p, hp, hf⟩ := Option.bind_eq_some_iff.mp hf
        obtain ⟨q, hq, hf⟩ := Option.bind_eq_some_iff.mp hf
        injection hf with hf
        simp only [str, List.cons_append, List.append_assoc] at hd ⊢
        have ia := ih k (by omega) a x y z p hwa hp
        have ib := ih k (by omega) b x y z q hwb hq
        rcases hc with rfl | rfl
        · simp only [if_true] at hf
          subst hf
          simpa using rh_and A0 c0 nx A1 c1 mk s i x y z w hr0 hc0 hr1 hc1 hsz a b p q l hd ia ib
        · rw [if_neg (by omega)] at hf
          subst hf
          simpa using rh_or A0 c0 nx A1 c1 mk s i x y z w hr0 hc0 hr1 hc1 hsz a b p q l hd ia ib
      | one c a =>
        simp only [rholdF] at hf
        simp only [WF] at hw
        obtain ⟨hc, hwa⟩ := hw
        obtain ⟨p, hp, hf⟩ := Option.bind_eq_some_iff.mp hf
        injection hf with hf
        simp only [str, List.cons_append] at hd ⊢
        have ia := ih k (by omega) a x y z p hwa hp
        rcases hc with rfl | rfl
        · simp only [if_true] at hf
          subst hf
          exact rh_dia A0 c0 nx A1 c1 mk s i x y z w hr0 hc0 hr1 hc1 hsz a p l hd ia
        · rw [if_neg (by omega)] at hf
          subst hf
          exact rh_box A0 c0 nx A1 c1 mk s i x y z w hr0 hc0 hr1 hc1 hsz a p l hd ia
      | fix c v a =>
        simp only [rholdF] at hf
        simp only [WF] at hw
        obtain ⟨hc, hv, hwa⟩ := hw
        obtain ⟨p, hp, hf⟩ := Option.bind_eq_some_iff.mp hf
        injection hf with hf
        subst hf
        simp only [str, List.cons_append] at hd ⊢
        have ia : ∀ j, j < k → ∀ x y z res, rholdF nx mk j a (x, y, z) = some res → RHoldsC nx mk a x y z res := fun j hj x y z res h => ih j (by omega) a x y z res hwa h
        rcases hc with rfl | rfl
        · rw [if_neg (by omega)] at hp
          rcases (show v = 120 ∨ v = 121 ∨ v = 122 by omega) with rfl | rfl | rfl
          · exact rh_fix109_120 A0 c0 nx A1 c1 mk s i x y z w hr0 hc0 hr1 hc1 hsz a k p.1 p.2 l hd ia hp
          · exact rh_fix109_121 A0 c0 nx A1 c1 mk s i x y z w hr0 hc0 hr1 hc1 hsz a k p.1 p.2 l hd ia hp
          · exact rh_fix109_122 A0 c0 nx A1 c1 mk s i x y z w hr0 hc0 hr1 hc1 hsz a k p.1 p.2 l hd ia hp
        · simp only [if_true] at hp
          rcases (show v = 120 ∨ v = 121 ∨ v = 122 by omega) with rfl | rfl | rfl
          · exact rh_fix103_120 A0 c0 nx A1 c1 mk s i x y z w hr0 hc0 hr1 hc1 hsz a k p.1 p.2 l hd ia hp
          · exact rh_fix103_121 A0 c0 nx A1 c1 mk s i x y z w hr0 hc0 hr1 hc1 hsz a k p.1 p.2 l hd ia hp
          · exact rh_fix103_122 A0 c0 nx A1 c1 mk s i x y z w hr0 hc0 hr1 hc1 hsz a k p.1 p.2 l hd ia hp
end Go.Proofs.Ytjffhhalmicodaa.X
