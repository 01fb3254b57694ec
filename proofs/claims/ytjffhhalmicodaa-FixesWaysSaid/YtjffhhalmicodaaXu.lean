import Derived.Test.YtjffhhalmicodaaXt
set_option linter.unusedVariables false
set_option linter.unusedSimpArgs false
namespace Go.Proofs.Ytjffhhalmicodaa.X
open Go.RowKit Go.Proofs.YtjffhhalmicodaaW.PrintWords Go.Proofs.YtjffhhalmicodaaW.PrintLast Go.Proofs.YtjffhhalmicodaaW.PrintMore

/-- the reference's holds at a formula that is written from a place on: with sets for the letters it comes to res -/
def RHoldsC (nx mk : List Int) (f : Fm) (x y z res : Int) : Prop :=
  ∀ (A0 : Option Addr) (c0 : Nat) (A1 : Option Addr) (c1 : Nat) (s : ByteArray) (p : Int) (i : Nat) (l : List Nat) (w : World), Kd.C (Kd.int .i64) w A0 nx.length nx → nx.length ≤ c0 → Kd.C (Kd.int .i64) w A1 mk.length mk → mk.length ≤ c1 →
    s.size ≤ 1000000000 → p = i → (cs s).drop i = str f ++ l → Calls Try.prog 51 #[.agg #[.slice A0 nx.length c0, .slice A1 mk.length c1], .string s, .int .i64 p, .agg #[.int .i64 x, .int .i64 y, .int .i64 z]] w fun e w' => e = .returned (.tuple #[.int .i64 res, .int .i64 (p + ((str f).length : Int))]) ∧ Below w.heap.size w w'

theorem ret2_int {k k' : IntKind} {a b c d : Int} (h : a = b) (h' : c = d) : Ending.returned (.tuple #[.int k a, .int k' c]) = .returned (.tuple #[.int k b, .int k' d]) := by rw [h, h']
theorem drop_app {s : List Nat} {i : Nat} {a l : List Nat} (h : s.drop i = a ++ l) : s.drop (i + a.length) = l := by
  rw [← List.drop_drop, h, List.drop_left]
theorem app_len {s : ByteArray} {i : Nat} {a l : List Nat} (h : (cs s).drop i = a ++ l) (hi : i ≤ s.size) : i + a.length ≤ s.size := by
  have := congrArg List.length h
  rw [List.length_drop, cs_length, List.length_append] at this
  omega

set_option maxRecDepth 100000 in
set_option maxHeartbeats 4000000 in
theorem rh_and (A0 : Option Addr) (c0 : Nat) (nx : List Int) (A1 : Option Addr) (c1 : Nat) (mk : List Int) (s : ByteArray) (i : Nat) (x y z : Int) (w : World) (hr0 : Kd.C (Kd.int .i64) w A0 nx.length nx) (hc0 : nx.length ≤ c0) (hr1 : Kd.C (Kd.int .i64) w A1 mk.length mk) (hc1 : mk.length ≤ c1) (hsz : s.size ≤ 1000000000) (a b : Fm) (ra rb : Int) (l : List Nat) (hd : (cs s).drop i = 38 :: (str a ++ (str b ++ l))) (iha : RHoldsC nx mk a x y z ra) (ihb : RHoldsC nx mk b x y z rb) :
    Calls Try.prog 51 #[.agg #[.slice A0 nx.length c0, .slice A1 mk.length c1], .string s, .int .i64 i, .agg #[.int .i64 x, .int .i64 y, .int .i64 z]] w fun e w' => e = .returned (.tuple #[.int .i64 (bits .and .i64 ra rb), .int .i64 ((i : Int) + (((str a).length + (str b).length + 1 : Nat) : Int))]) ∧ Below w.heap.size w w' := by
  have IA := Lib.hid iha
  have IB := Lib.hid ihb
  clear iha ihb
  obtain ⟨hi, hch, hrest⟩ := drop_at hd
  have hi2 : (i : Int) < (s.size : Int) := by omega
  have HD := Lib.hid hrest
  clear hrest hd
  have HD2 := Lib.hid (drop_app HD.out)
  have hla := app_len HD.out (by omega)
  have hlb := app_len HD2.out (by omega)
  have hu := Try.underlying24
  have hu2 := Try.underlying71
  have HR0 := Lib.hid hr0
  have HR1 := Lib.hid hr1
  have hle := hr0.2.1
  have hle1 := hr1.2.1
  clear hr0 hr1
  go_enter Try.func51, Try.ntmps51
  go_wp2_with (first | ((with_reducible refine gate_dst (N := 4) rfl ?_); refine box_event ?hg (N := 4) ?hd (cs := #[.slice A0 nx.length c0, .slice A1 mk.length c1]) (t := 24) ?hr ?_; (case hd => rfl); (case hg => rfl); (case hr => first | (go_simp; done) | (go_simp; rfl)); intro gw hgw wb hbw hbb; have HGW := Lib.hid hbw; have HBW := Lib.hid (below_step (Below.refl w.heap.size w) hbb); have HGE := Lib.hid (Nat.le_of_eq hgw.symm); clear hgw hbw hbb) | ((with_reducible refine gate_dst (N := 7) rfl ?_); refine box_event ?hg (N := 7) ?hd (cs := #[.int .i64 x, .int .i64 y, .int .i64 z]) (t := 71) ?hr ?_; (case hd => rfl); (case hg => rfl); (case hr => first | (go_simp; done) | (go_simp; rfl)); intro gs hgs wc hbs hbb; have k0_ := Lib.hid (blk_below HGW.out hbb); have k1_ := Lib.hid (below_step HBW.out hbb); have HSE := Lib.hid (And.intro (Nat.le_trans HBW.out.size (Nat.le_of_eq hgs.symm)) (show gw ≠ gs from fun e => by have h1 := blk_lt HGW.out; omega)); clear HGW HBW; have HGW := k0_; have HBW := k1_; clear k0_ k1_; have HGS := Lib.hid hbs; have hw0 : wc.cell? ⟨gw, 0, none⟩ = some (.slice A0 nx.length c0) := (blk_cell HGW.out 0).trans rfl; have hw1 : wc.cell? ⟨gw, 1, none⟩ = some (.slice A1 mk.length c1) := (blk_cell HGW.out 1).trans rfl; have hs0 : wc.cell? ⟨gs, 0, none⟩ = some (.int .i64 x) := (blk_cell HGS.out 0).trans rfl; have hs1 : wc.cell? ⟨gs, 1, none⟩ = some (.int .i64 y) := (blk_cell HGS.out 1).trans rfl; have hs2 : wc.cell? ⟨gs, 2, none⟩ = some (.int .i64 z) := (blk_cell HGS.out 2).trans rfl; clear hgs hbs hbb) | fail)
  refine (PA.comfitref08_digit.calls ((38 : Nat) : Int) (-1) _ rfl).mono ?_
  rintro e wd ⟨rfl, hd⟩
  have j0_ := cell_drawn hd hw0
  have j1_ := cell_drawn hd hw1
  have j2_ := cell_drawn hd hs0
  have j3_ := cell_drawn hd hs1
  have j4_ := cell_drawn hd hs2
  have n0_ := Lib.hid (below_drawn HBW.out hd)
  clear hw0 hw1 hs0 hs1 hs2 HBW hd
  have hw0 := j0_
  have hw1 := j1_
  have hs0 := j2_
  have hs1 := j3_
  have hs2 := j4_
  have HBW := n0_
  clear j0_ j1_ j2_ j3_ j4_ n0_
  go_wp2_with fail
  refine (PA.comfitref08_letter.calls ((38 : Nat) : Int) (-1) _ rfl).mono ?_
  rintro e wd ⟨rfl, hd⟩
  have j0_ := cell_drawn hd hw0
  have j1_ := cell_drawn hd hw1
  have j2_ := cell_drawn hd hs0
  have j3_ := cell_drawn hd hs1
  have j4_ := cell_drawn hd hs2
  have n0_ := Lib.hid (below_drawn HBW.out hd)
  clear hw0 hw1 hs0 hs1 hs2 HBW hd
  have hw0 := j0_
  have hw1 := j1_
  have hs0 := j2_
  have hs1 := j3_
  have hs2 := j4_
  have HBW := n0_
  clear j0_ j1_ j2_ j3_ j4_ n0_
  go_wp2_with fail
  refine (IA.out A0 c0 A1 c1 s ((i : Int) + 1) (i + 1) _ _ (Kd.C_below HR0.out HBW.out) hc0 (Kd.C_below HR1.out HBW.out) hc1 hsz (by omega) HD.out).mono ?_
  rintro e w2 ⟨rfl, hb⟩
  have j0_ := pw_cell_below hb hw0
  have j1_ := pw_cell_below hb hw1
  have j2_ := pw_cell_below hb hs0
  have j3_ := pw_cell_below hb hs1
  have j4_ := pw_cell_below hb hs2
  have n0_ := Lib.hid (below_step HBW.out hb)
  clear hw0 hw1 hs0 hs1 hs2 HBW hb
  have hw0 := j0_
  have hw1 := j1_
  have hs0 := j2_
  have hs1 := j3_
  have hs2 := j4_
  have HBW := n0_
  clear j0_ j1_ j2_ j3_ j4_ n0_
  go_wp2_with fail
  refine (IB.out A0 c0 A1 c1 s ((i : Int) + 1 + ((str a).length : Int)) (i + 1 + (str a).length) _ _ (Kd.C_below HR0.out HBW.out) hc0 (Kd.C_below HR1.out HBW.out) hc1 hsz (by omega) HD2.out).mono ?_
  rintro e w3 ⟨rfl, hb⟩
  have j0_ := pw_cell_below hb hw0
  have j1_ := pw_cell_below hb hw1
  have j2_ := pw_cell_below hb hs0
  have j3_ := pw_cell_below hb hs1
  have j4_ := pw_cell_below hb hs2
  have n0_ := Lib.hid (below_step HBW.out hb)
  clear hw0 hw1 hs0 hs1 hs2 HBW hb
  have hw0 := j0_
  have hw1 := j1_
  have hs0 := j2_
  have hs1 := j3_
  have hs2 := j4_
  have HBW := n0_
  clear j0_ j1_ j2_ j3_ j4_ n0_
  go_wp2
  go_ret2
  exact ⟨ret2_int rfl (by omega), HBW.out⟩

set_option maxRecDepth 100000 in
set_option maxHeartbeats 4000000 in
theorem rh_or (A0 : Option Addr) (c0 : Nat) (nx : List Int) (A1 : Option Addr) (c1 : Nat) (mk : List Int) (s : ByteArray) (i : Nat) (x y z : Int) (w : World) (hr0 : Kd.C (Kd.int .i64) w A0 nx.length nx) (hc0 : nx.length ≤ c0) (hr1 : Kd.C (Kd.int .i64) w A1 mk.length mk) (hc1 : mk.length ≤ c1) (hsz : s.size ≤ 1000000000) (a b : Fm) (ra rb : Int) (l : List Nat) (hd : (cs s).drop i = 124 :: (str a ++ (str b ++ l))) (iha : RHoldsC nx mk a x y z ra) (ihb : RHoldsC nx mk b x y z rb) :
    Calls Try.prog 51 #[.agg #[.slice A0 nx.length c0, .slice A1 mk.length c1], .string s, .int .i64 i, .agg #[.int .i64 x, .int .i64 y, .int .i64 z]] w fun e w' => e = .returned (.tuple #[.int .i64 (bits .or .i64 ra rb), .int .i64 ((i : Int) + (((str a).length + (str b).length + 1 : Nat) : Int))]) ∧ Below w.heap.size w w' := by
  have IA := Lib.hid iha
  have IB := Lib.hid ihb
  clear iha ihb
  obtain ⟨hi, hch, hrest⟩ := drop_at hd
  have hi2 : (i : Int) < (s.size : Int) := by omega
  have HD := Lib.hid hrest
  clear hrest hd
  have HD2 := Lib.hid (drop_app HD.out)
  have hla := app_len HD.out (by omega)
  have hlb := app_len HD2.out (by omega)
  have hu := Try.underlying24
  have hu2 := Try.underlying71
  have HR0 := Lib.hid hr0
  have HR1 := Lib.hid hr1
  have hle := hr0.2.1
  have hle1 := hr1.2.1
  clear hr0 hr1
  go_enter Try.func51, Try.ntmps51
  go_wp2_with (first | ((with_reducible refine gate_dst (N := 4) rfl ?_); refine box_event ?hg (N := 4) ?hd (cs := #[.slice A0 nx.length c0, .slice A1 mk.length c1]) (t := 24) ?hr ?_; (case hd => rfl); (case hg => rfl); (case hr => first | (go_simp; done) | (go_simp; rfl)); intro gw hgw wb hbw hbb; have HGW := Lib.hid hbw; have HBW := Lib.hid (below_step (Below.refl w.heap.size w) hbb); have HGE := Lib.hid (Nat.le_of_eq hgw.symm); clear hgw hbw hbb) | ((with_reducible refine gate_dst (N := 7) rfl ?_); refine box_event ?hg (N := 7) ?hd (cs := #[.int .i64 x, .int .i64 y, .int .i64 z]) (t := 71) ?hr ?_; (case hd => rfl); (case hg => rfl); (case hr => first | (go_simp; done) | (go_simp; rfl)); intro gs hgs wc hbs hbb; have k0_ := Lib.hid (blk_below HGW.out hbb); have k1_ := Lib.hid (below_step HBW.out hbb); have HSE := Lib.hid (And.intro (Nat.le_trans HBW.out.size (Nat.le_of_eq hgs.symm)) (show gw ≠ gs from fun e => by have h1 := blk_lt HGW.out; omega)); clear HGW HBW; have HGW := k0_; have HBW := k1_; clear k0_ k1_; have HGS := Lib.hid hbs; have hw0 : wc.cell? ⟨gw, 0, none⟩ = some (.slice A0 nx.length c0) := (blk_cell HGW.out 0).trans rfl; have hw1 : wc.cell? ⟨gw, 1, none⟩ = some (.slice A1 mk.length c1) := (blk_cell HGW.out 1).trans rfl; have hs0 : wc.cell? ⟨gs, 0, none⟩ = some (.int .i64 x) := (blk_cell HGS.out 0).trans rfl; have hs1 : wc.cell? ⟨gs, 1, none⟩ = some (.int .i64 y) := (blk_cell HGS.out 1).trans rfl; have hs2 : wc.cell? ⟨gs, 2, none⟩ = some (.int .i64 z) := (blk_cell HGS.out 2).trans rfl; clear hgs hbs hbb) | fail)
  refine (PA.comfitref08_digit.calls ((124 : Nat) : Int) (-1) _ rfl).mono ?_
  rintro e wd ⟨rfl, hd⟩
  have j0_ := cell_drawn hd hw0
  have j1_ := cell_drawn hd hw1
  have j2_ := cell_drawn hd hs0
  have j3_ := cell_drawn hd hs1
  have j4_ := cell_drawn hd hs2
  have n0_ := Lib.hid (below_drawn HBW.out hd)
  clear hw0 hw1 hs0 hs1 hs2 HBW hd
  have hw0 := j0_
  have hw1 := j1_
  have hs0 := j2_
  have hs1 := j3_
  have hs2 := j4_
  have HBW := n0_
  clear j0_ j1_ j2_ j3_ j4_ n0_
  go_wp2_with fail
  refine (PA.comfitref08_letter.calls ((124 : Nat) : Int) (-1) _ rfl).mono ?_
  rintro e wd ⟨rfl, hd⟩
  have j0_ := cell_drawn hd hw0
  have j1_ := cell_drawn hd hw1
  have j2_ := cell_drawn hd hs0
  have j3_ := cell_drawn hd hs1
  have j4_ := cell_drawn hd hs2
  have n0_ := Lib.hid (below_drawn HBW.out hd)
  clear hw0 hw1 hs0 hs1 hs2 HBW hd
  have hw0 := j0_
  have hw1 := j1_
  have hs0 := j2_
  have hs1 := j3_
  have hs2 := j4_
  have HBW := n0_
  clear j0_ j1_ j2_ j3_ j4_ n0_
  go_wp2_with fail
  refine (IA.out A0 c0 A1 c1 s ((i : Int) + 1) (i + 1) _ _ (Kd.C_below HR0.out HBW.out) hc0 (Kd.C_below HR1.out HBW.out) hc1 hsz (by omega) HD.out).mono ?_
  rintro e w2 ⟨rfl, hb⟩
  have j0_ := pw_cell_below hb hw0
  have j1_ := pw_cell_below hb hw1
  have j2_ := pw_cell_below hb hs0
  have j3_ := pw_cell_below hb hs1
  have j4_ := pw_cell_below hb hs2
  have n0_ := Lib.hid (below_step HBW.out hb)
  clear hw0 hw1 hs0 hs1 hs2 HBW hb
  have hw0 := j0_
  have hw1 := j1_
  have hs0 := j2_
  have hs1 := j3_
  have hs2 := j4_
  have HBW := n0_
  clear j0_ j1_ j2_ j3_ j4_ n0_
  go_wp2_with fail
  refine (IB.out A0 c0 A1 c1 s ((i : Int) + 1 + ((str a).length : Int)) (i + 1 + (str a).length) _ _ (Kd.C_below HR0.out HBW.out) hc0 (Kd.C_below HR1.out HBW.out) hc1 hsz (by omega) HD2.out).mono ?_
  rintro e w3 ⟨rfl, hb⟩
  have j0_ := pw_cell_below hb hw0
  have j1_ := pw_cell_below hb hw1
  have j2_ := pw_cell_below hb hs0
  have j3_ := pw_cell_below hb hs1
  have j4_ := pw_cell_below hb hs2
  have n0_ := Lib.hid (below_step HBW.out hb)
  clear hw0 hw1 hs0 hs1 hs2 HBW hb
  have hw0 := j0_
  have hw1 := j1_
  have hs0 := j2_
  have hs1 := j3_
  have hs2 := j4_
  have HBW := n0_
  clear j0_ j1_ j2_ j3_ j4_ n0_
  go_wp2
  go_ret2
  exact ⟨ret2_int rfl (by omega), HBW.out⟩

set_option maxRecDepth 100000 in
set_option maxHeartbeats 4000000 in
theorem rh_dia (A0 : Option Addr) (c0 : Nat) (nx : List Int) (A1 : Option Addr) (c1 : Nat) (mk : List Int) (s : ByteArray) (i : Nat) (x y z : Int) (w : World) (hr0 : Kd.C (Kd.int .i64) w A0 nx.length nx) (hc0 : nx.length ≤ c0) (hr1 : Kd.C (Kd.int .i64) w A1 mk.length mk) (hc1 : mk.length ≤ c1) (hsz : s.size ≤ 1000000000) (a : Fm) (ra : Int) (l : List Nat) (hd : (cs s).drop i = 60 :: (str a ++ l)) (iha : RHoldsC nx mk a x y z ra) :
    Calls Try.prog 51 #[.agg #[.slice A0 nx.length c0, .slice A1 mk.length c1], .string s, .int .i64 i, .agg #[.int .i64 x, .int .i64 y, .int .i64 z]] w fun e w' => e = .returned (.tuple #[.int .i64 (stepTo nx ra), .int .i64 ((i : Int) + (((str a).length + 1 : Nat) : Int))]) ∧ Below w.heap.size w w' := by
  have IA := Lib.hid iha
  clear iha
  obtain ⟨hi, hch, hrest⟩ := drop_at hd
  have hi2 : (i : Int) < (s.size : Int) := by omega
  have HD := Lib.hid hrest
  clear hrest hd
  have hla := app_len HD.out (by omega)
  have hu := Try.underlying24
  have hu2 := Try.underlying71
  have HR0 := Lib.hid hr0
  have HR1 := Lib.hid hr1
  have hle := hr0.2.1
  have hle1 := hr1.2.1
  clear hr0 hr1
  go_enter Try.func51, Try.ntmps51
  go_wp2_with (first | ((with_reducible refine gate_dst (N := 4) rfl ?_); refine box_event ?hg (N := 4) ?hd (cs := #[.slice A0 nx.length c0, .slice A1 mk.length c1]) (t := 24) ?hr ?_; (case hd => rfl); (case hg => rfl); (case hr => first | (go_simp; done) | (go_simp; rfl)); intro gw hgw wb hbw hbb; have HGW := Lib.hid hbw; have HBW := Lib.hid (below_step (Below.refl w.heap.size w) hbb); have HGE := Lib.hid (Nat.le_of_eq hgw.symm); clear hgw hbw hbb) | ((with_reducible refine gate_dst (N := 7) rfl ?_); refine box_event ?hg (N := 7) ?hd (cs := #[.int .i64 x, .int .i64 y, .int .i64 z]) (t := 71) ?hr ?_; (case hd => rfl); (case hg => rfl); (case hr => first | (go_simp; done) | (go_simp; rfl)); intro gs hgs wc hbs hbb; have k0_ := Lib.hid (blk_below HGW.out hbb); have k1_ := Lib.hid (below_step HBW.out hbb); have HSE := Lib.hid (And.intro (Nat.le_trans HBW.out.size (Nat.le_of_eq hgs.symm)) (show gw ≠ gs from fun e => by have h1 := blk_lt HGW.out; omega)); clear HGW HBW; have HGW := k0_; have HBW := k1_; clear k0_ k1_; have HGS := Lib.hid hbs; have hw0 : wc.cell? ⟨gw, 0, none⟩ = some (.slice A0 nx.length c0) := (blk_cell HGW.out 0).trans rfl; have hw1 : wc.cell? ⟨gw, 1, none⟩ = some (.slice A1 mk.length c1) := (blk_cell HGW.out 1).trans rfl; have hs0 : wc.cell? ⟨gs, 0, none⟩ = some (.int .i64 x) := (blk_cell HGS.out 0).trans rfl; have hs1 : wc.cell? ⟨gs, 1, none⟩ = some (.int .i64 y) := (blk_cell HGS.out 1).trans rfl; have hs2 : wc.cell? ⟨gs, 2, none⟩ = some (.int .i64 z) := (blk_cell HGS.out 2).trans rfl; clear hgs hbs hbb) | fail)
  refine (PA.comfitref08_digit.calls ((60 : Nat) : Int) (-1) _ rfl).mono ?_
  rintro e wd ⟨rfl, hd⟩
  have j0_ := cell_drawn hd hw0
  have j1_ := cell_drawn hd hw1
  have j2_ := cell_drawn hd hs0
  have j3_ := cell_drawn hd hs1
  have j4_ := cell_drawn hd hs2
  have n0_ := Lib.hid (below_drawn HBW.out hd)
  clear hw0 hw1 hs0 hs1 hs2 HBW hd
  have hw0 := j0_
  have hw1 := j1_
  have hs0 := j2_
  have hs1 := j3_
  have hs2 := j4_
  have HBW := n0_
  clear j0_ j1_ j2_ j3_ j4_ n0_
  go_wp2_with fail
  refine (PA.comfitref08_letter.calls ((60 : Nat) : Int) (-1) _ rfl).mono ?_
  rintro e wd ⟨rfl, hd⟩
  have j0_ := cell_drawn hd hw0
  have j1_ := cell_drawn hd hw1
  have j2_ := cell_drawn hd hs0
  have j3_ := cell_drawn hd hs1
  have j4_ := cell_drawn hd hs2
  have n0_ := Lib.hid (below_drawn HBW.out hd)
  clear hw0 hw1 hs0 hs1 hs2 HBW hd
  have hw0 := j0_
  have hw1 := j1_
  have hs0 := j2_
  have hs1 := j3_
  have hs2 := j4_
  have HBW := n0_
  clear j0_ j1_ j2_ j3_ j4_ n0_
  go_wp2_with fail
  refine (IA.out A0 c0 A1 c1 s ((i : Int) + 1) (i + 1) _ _ (Kd.C_below HR0.out HBW.out) hc0 (Kd.C_below HR1.out HBW.out) hc1 hsz (by omega) HD.out).mono ?_
  rintro e w2 ⟨rfl, hb⟩
  have j0_ := pw_cell_below hb hw0
  have j1_ := pw_cell_below hb hw1
  have j2_ := pw_cell_below hb hs0
  have j3_ := pw_cell_below hb hs1
  have j4_ := pw_cell_below hb hs2
  have n0_ := Lib.hid (below_step HBW.out hb)
  clear hw0 hw1 hs0 hs1 hs2 HBW hb
  have hw0 := j0_
  have hw1 := j1_
  have hs0 := j2_
  have hs1 := j3_
  have hs2 := j4_
  have HBW := n0_
  clear j0_ j1_ j2_ j3_ j4_ n0_
  go_wp2_with fail
  go_loop [23, 156] (fun v i => ∃ k : Nat, k ≤ nx.length ∧ i = .int .i64 k ∧ v = .int .i64 (whereTo (fun k => bits .and .i64 (rd nx k) ra != 0) k)) (fun _ i => nx.length - (intOf i).toNat)
  case atStart => exact ⟨0, by omega, rfl, rfl⟩
  case round =>
    obtain ⟨k, hk, rfl, rfl⟩ := hrel
    by_cases hlt : k < nx.length
    · obtain ⟨b, off, hA, hbl, hc⟩ := ints_at (Kd.C_below HR0.out HBW.out) (by omega)
      subst hA
      have hx := hc k hlt
      clear hc
      cases hp : (bits .and .i64 (rd nx k) ra != 0)
      · have hp2 := Lib.hid hp
        go_wp2
        go_round
        case rel => exact ⟨k + 1, by omega, by go_num, by simp [whereTo, hp2.out]⟩
        case measure => simp [intOf]; omega
      · have hp2 := Lib.hid hp
        go_wp2
        go_round
        case rel => exact ⟨k + 1, by omega, by go_num, by simp [whereTo, hp2.out]⟩
        case measure => simp [intOf]; omega
    · obtain rfl : k = nx.length := by omega
      go_wp2
      go_ret2
      exact ⟨ret2_int rfl (by omega), HBW.out⟩

set_option maxRecDepth 100000 in
set_option maxHeartbeats 4000000 in
theorem rh_box (A0 : Option Addr) (c0 : Nat) (nx : List Int) (A1 : Option Addr) (c1 : Nat) (mk : List Int) (s : ByteArray) (i : Nat) (x y z : Int) (w : World) (hr0 : Kd.C (Kd.int .i64) w A0 nx.length nx) (hc0 : nx.length ≤ c0) (hr1 : Kd.C (Kd.int .i64) w A1 mk.length mk) (hc1 : mk.length ≤ c1) (hsz : s.size ≤ 1000000000) (a : Fm) (ra : Int) (l : List Nat) (hd : (cs s).drop i = 91 :: (str a ++ l)) (iha : RHoldsC nx mk a x y z ra) :
    Calls Try.prog 51 #[.agg #[.slice A0 nx.length c0, .slice A1 mk.length c1], .string s, .int .i64 i, .agg #[.int .i64 x, .int .i64 y, .int .i64 z]] w fun e w' => e = .returned (.tuple #[.int .i64 (boxTo nx ra), .int .i64 ((i : Int) + (((str a).length + 1 : Nat) : Int))]) ∧ Below w.heap.size w w' := by
  have IA := Lib.hid iha
  clear iha
  obtain ⟨hi, hch, hrest⟩ := drop_at hd
  have hi2 : (i : Int) < (s.size : Int) := by omega
  have HD := Lib.hid hrest
  clear hrest hd
  have hla := app_len HD.out (by omega)
  have hu := Try.underlying24
  have hu2 := Try.underlying71
  have HR0 := Lib.hid hr0
  have HR1 := Lib.hid hr1
  have hle := hr0.2.1
  have hle1 := hr1.2.1
  clear hr0 hr1
  go_enter Try.func51, Try.ntmps51
  go_wp2_with (first | ((with_reducible refine gate_dst (N := 4) rfl ?_); refine box_event ?hg (N := 4) ?hd (cs := #[.slice A0 nx.length c0, .slice A1 mk.length c1]) (t := 24) ?hr ?_; (case hd => rfl); (case hg => rfl); (case hr => first | (go_simp; done) | (go_simp; rfl)); intro gw hgw wb hbw hbb; have HGW := Lib.hid hbw; have HBW := Lib.hid (below_step (Below.refl w.heap.size w) hbb); have HGE := Lib.hid (Nat.le_of_eq hgw.symm); clear hgw hbw hbb) | ((with_reducible refine gate_dst (N := 7) rfl ?_); refine box_event ?hg (N := 7) ?hd (cs := #[.int .i64 x, .int .i64 y, .int .i64 z]) (t := 71) ?hr ?_; (case hd => rfl); (case hg => rfl); (case hr => first | (go_simp; done) | (go_simp; rfl)); intro gs hgs wc hbs hbb; have k0_ := Lib.hid (blk_below HGW.out hbb); have k1_ := Lib.hid (below_step HBW.out hbb); have HSE := Lib.hid (And.intro (Nat.le_trans HBW.out.size (Nat.le_of_eq hgs.symm)) (show gw ≠ gs from fun e => by have h1 := blk_lt HGW.out; omega)); clear HGW HBW; have HGW := k0_; have HBW := k1_; clear k0_ k1_; have HGS := Lib.hid hbs; have hw0 : wc.cell? ⟨gw, 0, none⟩ = some (.slice A0 nx.length c0) := (blk_cell HGW.out 0).trans rfl; have hw1 : wc.cell? ⟨gw, 1, none⟩ = some (.slice A1 mk.length c1) := (blk_cell HGW.out 1).trans rfl; have hs0 : wc.cell? ⟨gs, 0, none⟩ = some (.int .i64 x) := (blk_cell HGS.out 0).trans rfl; have hs1 : wc.cell? ⟨gs, 1, none⟩ = some (.int .i64 y) := (blk_cell HGS.out 1).trans rfl; have hs2 : wc.cell? ⟨gs, 2, none⟩ = some (.int .i64 z) := (blk_cell HGS.out 2).trans rfl; clear hgs hbs hbb) | fail)
  refine (PA.comfitref08_digit.calls ((91 : Nat) : Int) (-1) _ rfl).mono ?_
  rintro e wd ⟨rfl, hd⟩
  have j0_ := cell_drawn hd hw0
  have j1_ := cell_drawn hd hw1
  have j2_ := cell_drawn hd hs0
  have j3_ := cell_drawn hd hs1
  have j4_ := cell_drawn hd hs2
  have n0_ := Lib.hid (below_drawn HBW.out hd)
  clear hw0 hw1 hs0 hs1 hs2 HBW hd
  have hw0 := j0_
  have hw1 := j1_
  have hs0 := j2_
  have hs1 := j3_
  have hs2 := j4_
  have HBW := n0_
  clear j0_ j1_ j2_ j3_ j4_ n0_
  go_wp2_with fail
  refine (PA.comfitref08_letter.calls ((91 : Nat) : Int) (-1) _ rfl).mono ?_
  rintro e wd ⟨rfl, hd⟩
  have j0_ := cell_drawn hd hw0
  have j1_ := cell_drawn hd hw1
  have j2_ := cell_drawn hd hs0
  have j3_ := cell_drawn hd hs1
  have j4_ := cell_drawn hd hs2
  have n0_ := Lib.hid (below_drawn HBW.out hd)
  clear hw0 hw1 hs0 hs1 hs2 HBW hd
  have hw0 := j0_
  have hw1 := j1_
  have hs0 := j2_
  have hs1 := j3_
  have hs2 := j4_
  have HBW := n0_
  clear j0_ j1_ j2_ j3_ j4_ n0_
  go_wp2_with fail
  refine (IA.out A0 c0 A1 c1 s ((i : Int) + 1) (i + 1) _ _ (Kd.C_below HR0.out HBW.out) hc0 (Kd.C_below HR1.out HBW.out) hc1 hsz (by omega) HD.out).mono ?_
  rintro e w2 ⟨rfl, hb⟩
  have j0_ := pw_cell_below hb hw0
  have j1_ := pw_cell_below hb hw1
  have j2_ := pw_cell_below hb hs0
  have j3_ := pw_cell_below hb hs1
  have j4_ := pw_cell_below hb hs2
  have n0_ := Lib.hid (below_step HBW.out hb)
  clear hw0 hw1 hs0 hs1 hs2 HBW hb
  have hw0 := j0_
  have hw1 := j1_
  have hs0 := j2_
  have hs1 := j3_
  have hs2 := j4_
  have HBW := n0_
  clear j0_ j1_ j2_ j3_ j4_ n0_
  go_wp2_with fail
  go_loop [23, 156] (fun v i => ∃ k : Nat, k ≤ nx.length ∧ i = .int .i64 k ∧ v = .int .i64 (whereTo (fun k => bits .andNot .i64 (rd nx k) ra == 0) k)) (fun _ i => nx.length - (intOf i).toNat)
  case atStart => exact ⟨0, by omega, rfl, rfl⟩
  case round =>
    obtain ⟨k, hk, rfl, rfl⟩ := hrel
    by_cases hlt : k < nx.length
    · obtain ⟨b, off, hA, hbl, hc⟩ := ints_at (Kd.C_below HR0.out HBW.out) (by omega)
      subst hA
      have hx := hc k hlt
      clear hc
      cases hp : (bits .andNot .i64 (rd nx k) ra == 0)
      · have hp2 := Lib.hid hp
        go_wp2
        go_round
        case rel => exact ⟨k + 1, by omega, by go_num, by simp [whereTo, hp2.out]⟩
        case measure => simp [intOf]; omega
      · have hp2 := Lib.hid hp
        go_wp2
        go_round
        case rel => exact ⟨k + 1, by omega, by go_num, by simp [whereTo, hp2.out]⟩
        case measure => simp [intOf]; omega
    · obtain rfl : k = nx.length := by omega
      go_wp2
      go_ret2
      exact ⟨ret2_int rfl (by omega), HBW.out⟩

end Go.Proofs.Ytjffhhalmicodaa.X
