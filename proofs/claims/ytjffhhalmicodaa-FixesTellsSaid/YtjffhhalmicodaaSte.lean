/- Texts of this claim, merged by a program (wip/tools/shake.py); what nothing names is left out. -/
import Derived.Laws.BitsLemmas
import Derived.KernelRfl
import Derived.Laws.StructEq
import Derived.Laws.Cover2
import Derived.Test.YtjffhhalmicodaaProg
import Derived.Below
import Derived.Deep.Draws
import Derived.Deep.AppendLies
import Derived.Maps.AppendAt
import Derived.OwnWalk
import Derived.Laws.BytesArg
import Derived.Laws.MakeOwn
import Derived.Laws.OwnMore
import Derived.Deep.OwnRows
import Derived.Tactics
import Derived.Lib.ConvBytes
import Derived.Laws.Slices
import Derived.WalkKit
import Derived.RowKit3
import Derived.Deep.LoopGhost
import Derived.Deep.QuietTactic
import Derived.BigQuiet
import Derived.WideLaws
import Derived.Deep.DeepCutAuto
import Derived.Deep.CutBlock
import Derived.Deep.RegionHeld3
import Derived.Laws.Rows
import Derived.Lib.AppendStr
import Derived.ArgAppend
import Derived.Laws.IdiomCopy
import Derived.OrdersHeld
import Derived.RowKit
import Derived.Test.YtjffhhalmicodaaStd
section
set_option linter.unusedVariables false
set_option linter.unusedSimpArgs false
namespace Go.Proofs.Ytjffhhalmicodaa.X
open Go.RowKit Go.Proofs.G.PrintWords Go.Proofs.G.PrintLast Go.Proofs.G.PrintMore
theorem allOf_eq (nx : List Int) : allOf nx = wrap64 (wrap64 (2 ^ min nx.length 64) - 1) := by
  unfold allOf shl
  rw [i64_w, Int.one_mul]
  rfl
theorem cell_drawn {w w' : World} (h : Drawn0 w w') {a : Addr} {v : Value} (hc : w.cell? a = some v) : w'.cell? a = some v := by
  obtain ⟨⟨q, rfl⟩⟩ := h
  exact hc
theorem below_drawn {B : Nat} {w W W' : World} (h : Below B w W) (hd : Drawn0 W W') : Below B w W' := by
  obtain ⟨⟨q, rfl⟩⟩ := hd
  exact ⟨h.os, h.tape, h.output, h.size, h.block⟩
theorem drop_at {s : ByteArray} {i c : Nat} {l : List Nat} (h : (cs s).drop i = c :: l) : i < s.size ∧ (∀ hh : i < s.size, ((s[i]'hh).toNat : Int) = (c : Int)) ∧ (cs s).drop (i + 1) = l := by
 have hlt : i < s.size := by
  rcases Nat.lt_or_ge i s.size with h1 | h1
  ·exact h1
  ·rw [List.drop_eq_nil_of_le (by rw [cs_length]; exact h1)] at h
   cases h
 refine ⟨hlt, fun hh => ?_, ?_⟩
 ·have h1 : (cs s)[i]? = some c := by
   have := congrArg (fun l => l[0]?) h
   simpa using this
  unfold cs at h1
  rw [List.getElem?_map] at h1
  have h2 : s.data.toList[i]? = some (s[i]'hh) := by
   rw [Array.getElem?_toList]
   exact Array.getElem?_eq_getElem (xs := s.data) hh
  rw [h2] at h1
  simp only [Option.map_some, Option.some.injEq] at h1
  omega
 ·have := congrArg List.tail h
  simpa using this
set_option maxRecDepth 100000 in
set_option maxHeartbeats 4000000 in
theorem rh_t (A0 : Option Addr) (c0 : Nat) (nx : List Int) (A1 : Option Addr) (c1 : Nat) (mk : List Int) (s : ByteArray) (i : Nat) (x y z : Int) (w : World) (hr0 : Kd.C (Kd.int .i64) w A0 nx.length nx) (hc0 : nx.length ≤ c0) (hr1 : Kd.C (Kd.int .i64) w A1 mk.length mk) (hc1 : mk.length ≤ c1) (hsz : s.size ≤ 1000000000) (l : List Nat) (hd : (cs s).drop i = 116 :: l) :
    Calls Try.prog 51 #[.agg #[.slice A0 nx.length c0, .slice A1 mk.length c1], .string s, .int .i64 i, .agg #[.int .i64 x, .int .i64 y, .int .i64 z]] w fun e w' => e = .returned (.tuple #[.int .i64 (allOf nx), .int .i64 ((i : Int) + 1)]) ∧ Below w.heap.size w w' := by
  obtain ⟨hi, hch, hrest⟩ := drop_at hd
  have hi2 : (i : Int) < (s.size : Int) := by omega
  have HD := Lib.hid hrest
  clear hrest hd
  have hu := Try.underlying24
  have hu2 := Try.underlying71
  have HR0 := Lib.hid hr0
  have HR1 := Lib.hid hr1
  have hle := hr0.2.1
  have hle1 := hr1.2.1
  clear hr0 hr1
  go_enter Try.func51, Try.ntmps51
  go_wp2_with (first | ((with_reducible refine gate_dst (N := 4) rfl ?_); refine box_event ?hg (N := 4) ?hd (cs := #[.slice A0 nx.length c0, .slice A1 mk.length c1]) (t := 24) ?hr ?_; (case hd => rfl); (case hg => rfl); (case hr => first | (go_simp; done) | (go_simp; rfl)); intro gw hgw wb hbw hbb; have HGW := Lib.hid hbw; have HBW := Lib.hid (bst (Below.refl w.heap.size w) hbb); have HGE := Lib.hid (Nat.le_of_eq hgw.symm); clear hgw hbw hbb) | ((with_reducible refine gate_dst (N := 7) rfl ?_); refine box_event ?hg (N := 7) ?hd (cs := #[.int .i64 x, .int .i64 y, .int .i64 z]) (t := 71) ?hr ?_; (case hd => rfl); (case hg => rfl); (case hr => first | (go_simp; done) | (go_simp; rfl)); intro gs hgs wc hbs hbb; have k0_ := Lib.hid (blk_below HGW.out hbb); have k1_ := Lib.hid (bst HBW.out hbb); have HSE := Lib.hid (And.intro (Nat.le_trans HBW.out.size (Nat.le_of_eq hgs.symm)) (show gw ≠ gs from fun e => by have h1 := blk_lt HGW.out; omega)); clear HGW HBW; have HGW := k0_; have HBW := k1_; clear k0_ k1_; have HGS := Lib.hid hbs; have hw0 : wc.cell? ⟨gw, 0, none⟩ = some (.slice A0 nx.length c0) := (blk_cell HGW.out 0).trans rfl; have hw1 : wc.cell? ⟨gw, 1, none⟩ = some (.slice A1 mk.length c1) := (blk_cell HGW.out 1).trans rfl; have hs0 : wc.cell? ⟨gs, 0, none⟩ = some (.int .i64 x) := (blk_cell HGS.out 0).trans rfl; have hs1 : wc.cell? ⟨gs, 1, none⟩ = some (.int .i64 y) := (blk_cell HGS.out 1).trans rfl; have hs2 : wc.cell? ⟨gs, 2, none⟩ = some (.int .i64 z) := (blk_cell HGS.out 2).trans rfl; clear hgs hbs hbb) | fail)
  go_ret2
  exact ⟨by first | rfl | (rw [allOf_eq]; rfl), HBW.out⟩
set_option maxRecDepth 100000 in
set_option maxHeartbeats 4000000 in
theorem rh_f (A0 : Option Addr) (c0 : Nat) (nx : List Int) (A1 : Option Addr) (c1 : Nat) (mk : List Int) (s : ByteArray) (i : Nat) (x y z : Int) (w : World) (hr0 : Kd.C (Kd.int .i64) w A0 nx.length nx) (hc0 : nx.length ≤ c0) (hr1 : Kd.C (Kd.int .i64) w A1 mk.length mk) (hc1 : mk.length ≤ c1) (hsz : s.size ≤ 1000000000) (l : List Nat) (hd : (cs s).drop i = 102 :: l) :
    Calls Try.prog 51 #[.agg #[.slice A0 nx.length c0, .slice A1 mk.length c1], .string s, .int .i64 i, .agg #[.int .i64 x, .int .i64 y, .int .i64 z]] w fun e w' => e = .returned (.tuple #[.int .i64 (0), .int .i64 ((i : Int) + 1)]) ∧ Below w.heap.size w w' := by
  obtain ⟨hi, hch, hrest⟩ := drop_at hd
  have hi2 : (i : Int) < (s.size : Int) := by omega
  have HD := Lib.hid hrest
  clear hrest hd
  have hu := Try.underlying24
  have hu2 := Try.underlying71
  have HR0 := Lib.hid hr0
  have HR1 := Lib.hid hr1
  have hle := hr0.2.1
  have hle1 := hr1.2.1
  clear hr0 hr1
  go_enter Try.func51, Try.ntmps51
  go_wp2_with (first | ((with_reducible refine gate_dst (N := 4) rfl ?_); refine box_event ?hg (N := 4) ?hd (cs := #[.slice A0 nx.length c0, .slice A1 mk.length c1]) (t := 24) ?hr ?_; (case hd => rfl); (case hg => rfl); (case hr => first | (go_simp; done) | (go_simp; rfl)); intro gw hgw wb hbw hbb; have HGW := Lib.hid hbw; have HBW := Lib.hid (bst (Below.refl w.heap.size w) hbb); have HGE := Lib.hid (Nat.le_of_eq hgw.symm); clear hgw hbw hbb) | ((with_reducible refine gate_dst (N := 7) rfl ?_); refine box_event ?hg (N := 7) ?hd (cs := #[.int .i64 x, .int .i64 y, .int .i64 z]) (t := 71) ?hr ?_; (case hd => rfl); (case hg => rfl); (case hr => first | (go_simp; done) | (go_simp; rfl)); intro gs hgs wc hbs hbb; have k0_ := Lib.hid (blk_below HGW.out hbb); have k1_ := Lib.hid (bst HBW.out hbb); have HSE := Lib.hid (And.intro (Nat.le_trans HBW.out.size (Nat.le_of_eq hgs.symm)) (show gw ≠ gs from fun e => by have h1 := blk_lt HGW.out; omega)); clear HGW HBW; have HGW := k0_; have HBW := k1_; clear k0_ k1_; have HGS := Lib.hid hbs; have hw0 : wc.cell? ⟨gw, 0, none⟩ = some (.slice A0 nx.length c0) := (blk_cell HGW.out 0).trans rfl; have hw1 : wc.cell? ⟨gw, 1, none⟩ = some (.slice A1 mk.length c1) := (blk_cell HGW.out 1).trans rfl; have hs0 : wc.cell? ⟨gs, 0, none⟩ = some (.int .i64 x) := (blk_cell HGS.out 0).trans rfl; have hs1 : wc.cell? ⟨gs, 1, none⟩ = some (.int .i64 y) := (blk_cell HGS.out 1).trans rfl; have hs2 : wc.cell? ⟨gs, 2, none⟩ = some (.int .i64 z) := (blk_cell HGS.out 2).trans rfl; clear hgs hbs hbb) | fail)
  go_ret2
  exact ⟨by first | rfl | (rw [allOf_eq]; rfl), HBW.out⟩
def rmarkTo (mk : List Int) (j : Nat) : Nat → Int
  | 0 => 0
  | n + 1 => bits .or .i64 (rmarkTo mk j n) (wrap64 (bits .and .i64 (rd mk n / 2 ^ j) 1 * 2 ^ min n 64))
set_option maxRecDepth 100000 in
set_option maxHeartbeats 4000000 in
theorem rh_mark (A0 : Option Addr) (c0 : Nat) (nx : List Int) (A1 : Option Addr) (c1 : Nat) (mk : List Int) (s : ByteArray) (i : Nat) (x y z : Int) (w : World) (hr0 : Kd.C (Kd.int .i64) w A0 nx.length nx) (hc0 : nx.length ≤ c0) (hr1 : Kd.C (Kd.int .i64) w A1 mk.length mk) (hc1 : mk.length ≤ c1) (hsz : s.size ≤ 1000000000) (j : Nat) (hj : j ≤ 3) (l : List Nat) (hd : (cs s).drop i = (48 + j) :: l) :
    Calls Try.prog 51 #[.agg #[.slice A0 nx.length c0, .slice A1 mk.length c1], .string s, .int .i64 i, .agg #[.int .i64 x, .int .i64 y, .int .i64 z]] w fun e w' => e = .returned (.tuple #[.int .i64 (rmarkTo mk j mk.length), .int .i64 ((i : Int) + 1)]) ∧ Below w.heap.size w w' := by
  obtain ⟨c, hcj⟩ : ∃ c, c = 48 + j := ⟨_, rfl⟩
  rw [← hcj] at hd
  have hc1 : 48 ≤ c := by omega
  have hc2 : c ≤ 51 := by omega
  have HJ := Lib.hid hcj
  clear hcj
  obtain ⟨hi, hch, hrest⟩ := drop_at hd
  have hi2 : (i : Int) < (s.size : Int) := by omega
  have HD := Lib.hid hrest
  clear hrest hd
  have hu := Try.underlying24
  have hu2 := Try.underlying71
  have HR0 := Lib.hid hr0
  have HR1 := Lib.hid hr1
  have hle := hr0.2.1
  have hle1 := hr1.2.1
  clear hr0 hr1
  go_enter Try.func51, Try.ntmps51
  go_wp2_with (first | ((with_reducible refine gate_dst (N := 4) rfl ?_); refine box_event ?hg (N := 4) ?hd (cs := #[.slice A0 nx.length c0, .slice A1 mk.length c1]) (t := 24) ?hr ?_; (case hd => rfl); (case hg => rfl); (case hr => first | (go_simp; done) | (go_simp; rfl)); intro gw hgw wb hbw hbb; have HGW := Lib.hid hbw; have HBW := Lib.hid (bst (Below.refl w.heap.size w) hbb); have HGE := Lib.hid (Nat.le_of_eq hgw.symm); clear hgw hbw hbb) | ((with_reducible refine gate_dst (N := 7) rfl ?_); refine box_event ?hg (N := 7) ?hd (cs := #[.int .i64 x, .int .i64 y, .int .i64 z]) (t := 71) ?hr ?_; (case hd => rfl); (case hg => rfl); (case hr => first | (go_simp; done) | (go_simp; rfl)); intro gs hgs wc hbs hbb; have k0_ := Lib.hid (blk_below HGW.out hbb); have k1_ := Lib.hid (bst HBW.out hbb); have HSE := Lib.hid (And.intro (Nat.le_trans HBW.out.size (Nat.le_of_eq hgs.symm)) (show gw ≠ gs from fun e => by have h1 := blk_lt HGW.out; omega)); clear HGW HBW; have HGW := k0_; have HBW := k1_; clear k0_ k1_; have HGS := Lib.hid hbs; have hw0 : wc.cell? ⟨gw, 0, none⟩ = some (.slice A0 nx.length c0) := (blk_cell HGW.out 0).trans rfl; have hw1 : wc.cell? ⟨gw, 1, none⟩ = some (.slice A1 mk.length c1) := (blk_cell HGW.out 1).trans rfl; have hs0 : wc.cell? ⟨gs, 0, none⟩ = some (.int .i64 x) := (blk_cell HGS.out 0).trans rfl; have hs1 : wc.cell? ⟨gs, 1, none⟩ = some (.int .i64 y) := (blk_cell HGS.out 1).trans rfl; have hs2 : wc.cell? ⟨gs, 2, none⟩ = some (.int .i64 z) := (blk_cell HGS.out 2).trans rfl; clear hgs hbs hbb) | fail)
  refine (PA.r8digit.calls (c : Int) (j : Int) _ (by have := HJ.out; unfold PA.r8digit.f; rw [if_pos (by omega), if_pos (by omega)]; congr 1; omega)).mono ?_
  rintro e wd ⟨rfl, hd⟩
  have j0_ := cell_drawn hd hw0
  have j1_ := cell_drawn hd hw1
  have j2_ := cell_drawn hd hs0
  have j3_ := cell_drawn hd hs1
  have j4_ := cell_drawn hd hs2
  have n0_ := Lib.hid (below_drawn HBW.out hd)
  clear hw0 hw1 hs0 hs1 hs2 HBW hd
  have hw0 := j0_
  have hw1 := j1_
  have hs0 := j2_
  have hs1 := j3_
  have hs2 := j4_
  have HBW := n0_
  clear j0_ j1_ j2_ j3_ j4_ n0_
  go_wp2_with fail
  refine (PA.r8digit.calls (c : Int) (j : Int) _ (by have := HJ.out; unfold PA.r8digit.f; rw [if_pos (by omega), if_pos (by omega)]; congr 1; omega)).mono ?_
  rintro e wd ⟨rfl, hd⟩
  have j0_ := cell_drawn hd hw0
  have j1_ := cell_drawn hd hw1
  have j2_ := cell_drawn hd hs0
  have j3_ := cell_drawn hd hs1
  have j4_ := cell_drawn hd hs2
  have n0_ := Lib.hid (below_drawn HBW.out hd)
  clear hw0 hw1 hs0 hs1 hs2 HBW hd
  have hw0 := j0_
  have hw1 := j1_
  have hs0 := j2_
  have hs1 := j3_
  have hs2 := j4_
  have HBW := n0_
  clear j0_ j1_ j2_ j3_ j4_ n0_
  go_wp2_with fail
  go_loop [13, 69] (fun v i => ∃ k : Nat, k ≤ mk.length ∧ i = .int .i64 k ∧ v = .int .i64 (rmarkTo mk j k)) (fun _ i => mk.length - (intOf i).toNat)
  case atStart => exact ⟨0, by omega, rfl, rfl⟩
  case round =>
    obtain ⟨k, hk, rfl, rfl⟩ := hrel
    by_cases hlt : k < mk.length
    · obtain ⟨b, off, hA, hbl, hc⟩ := ints_at (Kd.C_below HR1.out HBW.out) (by omega)
      subst hA
      have hx := hc k hlt
      clear hc
      go_wp2
      go_round
      case rel => exact ⟨k + 1, by omega, by go_num, by first | rfl | simp [rmarkTo]⟩
      case measure => simp [intOf]; omega
    · obtain rfl : k = mk.length := by omega
      go_wp2
      go_ret2
      exact ⟨by first | rfl | (rw [allOf_eq]; rfl), HBW.out⟩
set_option maxRecDepth 100000 in
set_option maxHeartbeats 4000000 in
theorem rh_neg (A0 : Option Addr) (c0 : Nat) (nx : List Int) (A1 : Option Addr) (c1 : Nat) (mk : List Int) (s : ByteArray) (i : Nat) (x y z : Int) (w : World) (hr0 : Kd.C (Kd.int .i64) w A0 nx.length nx) (hc0 : nx.length ≤ c0) (hr1 : Kd.C (Kd.int .i64) w A1 mk.length mk) (hc1 : mk.length ≤ c1) (hsz : s.size ≤ 1000000000) (j : Nat) (hj : j ≤ 3) (l : List Nat) (hd : (cs s).drop i = 45 :: (48 + j) :: l) :
    Calls Try.prog 51 #[.agg #[.slice A0 nx.length c0, .slice A1 mk.length c1], .string s, .int .i64 i, .agg #[.int .i64 x, .int .i64 y, .int .i64 z]] w fun e w' => e = .returned (.tuple #[.int .i64 (bits .andNot .i64 (allOf nx) (rmarkTo mk j mk.length)), .int .i64 ((i : Int) + 2)]) ∧ Below w.heap.size w w' := by
  obtain ⟨c, hcj⟩ : ∃ c, c = 48 + j := ⟨_, rfl⟩
  rw [← hcj] at hd
  have hc1 : 48 ≤ c := by omega
  have hc2 : c ≤ 51 := by omega
  have HJ := Lib.hid hcj
  clear hcj
  obtain ⟨hi, hch, hrest⟩ := drop_at hd
  have hi2 : (i : Int) < (s.size : Int) := by omega
  have HD := Lib.hid hrest
  clear hrest hd
  obtain ⟨hi3, hch2, hrest2⟩ := drop_at HD.out
  have hi4 : (i : Int) + 1 < (s.size : Int) := by omega
  clear HD hrest2
  have hu := Try.underlying24
  have hu2 := Try.underlying71
  have HR0 := Lib.hid hr0
  have HR1 := Lib.hid hr1
  have hle := hr0.2.1
  have hle1 := hr1.2.1
  clear hr0 hr1
  go_enter Try.func51, Try.ntmps51
  go_wp2_with (first | ((with_reducible refine gate_dst (N := 4) rfl ?_); refine box_event ?hg (N := 4) ?hd (cs := #[.slice A0 nx.length c0, .slice A1 mk.length c1]) (t := 24) ?hr ?_; (case hd => rfl); (case hg => rfl); (case hr => first | (go_simp; done) | (go_simp; rfl)); intro gw hgw wb hbw hbb; have HGW := Lib.hid hbw; have HBW := Lib.hid (bst (Below.refl w.heap.size w) hbb); have HGE := Lib.hid (Nat.le_of_eq hgw.symm); clear hgw hbw hbb) | ((with_reducible refine gate_dst (N := 7) rfl ?_); refine box_event ?hg (N := 7) ?hd (cs := #[.int .i64 x, .int .i64 y, .int .i64 z]) (t := 71) ?hr ?_; (case hd => rfl); (case hg => rfl); (case hr => first | (go_simp; done) | (go_simp; rfl)); intro gs hgs wc hbs hbb; have k0_ := Lib.hid (blk_below HGW.out hbb); have k1_ := Lib.hid (bst HBW.out hbb); have HSE := Lib.hid (And.intro (Nat.le_trans HBW.out.size (Nat.le_of_eq hgs.symm)) (show gw ≠ gs from fun e => by have h1 := blk_lt HGW.out; omega)); clear HGW HBW; have HGW := k0_; have HBW := k1_; clear k0_ k1_; have HGS := Lib.hid hbs; have hw0 : wc.cell? ⟨gw, 0, none⟩ = some (.slice A0 nx.length c0) := (blk_cell HGW.out 0).trans rfl; have hw1 : wc.cell? ⟨gw, 1, none⟩ = some (.slice A1 mk.length c1) := (blk_cell HGW.out 1).trans rfl; have hs0 : wc.cell? ⟨gs, 0, none⟩ = some (.int .i64 x) := (blk_cell HGS.out 0).trans rfl; have hs1 : wc.cell? ⟨gs, 1, none⟩ = some (.int .i64 y) := (blk_cell HGS.out 1).trans rfl; have hs2 : wc.cell? ⟨gs, 2, none⟩ = some (.int .i64 z) := (blk_cell HGS.out 2).trans rfl; clear hgs hbs hbb) | fail)
  refine (PA.r8digit.calls ((45 : Nat) : Int) (-1) _ rfl).mono ?_
  rintro e wd ⟨rfl, hd⟩
  have j0_ := cell_drawn hd hw0
  have j1_ := cell_drawn hd hw1
  have j2_ := cell_drawn hd hs0
  have j3_ := cell_drawn hd hs1
  have j4_ := cell_drawn hd hs2
  have n0_ := Lib.hid (below_drawn HBW.out hd)
  clear hw0 hw1 hs0 hs1 hs2 HBW hd
  have hw0 := j0_
  have hw1 := j1_
  have hs0 := j2_
  have hs1 := j3_
  have hs2 := j4_
  have HBW := n0_
  clear j0_ j1_ j2_ j3_ j4_ n0_
  go_wp2_with fail
  refine (PA.r8digit.calls ((45 : Nat) : Int) (-1) _ rfl).mono ?_
  rintro e wd ⟨rfl, hd⟩
  have j0_ := cell_drawn hd hw0
  have j1_ := cell_drawn hd hw1
  have j2_ := cell_drawn hd hs0
  have j3_ := cell_drawn hd hs1
  have j4_ := cell_drawn hd hs2
  have n0_ := Lib.hid (below_drawn HBW.out hd)
  clear hw0 hw1 hs0 hs1 hs2 HBW hd
  have hw0 := j0_
  have hw1 := j1_
  have hs0 := j2_
  have hs1 := j3_
  have hs2 := j4_
  have HBW := n0_
  clear j0_ j1_ j2_ j3_ j4_ n0_
  go_wp2_with fail
  refine (PA.r8digit.calls (c : Int) (j : Int) _ (by have := HJ.out; unfold PA.r8digit.f; rw [if_pos (by omega), if_pos (by omega)]; congr 1; omega)).mono ?_
  rintro e wd ⟨rfl, hd⟩
  have j0_ := cell_drawn hd hw0
  have j1_ := cell_drawn hd hw1
  have j2_ := cell_drawn hd hs0
  have j3_ := cell_drawn hd hs1
  have j4_ := cell_drawn hd hs2
  have n0_ := Lib.hid (below_drawn HBW.out hd)
  clear hw0 hw1 hs0 hs1 hs2 HBW hd
  have hw0 := j0_
  have hw1 := j1_
  have hs0 := j2_
  have hs1 := j3_
  have hs2 := j4_
  have HBW := n0_
  clear j0_ j1_ j2_ j3_ j4_ n0_
  go_wp2_with fail
  go_loop [13, 69] (fun v i => ∃ k : Nat, k ≤ mk.length ∧ i = .int .i64 k ∧ v = .int .i64 (rmarkTo mk j k)) (fun _ i => mk.length - (intOf i).toNat)
  case atStart => exact ⟨0, by omega, rfl, rfl⟩
  case round =>
    obtain ⟨k, hk, rfl, rfl⟩ := hrel
    by_cases hlt : k < mk.length
    · obtain ⟨b, off, hA, hbl, hc⟩ := ints_at (Kd.C_below HR1.out HBW.out) (by omega)
      subst hA
      have hx := hc k hlt
      clear hc
      go_wp2
      go_round
      case rel => exact ⟨k + 1, by omega, by go_num, by first | rfl | simp [rmarkTo]⟩
      case measure => simp [intOf]; omega
    · obtain rfl : k = mk.length := by omega
      go_wp2
      go_ret2
      exact ⟨by first | rfl | (rw [allOf_eq]; rfl), HBW.out⟩
set_option maxRecDepth 100000 in
set_option maxHeartbeats 4000000 in
theorem rh_var120 (A0 : Option Addr) (c0 : Nat) (nx : List Int) (A1 : Option Addr) (c1 : Nat) (mk : List Int) (s : ByteArray) (i : Nat) (x y z : Int) (w : World) (hr0 : Kd.C (Kd.int .i64) w A0 nx.length nx) (hc0 : nx.length ≤ c0) (hr1 : Kd.C (Kd.int .i64) w A1 mk.length mk) (hc1 : mk.length ≤ c1) (hsz : s.size ≤ 1000000000) (l : List Nat) (hd : (cs s).drop i = 120 :: l) :
    Calls Try.prog 51 #[.agg #[.slice A0 nx.length c0, .slice A1 mk.length c1], .string s, .int .i64 i, .agg #[.int .i64 x, .int .i64 y, .int .i64 z]] w fun e w' => e = .returned (.tuple #[.int .i64 (x), .int .i64 ((i : Int) + 1)]) ∧ Below w.heap.size w w' := by
  obtain ⟨hi, hch, hrest⟩ := drop_at hd
  have hi2 : (i : Int) < (s.size : Int) := by omega
  have HD := Lib.hid hrest
  clear hrest hd
  have hu := Try.underlying24
  have hu2 := Try.underlying71
  have HR0 := Lib.hid hr0
  have HR1 := Lib.hid hr1
  have hle := hr0.2.1
  have hle1 := hr1.2.1
  clear hr0 hr1
  go_enter Try.func51, Try.ntmps51
  go_wp2_with (first | ((with_reducible refine gate_dst (N := 4) rfl ?_); refine box_event ?hg (N := 4) ?hd (cs := #[.slice A0 nx.length c0, .slice A1 mk.length c1]) (t := 24) ?hr ?_; (case hd => rfl); (case hg => rfl); (case hr => first | (go_simp; done) | (go_simp; rfl)); intro gw hgw wb hbw hbb; have HGW := Lib.hid hbw; have HBW := Lib.hid (bst (Below.refl w.heap.size w) hbb); have HGE := Lib.hid (Nat.le_of_eq hgw.symm); clear hgw hbw hbb) | ((with_reducible refine gate_dst (N := 7) rfl ?_); refine box_event ?hg (N := 7) ?hd (cs := #[.int .i64 x, .int .i64 y, .int .i64 z]) (t := 71) ?hr ?_; (case hd => rfl); (case hg => rfl); (case hr => first | (go_simp; done) | (go_simp; rfl)); intro gs hgs wc hbs hbb; have k0_ := Lib.hid (blk_below HGW.out hbb); have k1_ := Lib.hid (bst HBW.out hbb); have HSE := Lib.hid (And.intro (Nat.le_trans HBW.out.size (Nat.le_of_eq hgs.symm)) (show gw ≠ gs from fun e => by have h1 := blk_lt HGW.out; omega)); clear HGW HBW; have HGW := k0_; have HBW := k1_; clear k0_ k1_; have HGS := Lib.hid hbs; have hw0 : wc.cell? ⟨gw, 0, none⟩ = some (.slice A0 nx.length c0) := (blk_cell HGW.out 0).trans rfl; have hw1 : wc.cell? ⟨gw, 1, none⟩ = some (.slice A1 mk.length c1) := (blk_cell HGW.out 1).trans rfl; have hs0 : wc.cell? ⟨gs, 0, none⟩ = some (.int .i64 x) := (blk_cell HGS.out 0).trans rfl; have hs1 : wc.cell? ⟨gs, 1, none⟩ = some (.int .i64 y) := (blk_cell HGS.out 1).trans rfl; have hs2 : wc.cell? ⟨gs, 2, none⟩ = some (.int .i64 z) := (blk_cell HGS.out 2).trans rfl; clear hgs hbs hbb) | fail)
  refine (PA.r8digit.calls ((120 : Nat) : Int) (-1) _ rfl).mono ?_
  rintro e wd ⟨rfl, hd⟩
  have j0_ := cell_drawn hd hw0
  have j1_ := cell_drawn hd hw1
  have j2_ := cell_drawn hd hs0
  have j3_ := cell_drawn hd hs1
  have j4_ := cell_drawn hd hs2
  have n0_ := Lib.hid (below_drawn HBW.out hd)
  clear hw0 hw1 hs0 hs1 hs2 HBW hd
  have hw0 := j0_
  have hw1 := j1_
  have hs0 := j2_
  have hs1 := j3_
  have hs2 := j4_
  have HBW := n0_
  clear j0_ j1_ j2_ j3_ j4_ n0_
  go_wp2_with fail
  refine (PA.r8letter.calls ((120 : Nat) : Int) 0 _ rfl).mono ?_
  rintro e wd ⟨rfl, hd⟩
  have j0_ := cell_drawn hd hw0
  have j1_ := cell_drawn hd hw1
  have j2_ := cell_drawn hd hs0
  have j3_ := cell_drawn hd hs1
  have j4_ := cell_drawn hd hs2
  have n0_ := Lib.hid (below_drawn HBW.out hd)
  clear hw0 hw1 hs0 hs1 hs2 HBW hd
  have hw0 := j0_
  have hw1 := j1_
  have hs0 := j2_
  have hs1 := j3_
  have hs2 := j4_
  have HBW := n0_
  clear j0_ j1_ j2_ j3_ j4_ n0_
  go_wp2_with fail
  refine (PA.r8letter.calls ((120 : Nat) : Int) 0 _ rfl).mono ?_
  rintro e wd ⟨rfl, hd⟩
  have j0_ := cell_drawn hd hw0
  have j1_ := cell_drawn hd hw1
  have j2_ := cell_drawn hd hs0
  have j3_ := cell_drawn hd hs1
  have j4_ := cell_drawn hd hs2
  have n0_ := Lib.hid (below_drawn HBW.out hd)
  clear hw0 hw1 hs0 hs1 hs2 HBW hd
  have hw0 := j0_
  have hw1 := j1_
  have hs0 := j2_
  have hs1 := j3_
  have hs2 := j4_
  have HBW := n0_
  clear j0_ j1_ j2_ j3_ j4_ n0_
  go_wp2
  go_ret2
  exact ⟨rfl, HBW.out⟩
set_option maxRecDepth 100000 in
set_option maxHeartbeats 4000000 in
theorem rh_var121 (A0 : Option Addr) (c0 : Nat) (nx : List Int) (A1 : Option Addr) (c1 : Nat) (mk : List Int) (s : ByteArray) (i : Nat) (x y z : Int) (w : World) (hr0 : Kd.C (Kd.int .i64) w A0 nx.length nx) (hc0 : nx.length ≤ c0) (hr1 : Kd.C (Kd.int .i64) w A1 mk.length mk) (hc1 : mk.length ≤ c1) (hsz : s.size ≤ 1000000000) (l : List Nat) (hd : (cs s).drop i = 121 :: l) :
    Calls Try.prog 51 #[.agg #[.slice A0 nx.length c0, .slice A1 mk.length c1], .string s, .int .i64 i, .agg #[.int .i64 x, .int .i64 y, .int .i64 z]] w fun e w' => e = .returned (.tuple #[.int .i64 (y), .int .i64 ((i : Int) + 1)]) ∧ Below w.heap.size w w' := by
  obtain ⟨hi, hch, hrest⟩ := drop_at hd
  have hi2 : (i : Int) < (s.size : Int) := by omega
  have HD := Lib.hid hrest
  clear hrest hd
  have hu := Try.underlying24
  have hu2 := Try.underlying71
  have HR0 := Lib.hid hr0
  have HR1 := Lib.hid hr1
  have hle := hr0.2.1
  have hle1 := hr1.2.1
  clear hr0 hr1
  go_enter Try.func51, Try.ntmps51
  go_wp2_with (first | ((with_reducible refine gate_dst (N := 4) rfl ?_); refine box_event ?hg (N := 4) ?hd (cs := #[.slice A0 nx.length c0, .slice A1 mk.length c1]) (t := 24) ?hr ?_; (case hd => rfl); (case hg => rfl); (case hr => first | (go_simp; done) | (go_simp; rfl)); intro gw hgw wb hbw hbb; have HGW := Lib.hid hbw; have HBW := Lib.hid (bst (Below.refl w.heap.size w) hbb); have HGE := Lib.hid (Nat.le_of_eq hgw.symm); clear hgw hbw hbb) | ((with_reducible refine gate_dst (N := 7) rfl ?_); refine box_event ?hg (N := 7) ?hd (cs := #[.int .i64 x, .int .i64 y, .int .i64 z]) (t := 71) ?hr ?_; (case hd => rfl); (case hg => rfl); (case hr => first | (go_simp; done) | (go_simp; rfl)); intro gs hgs wc hbs hbb; have k0_ := Lib.hid (blk_below HGW.out hbb); have k1_ := Lib.hid (bst HBW.out hbb); have HSE := Lib.hid (And.intro (Nat.le_trans HBW.out.size (Nat.le_of_eq hgs.symm)) (show gw ≠ gs from fun e => by have h1 := blk_lt HGW.out; omega)); clear HGW HBW; have HGW := k0_; have HBW := k1_; clear k0_ k1_; have HGS := Lib.hid hbs; have hw0 : wc.cell? ⟨gw, 0, none⟩ = some (.slice A0 nx.length c0) := (blk_cell HGW.out 0).trans rfl; have hw1 : wc.cell? ⟨gw, 1, none⟩ = some (.slice A1 mk.length c1) := (blk_cell HGW.out 1).trans rfl; have hs0 : wc.cell? ⟨gs, 0, none⟩ = some (.int .i64 x) := (blk_cell HGS.out 0).trans rfl; have hs1 : wc.cell? ⟨gs, 1, none⟩ = some (.int .i64 y) := (blk_cell HGS.out 1).trans rfl; have hs2 : wc.cell? ⟨gs, 2, none⟩ = some (.int .i64 z) := (blk_cell HGS.out 2).trans rfl; clear hgs hbs hbb) | fail)
  refine (PA.r8digit.calls ((121 : Nat) : Int) (-1) _ rfl).mono ?_
  rintro e wd ⟨rfl, hd⟩
  have j0_ := cell_drawn hd hw0
  have j1_ := cell_drawn hd hw1
  have j2_ := cell_drawn hd hs0
  have j3_ := cell_drawn hd hs1
  have j4_ := cell_drawn hd hs2
  have n0_ := Lib.hid (below_drawn HBW.out hd)
  clear hw0 hw1 hs0 hs1 hs2 HBW hd
  have hw0 := j0_
  have hw1 := j1_
  have hs0 := j2_
  have hs1 := j3_
  have hs2 := j4_
  have HBW := n0_
  clear j0_ j1_ j2_ j3_ j4_ n0_
  go_wp2_with fail
  refine (PA.r8letter.calls ((121 : Nat) : Int) 1 _ rfl).mono ?_
  rintro e wd ⟨rfl, hd⟩
  have j0_ := cell_drawn hd hw0
  have j1_ := cell_drawn hd hw1
  have j2_ := cell_drawn hd hs0
  have j3_ := cell_drawn hd hs1
  have j4_ := cell_drawn hd hs2
  have n0_ := Lib.hid (below_drawn HBW.out hd)
  clear hw0 hw1 hs0 hs1 hs2 HBW hd
  have hw0 := j0_
  have hw1 := j1_
  have hs0 := j2_
  have hs1 := j3_
  have hs2 := j4_
  have HBW := n0_
  clear j0_ j1_ j2_ j3_ j4_ n0_
  go_wp2_with fail
  refine (PA.r8letter.calls ((121 : Nat) : Int) 1 _ rfl).mono ?_
  rintro e wd ⟨rfl, hd⟩
  have j0_ := cell_drawn hd hw0
  have j1_ := cell_drawn hd hw1
  have j2_ := cell_drawn hd hs0
  have j3_ := cell_drawn hd hs1
  have j4_ := cell_drawn hd hs2
  have n0_ := Lib.hid (below_drawn HBW.out hd)
  clear hw0 hw1 hs0 hs1 hs2 HBW hd
  have hw0 := j0_
  have hw1 := j1_
  have hs0 := j2_
  have hs1 := j3_
  have hs2 := j4_
  have HBW := n0_
  clear j0_ j1_ j2_ j3_ j4_ n0_
  go_wp2
  go_ret2
  exact ⟨rfl, HBW.out⟩
set_option maxRecDepth 100000 in
set_option maxHeartbeats 4000000 in
theorem rh_var122 (A0 : Option Addr) (c0 : Nat) (nx : List Int) (A1 : Option Addr) (c1 : Nat) (mk : List Int) (s : ByteArray) (i : Nat) (x y z : Int) (w : World) (hr0 : Kd.C (Kd.int .i64) w A0 nx.length nx) (hc0 : nx.length ≤ c0) (hr1 : Kd.C (Kd.int .i64) w A1 mk.length mk) (hc1 : mk.length ≤ c1) (hsz : s.size ≤ 1000000000) (l : List Nat) (hd : (cs s).drop i = 122 :: l) :
    Calls Try.prog 51 #[.agg #[.slice A0 nx.length c0, .slice A1 mk.length c1], .string s, .int .i64 i, .agg #[.int .i64 x, .int .i64 y, .int .i64 z]] w fun e w' => e = .returned (.tuple #[.int .i64 (z), .int .i64 ((i : Int) + 1)]) ∧ Below w.heap.size w w' := by
  obtain ⟨hi, hch, hrest⟩ := drop_at hd
  have hi2 : (i : Int) < (s.size : Int) := by omega
  have HD := Lib.hid hrest
  clear hrest hd
  have hu := Try.underlying24
  have hu2 := Try.underlying71
  have HR0 := Lib.hid hr0
  have HR1 := Lib.hid hr1
  have hle := hr0.2.1
  have hle1 := hr1.2.1
  clear hr0 hr1
  go_enter Try.func51, Try.ntmps51
  go_wp2_with (first | ((with_reducible refine gate_dst (N := 4) rfl ?_); refine box_event ?hg (N := 4) ?hd (cs := #[.slice A0 nx.length c0, .slice A1 mk.length c1]) (t := 24) ?hr ?_; (case hd => rfl); (case hg => rfl); (case hr => first | (go_simp; done) | (go_simp; rfl)); intro gw hgw wb hbw hbb; have HGW := Lib.hid hbw; have HBW := Lib.hid (bst (Below.refl w.heap.size w) hbb); have HGE := Lib.hid (Nat.le_of_eq hgw.symm); clear hgw hbw hbb) | ((with_reducible refine gate_dst (N := 7) rfl ?_); refine box_event ?hg (N := 7) ?hd (cs := #[.int .i64 x, .int .i64 y, .int .i64 z]) (t := 71) ?hr ?_; (case hd => rfl); (case hg => rfl); (case hr => first | (go_simp; done) | (go_simp; rfl)); intro gs hgs wc hbs hbb; have k0_ := Lib.hid (blk_below HGW.out hbb); have k1_ := Lib.hid (bst HBW.out hbb); have HSE := Lib.hid (And.intro (Nat.le_trans HBW.out.size (Nat.le_of_eq hgs.symm)) (show gw ≠ gs from fun e => by have h1 := blk_lt HGW.out; omega)); clear HGW HBW; have HGW := k0_; have HBW := k1_; clear k0_ k1_; have HGS := Lib.hid hbs; have hw0 : wc.cell? ⟨gw, 0, none⟩ = some (.slice A0 nx.length c0) := (blk_cell HGW.out 0).trans rfl; have hw1 : wc.cell? ⟨gw, 1, none⟩ = some (.slice A1 mk.length c1) := (blk_cell HGW.out 1).trans rfl; have hs0 : wc.cell? ⟨gs, 0, none⟩ = some (.int .i64 x) := (blk_cell HGS.out 0).trans rfl; have hs1 : wc.cell? ⟨gs, 1, none⟩ = some (.int .i64 y) := (blk_cell HGS.out 1).trans rfl; have hs2 : wc.cell? ⟨gs, 2, none⟩ = some (.int .i64 z) := (blk_cell HGS.out 2).trans rfl; clear hgs hbs hbb) | fail)
  refine (PA.r8digit.calls ((122 : Nat) : Int) (-1) _ rfl).mono ?_
  rintro e wd ⟨rfl, hd⟩
  have j0_ := cell_drawn hd hw0
  have j1_ := cell_drawn hd hw1
  have j2_ := cell_drawn hd hs0
  have j3_ := cell_drawn hd hs1
  have j4_ := cell_drawn hd hs2
  have n0_ := Lib.hid (below_drawn HBW.out hd)
  clear hw0 hw1 hs0 hs1 hs2 HBW hd
  have hw0 := j0_
  have hw1 := j1_
  have hs0 := j2_
  have hs1 := j3_
  have hs2 := j4_
  have HBW := n0_
  clear j0_ j1_ j2_ j3_ j4_ n0_
  go_wp2_with fail
  refine (PA.r8letter.calls ((122 : Nat) : Int) 2 _ rfl).mono ?_
  rintro e wd ⟨rfl, hd⟩
  have j0_ := cell_drawn hd hw0
  have j1_ := cell_drawn hd hw1
  have j2_ := cell_drawn hd hs0
  have j3_ := cell_drawn hd hs1
  have j4_ := cell_drawn hd hs2
  have n0_ := Lib.hid (below_drawn HBW.out hd)
  clear hw0 hw1 hs0 hs1 hs2 HBW hd
  have hw0 := j0_
  have hw1 := j1_
  have hs0 := j2_
  have hs1 := j3_
  have hs2 := j4_
  have HBW := n0_
  clear j0_ j1_ j2_ j3_ j4_ n0_
  go_wp2_with fail
  refine (PA.r8letter.calls ((122 : Nat) : Int) 2 _ rfl).mono ?_
  rintro e wd ⟨rfl, hd⟩
  have j0_ := cell_drawn hd hw0
  have j1_ := cell_drawn hd hw1
  have j2_ := cell_drawn hd hs0
  have j3_ := cell_drawn hd hs1
  have j4_ := cell_drawn hd hs2
  have n0_ := Lib.hid (below_drawn HBW.out hd)
  clear hw0 hw1 hs0 hs1 hs2 HBW hd
  have hw0 := j0_
  have hw1 := j1_
  have hs0 := j2_
  have hs1 := j3_
  have hs2 := j4_
  have HBW := n0_
  clear j0_ j1_ j2_ j3_ j4_ n0_
  go_wp2
  go_ret2
  exact ⟨rfl, HBW.out⟩
end Go.Proofs.Ytjffhhalmicodaa.X
end

section
set_option linter.unusedVariables false
set_option linter.unusedSimpArgs false
namespace Go.Proofs.Ytjffhhalmicodaa.X
open Go.RowKit Go.Proofs.G.PrintWords Go.Proofs.G.PrintLast Go.Proofs.G.PrintMore
def RHoldsC (nx mk : List Int) (f : Fm) (x y z res : Int) : Prop :=
  ∀ (A0 : Option Addr) (c0 : Nat) (A1 : Option Addr) (c1 : Nat) (s : ByteArray) (p : Int) (i : Nat) (l : List Nat) (w : World), Kd.C (Kd.int .i64) w A0 nx.length nx → nx.length ≤ c0 → Kd.C (Kd.int .i64) w A1 mk.length mk → mk.length ≤ c1 →
    s.size ≤ 1000000000 → p = i → (cs s).drop i = str f ++ l → Calls Try.prog 51 #[.agg #[.slice A0 nx.length c0, .slice A1 mk.length c1], .string s, .int .i64 p, .agg #[.int .i64 x, .int .i64 y, .int .i64 z]] w fun e w' => e = .returned (.tuple #[.int .i64 res, .int .i64 (p + ((str f).length : Int))]) ∧ Below w.heap.size w w'
theorem ret2_int {k k' : IntKind} {a b c d : Int} (h : a = b) (h' : c = d) : Ending.returned (.tuple #[.int k a, .int k' c]) = .returned (.tuple #[.int k b, .int k' d]) := by rw [h, h']
theorem drop_app {s : List Nat} {i : Nat} {a l : List Nat} (h : s.drop i = a ++ l) : s.drop (i + a.length) = l := by
  rw [← List.drop_drop, h, List.drop_left]
theorem app_len {s : ByteArray} {i : Nat} {a l : List Nat} (h : (cs s).drop i = a ++ l) (hi : i ≤ s.size) : i + a.length ≤ s.size := by
  have := congrArg List.length h
  rw [List.length_drop, cs_length, List.length_append] at this
  omega
set_option maxRecDepth 100000 in
set_option maxHeartbeats 4000000 in
theorem rh_and (A0 : Option Addr) (c0 : Nat) (nx : List Int) (A1 : Option Addr) (c1 : Nat) (mk : List Int) (s : ByteArray) (i : Nat) (x y z : Int) (w : World) (hr0 : Kd.C (Kd.int .i64) w A0 nx.length nx) (hc0 : nx.length ≤ c0) (hr1 : Kd.C (Kd.int .i64) w A1 mk.length mk) (hc1 : mk.length ≤ c1) (hsz : s.size ≤ 1000000000) (a b : Fm) (ra rb : Int) (l : List Nat) (hd : (cs s).drop i = 38 :: (str a ++ (str b ++ l))) (iha : RHoldsC nx mk a x y z ra) (ihb : RHoldsC nx mk b x y z rb) :
    Calls Try.prog 51 #[.agg #[.slice A0 nx.length c0, .slice A1 mk.length c1], .string s, .int .i64 i, .agg #[.int .i64 x, .int .i64 y, .int .i64 z]] w fun e w' => e = .returned (.tuple #[.int .i64 (bits .and .i64 ra rb), .int .i64 ((i : Int) + (((str a).length + (str b).length + 1 : Nat) : Int))]) ∧ Below w.heap.size w w' := by
  have IA := Lib.hid iha
  have IB := Lib.hid ihb
  clear iha ihb
  obtain ⟨hi, hch, hrest⟩ := drop_at hd
  have hi2 : (i : Int) < (s.size : Int) := by omega
  have HD := Lib.hid hrest
  clear hrest hd
  have HD2 := Lib.hid (drop_app HD.out)
  have hla := app_len HD.out (by omega)
  have hlb := app_len HD2.out (by omega)
  have hu := Try.underlying24
  have hu2 := Try.underlying71
  have HR0 := Lib.hid hr0
  have HR1 := Lib.hid hr1
  have hle := hr0.2.1
  have hle1 := hr1.2.1
  clear hr0 hr1
  go_enter Try.func51, Try.ntmps51
  go_wp2_with (first | ((with_reducible refine gate_dst (N := 4) rfl ?_); refine box_event ?hg (N := 4) ?hd (cs := #[.slice A0 nx.length c0, .slice A1 mk.length c1]) (t := 24) ?hr ?_; (case hd => rfl); (case hg => rfl); (case hr => first | (go_simp; done) | (go_simp; rfl)); intro gw hgw wb hbw hbb; have HGW := Lib.hid hbw; have HBW := Lib.hid (bst (Below.refl w.heap.size w) hbb); have HGE := Lib.hid (Nat.le_of_eq hgw.symm); clear hgw hbw hbb) | ((with_reducible refine gate_dst (N := 7) rfl ?_); refine box_event ?hg (N := 7) ?hd (cs := #[.int .i64 x, .int .i64 y, .int .i64 z]) (t := 71) ?hr ?_; (case hd => rfl); (case hg => rfl); (case hr => first | (go_simp; done) | (go_simp; rfl)); intro gs hgs wc hbs hbb; have k0_ := Lib.hid (blk_below HGW.out hbb); have k1_ := Lib.hid (bst HBW.out hbb); have HSE := Lib.hid (And.intro (Nat.le_trans HBW.out.size (Nat.le_of_eq hgs.symm)) (show gw ≠ gs from fun e => by have h1 := blk_lt HGW.out; omega)); clear HGW HBW; have HGW := k0_; have HBW := k1_; clear k0_ k1_; have HGS := Lib.hid hbs; have hw0 : wc.cell? ⟨gw, 0, none⟩ = some (.slice A0 nx.length c0) := (blk_cell HGW.out 0).trans rfl; have hw1 : wc.cell? ⟨gw, 1, none⟩ = some (.slice A1 mk.length c1) := (blk_cell HGW.out 1).trans rfl; have hs0 : wc.cell? ⟨gs, 0, none⟩ = some (.int .i64 x) := (blk_cell HGS.out 0).trans rfl; have hs1 : wc.cell? ⟨gs, 1, none⟩ = some (.int .i64 y) := (blk_cell HGS.out 1).trans rfl; have hs2 : wc.cell? ⟨gs, 2, none⟩ = some (.int .i64 z) := (blk_cell HGS.out 2).trans rfl; clear hgs hbs hbb) | fail)
  refine (PA.r8digit.calls ((38 : Nat) : Int) (-1) _ rfl).mono ?_
  rintro e wd ⟨rfl, hd⟩
  have j0_ := cell_drawn hd hw0
  have j1_ := cell_drawn hd hw1
  have j2_ := cell_drawn hd hs0
  have j3_ := cell_drawn hd hs1
  have j4_ := cell_drawn hd hs2
  have n0_ := Lib.hid (below_drawn HBW.out hd)
  clear hw0 hw1 hs0 hs1 hs2 HBW hd
  have hw0 := j0_
  have hw1 := j1_
  have hs0 := j2_
  have hs1 := j3_
  have hs2 := j4_
  have HBW := n0_
  clear j0_ j1_ j2_ j3_ j4_ n0_
  go_wp2_with fail
  refine (PA.r8letter.calls ((38 : Nat) : Int) (-1) _ rfl).mono ?_
  rintro e wd ⟨rfl, hd⟩
  have j0_ := cell_drawn hd hw0
  have j1_ := cell_drawn hd hw1
  have j2_ := cell_drawn hd hs0
  have j3_ := cell_drawn hd hs1
  have j4_ := cell_drawn hd hs2
  have n0_ := Lib.hid (below_drawn HBW.out hd)
  clear hw0 hw1 hs0 hs1 hs2 HBW hd
  have hw0 := j0_
  have hw1 := j1_
  have hs0 := j2_
  have hs1 := j3_
  have hs2 := j4_
  have HBW := n0_
  clear j0_ j1_ j2_ j3_ j4_ n0_
  go_wp2_with fail
  refine (IA.out A0 c0 A1 c1 s ((i : Int) + 1) (i + 1) _ _ (Kd.C_below HR0.out HBW.out) hc0 (Kd.C_below HR1.out HBW.out) hc1 hsz (by omega) HD.out).mono ?_
  rintro e w2 ⟨rfl, hb⟩
  have j0_ := pwc hb hw0
  have j1_ := pwc hb hw1
  have j2_ := pwc hb hs0
  have j3_ := pwc hb hs1
  have j4_ := pwc hb hs2
  have n0_ := Lib.hid (bst HBW.out hb)
  clear hw0 hw1 hs0 hs1 hs2 HBW hb
  have hw0 := j0_
  have hw1 := j1_
  have hs0 := j2_
  have hs1 := j3_
  have hs2 := j4_
  have HBW := n0_
  clear j0_ j1_ j2_ j3_ j4_ n0_
  go_wp2_with fail
  refine (IB.out A0 c0 A1 c1 s ((i : Int) + 1 + ((str a).length : Int)) (i + 1 + (str a).length) _ _ (Kd.C_below HR0.out HBW.out) hc0 (Kd.C_below HR1.out HBW.out) hc1 hsz (by omega) HD2.out).mono ?_
  rintro e w3 ⟨rfl, hb⟩
  have j0_ := pwc hb hw0
  have j1_ := pwc hb hw1
  have j2_ := pwc hb hs0
  have j3_ := pwc hb hs1
  have j4_ := pwc hb hs2
  have n0_ := Lib.hid (bst HBW.out hb)
  clear hw0 hw1 hs0 hs1 hs2 HBW hb
  have hw0 := j0_
  have hw1 := j1_
  have hs0 := j2_
  have hs1 := j3_
  have hs2 := j4_
  have HBW := n0_
  clear j0_ j1_ j2_ j3_ j4_ n0_
  go_wp2
  go_ret2
  exact ⟨ret2_int rfl (by omega), HBW.out⟩
set_option maxRecDepth 100000 in
set_option maxHeartbeats 4000000 in
theorem rh_or (A0 : Option Addr) (c0 : Nat) (nx : List Int) (A1 : Option Addr) (c1 : Nat) (mk : List Int) (s : ByteArray) (i : Nat) (x y z : Int) (w : World) (hr0 : Kd.C (Kd.int .i64) w A0 nx.length nx) (hc0 : nx.length ≤ c0) (hr1 : Kd.C (Kd.int .i64) w A1 mk.length mk) (hc1 : mk.length ≤ c1) (hsz : s.size ≤ 1000000000) (a b : Fm) (ra rb : Int) (l : List Nat) (hd : (cs s).drop i = 124 :: (str a ++ (str b ++ l))) (iha : RHoldsC nx mk a x y z ra) (ihb : RHoldsC nx mk b x y z rb) :
    Calls Try.prog 51 #[.agg #[.slice A0 nx.length c0, .slice A1 mk.length c1], .string s, .int .i64 i, .agg #[.int .i64 x, .int .i64 y, .int .i64 z]] w fun e w' => e = .returned (.tuple #[.int .i64 (bits .or .i64 ra rb), .int .i64 ((i : Int) + (((str a).length + (str b).length + 1 : Nat) : Int))]) ∧ Below w.heap.size w w' := by
  have IA := Lib.hid iha
  have IB := Lib.hid ihb
  clear iha ihb
  obtain ⟨hi, hch, hrest⟩ := drop_at hd
  have hi2 : (i : Int) < (s.size : Int) := by omega
  have HD := Lib.hid hrest
  clear hrest hd
  have HD2 := Lib.hid (drop_app HD.out)
  have hla := app_len HD.out (by omega)
  have hlb := app_len HD2.out (by omega)
  have hu := Try.underlying24
  have hu2 := Try.underlying71
  have HR0 := Lib.hid hr0
  have HR1 := Lib.hid hr1
  have hle := hr0.2.1
  have hle1 := hr1.2.1
  clear hr0 hr1
  go_enter Try.func51, Try.ntmps51
  go_wp2_with (first | ((with_reducible refine gate_dst (N := 4) rfl ?_); refine box_event ?hg (N := 4) ?hd (cs := #[.slice A0 nx.length c0, .slice A1 mk.length c1]) (t := 24) ?hr ?_; (case hd => rfl); (case hg => rfl); (case hr => first | (go_simp; done) | (go_simp; rfl)); intro gw hgw wb hbw hbb; have HGW := Lib.hid hbw; have HBW := Lib.hid (bst (Below.refl w.heap.size w) hbb); have HGE := Lib.hid (Nat.le_of_eq hgw.symm); clear hgw hbw hbb) | ((with_reducible refine gate_dst (N := 7) rfl ?_); refine box_event ?hg (N := 7) ?hd (cs := #[.int .i64 x, .int .i64 y, .int .i64 z]) (t := 71) ?hr ?_; (case hd => rfl); (case hg => rfl); (case hr => first | (go_simp; done) | (go_simp; rfl)); intro gs hgs wc hbs hbb; have k0_ := Lib.hid (blk_below HGW.out hbb); have k1_ := Lib.hid (bst HBW.out hbb); have HSE := Lib.hid (And.intro (Nat.le_trans HBW.out.size (Nat.le_of_eq hgs.symm)) (show gw ≠ gs from fun e => by have h1 := blk_lt HGW.out; omega)); clear HGW HBW; have HGW := k0_; have HBW := k1_; clear k0_ k1_; have HGS := Lib.hid hbs; have hw0 : wc.cell? ⟨gw, 0, none⟩ = some (.slice A0 nx.length c0) := (blk_cell HGW.out 0).trans rfl; have hw1 : wc.cell? ⟨gw, 1, none⟩ = some (.slice A1 mk.length c1) := (blk_cell HGW.out 1).trans rfl; have hs0 : wc.cell? ⟨gs, 0, none⟩ = some (.int .i64 x) := (blk_cell HGS.out 0).trans rfl; have hs1 : wc.cell? ⟨gs, 1, none⟩ = some (.int .i64 y) := (blk_cell HGS.out 1).trans rfl; have hs2 : wc.cell? ⟨gs, 2, none⟩ = some (.int .i64 z) := (blk_cell HGS.out 2).trans rfl; clear hgs hbs hbb) | fail)
  refine (PA.r8digit.calls ((124 : Nat) : Int) (-1) _ rfl).mono ?_
  rintro e wd ⟨rfl, hd⟩
  have j0_ := cell_drawn hd hw0
  have j1_ := cell_drawn hd hw1
  have j2_ := cell_drawn hd hs0
  have j3_ := cell_drawn hd hs1
  have j4_ := cell_drawn hd hs2
  have n0_ := Lib.hid (below_drawn HBW.out hd)
  clear hw0 hw1 hs0 hs1 hs2 HBW hd
  have hw0 := j0_
  have hw1 := j1_
  have hs0 := j2_
  have hs1 := j3_
  have hs2 := j4_
  have HBW := n0_
  clear j0_ j1_ j2_ j3_ j4_ n0_
  go_wp2_with fail
  refine (PA.r8letter.calls ((124 : Nat) : Int) (-1) _ rfl).mono ?_
  rintro e wd ⟨rfl, hd⟩
  have j0_ := cell_drawn hd hw0
  have j1_ := cell_drawn hd hw1
  have j2_ := cell_drawn hd hs0
  have j3_ := cell_drawn hd hs1
  have j4_ := cell_drawn hd hs2
  have n0_ := Lib.hid (below_drawn HBW.out hd)
  clear hw0 hw1 hs0 hs1 hs2 HBW hd
  have hw0 := j0_
  have hw1 := j1_
  have hs0 := j2_
  have hs1 := j3_
  have hs2 := j4_
  have HBW := n0_
  clear j0_ j1_ j2_ j3_ j4_ n0_
  go_wp2_with fail
  refine (IA.out A0 c0 A1 c1 s ((i : Int) + 1) (i + 1) _ _ (Kd.C_below HR0.out HBW.out) hc0 (Kd.C_below HR1.out HBW.out) hc1 hsz (by omega) HD.out).mono ?_
  rintro e w2 ⟨rfl, hb⟩
  have j0_ := pwc hb hw0
  have j1_ := pwc hb hw1
  have j2_ := pwc hb hs0
  have j3_ := pwc hb hs1
  have j4_ := pwc hb hs2
  have n0_ := Lib.hid (bst HBW.out hb)
  clear hw0 hw1 hs0 hs1 hs2 HBW hb
  have hw0 := j0_
  have hw1 := j1_
  have hs0 := j2_
  have hs1 := j3_
  have hs2 := j4_
  have HBW := n0_
  clear j0_ j1_ j2_ j3_ j4_ n0_
  go_wp2_with fail
  refine (IB.out A0 c0 A1 c1 s ((i : Int) + 1 + ((str a).length : Int)) (i + 1 + (str a).length) _ _ (Kd.C_below HR0.out HBW.out) hc0 (Kd.C_below HR1.out HBW.out) hc1 hsz (by omega) HD2.out).mono ?_
  rintro e w3 ⟨rfl, hb⟩
  have j0_ := pwc hb hw0
  have j1_ := pwc hb hw1
  have j2_ := pwc hb hs0
  have j3_ := pwc hb hs1
  have j4_ := pwc hb hs2
  have n0_ := Lib.hid (bst HBW.out hb)
  clear hw0 hw1 hs0 hs1 hs2 HBW hb
  have hw0 := j0_
  have hw1 := j1_
  have hs0 := j2_
  have hs1 := j3_
  have hs2 := j4_
  have HBW := n0_
  clear j0_ j1_ j2_ j3_ j4_ n0_
  go_wp2
  go_ret2
  exact ⟨ret2_int rfl (by omega), HBW.out⟩
set_option maxRecDepth 100000 in
set_option maxHeartbeats 4000000 in
theorem rh_dia (A0 : Option Addr) (c0 : Nat) (nx : List Int) (A1 : Option Addr) (c1 : Nat) (mk : List Int) (s : ByteArray) (i : Nat) (x y z : Int) (w : World) (hr0 : Kd.C (Kd.int .i64) w A0 nx.length nx) (hc0 : nx.length ≤ c0) (hr1 : Kd.C (Kd.int .i64) w A1 mk.length mk) (hc1 : mk.length ≤ c1) (hsz : s.size ≤ 1000000000) (a : Fm) (ra : Int) (l : List Nat) (hd : (cs s).drop i = 60 :: (str a ++ l)) (iha : RHoldsC nx mk a x y z ra) :
    Calls Try.prog 51 #[.agg #[.slice A0 nx.length c0, .slice A1 mk.length c1], .string s, .int .i64 i, .agg #[.int .i64 x, .int .i64 y, .int .i64 z]] w fun e w' => e = .returned (.tuple #[.int .i64 (stepTo nx ra), .int .i64 ((i : Int) + (((str a).length + 1 : Nat) : Int))]) ∧ Below w.heap.size w w' := by
  have IA := Lib.hid iha
  clear iha
  obtain ⟨hi, hch, hrest⟩ := drop_at hd
  have hi2 : (i : Int) < (s.size : Int) := by omega
  have HD := Lib.hid hrest
  clear hrest hd
  have hla := app_len HD.out (by omega)
  have hu := Try.underlying24
  have hu2 := Try.underlying71
  have HR0 := Lib.hid hr0
  have HR1 := Lib.hid hr1
  have hle := hr0.2.1
  have hle1 := hr1.2.1
  clear hr0 hr1
  go_enter Try.func51, Try.ntmps51
  go_wp2_with (first | ((with_reducible refine gate_dst (N := 4) rfl ?_); refine box_event ?hg (N := 4) ?hd (cs := #[.slice A0 nx.length c0, .slice A1 mk.length c1]) (t := 24) ?hr ?_; (case hd => rfl); (case hg => rfl); (case hr => first | (go_simp; done) | (go_simp; rfl)); intro gw hgw wb hbw hbb; have HGW := Lib.hid hbw; have HBW := Lib.hid (bst (Below.refl w.heap.size w) hbb); have HGE := Lib.hid (Nat.le_of_eq hgw.symm); clear hgw hbw hbb) | ((with_reducible refine gate_dst (N := 7) rfl ?_); refine box_event ?hg (N := 7) ?hd (cs := #[.int .i64 x, .int .i64 y, .int .i64 z]) (t := 71) ?hr ?_; (case hd => rfl); (case hg => rfl); (case hr => first | (go_simp; done) | (go_simp; rfl)); intro gs hgs wc hbs hbb; have k0_ := Lib.hid (blk_below HGW.out hbb); have k1_ := Lib.hid (bst HBW.out hbb); have HSE := Lib.hid (And.intro (Nat.le_trans HBW.out.size (Nat.le_of_eq hgs.symm)) (show gw ≠ gs from fun e => by have h1 := blk_lt HGW.out; omega)); clear HGW HBW; have HGW := k0_; have HBW := k1_; clear k0_ k1_; have HGS := Lib.hid hbs; have hw0 : wc.cell? ⟨gw, 0, none⟩ = some (.slice A0 nx.length c0) := (blk_cell HGW.out 0).trans rfl; have hw1 : wc.cell? ⟨gw, 1, none⟩ = some (.slice A1 mk.length c1) := (blk_cell HGW.out 1).trans rfl; have hs0 : wc.cell? ⟨gs, 0, none⟩ = some (.int .i64 x) := (blk_cell HGS.out 0).trans rfl; have hs1 : wc.cell? ⟨gs, 1, none⟩ = some (.int .i64 y) := (blk_cell HGS.out 1).trans rfl; have hs2 : wc.cell? ⟨gs, 2, none⟩ = some (.int .i64 z) := (blk_cell HGS.out 2).trans rfl; clear hgs hbs hbb) | fail)
  refine (PA.r8digit.calls ((60 : Nat) : Int) (-1) _ rfl).mono ?_
  rintro e wd ⟨rfl, hd⟩
  have j0_ := cell_drawn hd hw0
  have j1_ := cell_drawn hd hw1
  have j2_ := cell_drawn hd hs0
  have j3_ := cell_drawn hd hs1
  have j4_ := cell_drawn hd hs2
  have n0_ := Lib.hid (below_drawn HBW.out hd)
  clear hw0 hw1 hs0 hs1 hs2 HBW hd
  have hw0 := j0_
  have hw1 := j1_
  have hs0 := j2_
  have hs1 := j3_
  have hs2 := j4_
  have HBW := n0_
  clear j0_ j1_ j2_ j3_ j4_ n0_
  go_wp2_with fail
  refine (PA.r8letter.calls ((60 : Nat) : Int) (-1) _ rfl).mono ?_
  rintro e wd ⟨rfl, hd⟩
  have j0_ := cell_drawn hd hw0
  have j1_ := cell_drawn hd hw1
  have j2_ := cell_drawn hd hs0
  have j3_ := cell_drawn hd hs1
  have j4_ := cell_drawn hd hs2
  have n0_ := Lib.hid (below_drawn HBW.out hd)
  clear hw0 hw1 hs0 hs1 hs2 HBW hd
  have hw0 := j0_
  have hw1 := j1_
  have hs0 := j2_
  have hs1 := j3_
  have hs2 := j4_
  have HBW := n0_
  clear j0_ j1_ j2_ j3_ j4_ n0_
  go_wp2_with fail
  refine (IA.out A0 c0 A1 c1 s ((i : Int) + 1) (i + 1) _ _ (Kd.C_below HR0.out HBW.out) hc0 (Kd.C_below HR1.out HBW.out) hc1 hsz (by omega) HD.out).mono ?_
  rintro e w2 ⟨rfl, hb⟩
  have j0_ := pwc hb hw0
  have j1_ := pwc hb hw1
  have j2_ := pwc hb hs0
  have j3_ := pwc hb hs1
  have j4_ := pwc hb hs2
  have n0_ := Lib.hid (bst HBW.out hb)
  clear hw0 hw1 hs0 hs1 hs2 HBW hb
  have hw0 := j0_
  have hw1 := j1_
  have hs0 := j2_
  have hs1 := j3_
  have hs2 := j4_
  have HBW := n0_
  clear j0_ j1_ j2_ j3_ j4_ n0_
  go_wp2_with fail
  go_loop [23, 156] (fun v i => ∃ k : Nat, k ≤ nx.length ∧ i = .int .i64 k ∧ v = .int .i64 (whereTo (fun k => bits .and .i64 (rd nx k) ra != 0) k)) (fun _ i => nx.length - (intOf i).toNat)
  case atStart => exact ⟨0, by omega, rfl, rfl⟩
  case round =>
    obtain ⟨k, hk, rfl, rfl⟩ := hrel
    by_cases hlt : k < nx.length
    · obtain ⟨b, off, hA, hbl, hc⟩ := ints_at (Kd.C_below HR0.out HBW.out) (by omega)
      subst hA
      have hx := hc k hlt
      clear hc
      cases hp : (bits .and .i64 (rd nx k) ra != 0)
      · have hp2 := Lib.hid hp
        go_wp2
        go_round
        case rel => exact ⟨k + 1, by omega, by go_num, by simp [whereTo, hp2.out]⟩
        case measure => simp [intOf]; omega
      · have hp2 := Lib.hid hp
        go_wp2
        go_round
        case rel => exact ⟨k + 1, by omega, by go_num, by simp [whereTo, hp2.out]⟩
        case measure => simp [intOf]; omega
    · obtain rfl : k = nx.length := by omega
      go_wp2
      go_ret2
      exact ⟨ret2_int rfl (by omega), HBW.out⟩
set_option maxRecDepth 100000 in
set_option maxHeartbeats 4000000 in
theorem rh_box (A0 : Option Addr) (c0 : Nat) (nx : List Int) (A1 : Option Addr) (c1 : Nat) (mk : List Int) (s : ByteArray) (i : Nat) (x y z : Int) (w : World) (hr0 : Kd.C (Kd.int .i64) w A0 nx.length nx) (hc0 : nx.length ≤ c0) (hr1 : Kd.C (Kd.int .i64) w A1 mk.length mk) (hc1 : mk.length ≤ c1) (hsz : s.size ≤ 1000000000) (a : Fm) (ra : Int) (l : List Nat) (hd : (cs s).drop i = 91 :: (str a ++ l)) (iha : RHoldsC nx mk a x y z ra) :
    Calls Try.prog 51 #[.agg #[.slice A0 nx.length c0, .slice A1 mk.length c1], .string s, .int .i64 i, .agg #[.int .i64 x, .int .i64 y, .int .i64 z]] w fun e w' => e = .returned (.tuple #[.int .i64 (boxTo nx ra), .int .i64 ((i : Int) + (((str a).length + 1 : Nat) : Int))]) ∧ Below w.heap.size w w' := by
  have IA := Lib.hid iha
  clear iha
  obtain ⟨hi, hch, hrest⟩ := drop_at hd
  have hi2 : (i : Int) < (s.size : Int) := by omega
  have HD := Lib.hid hrest
  clear hrest hd
  have hla := app_len HD.out (by omega)
  have hu := Try.underlying24
  have hu2 := Try.underlying71
  have HR0 := Lib.hid hr0
  have HR1 := Lib.hid hr1
  have hle := hr0.2.1
  have hle1 := hr1.2.1
  clear hr0 hr1
  go_enter Try.func51, Try.ntmps51
  go_wp2_with (first | ((with_reducible refine gate_dst (N := 4) rfl ?_); refine box_event ?hg (N := 4) ?hd (cs := #[.slice A0 nx.length c0, .slice A1 mk.length c1]) (t := 24) ?hr ?_; (case hd => rfl); (case hg => rfl); (case hr => first | (go_simp; done) | (go_simp; rfl)); intro gw hgw wb hbw hbb; have HGW := Lib.hid hbw; have HBW := Lib.hid (bst (Below.refl w.heap.size w) hbb); have HGE := Lib.hid (Nat.le_of_eq hgw.symm); clear hgw hbw hbb) | ((with_reducible refine gate_dst (N := 7) rfl ?_); refine box_event ?hg (N := 7) ?hd (cs := #[.int .i64 x, .int .i64 y, .int .i64 z]) (t := 71) ?hr ?_; (case hd => rfl); (case hg => rfl); (case hr => first | (go_simp; done) | (go_simp; rfl)); intro gs hgs wc hbs hbb; have k0_ := Lib.hid (blk_below HGW.out hbb); have k1_ := Lib.hid (bst HBW.out hbb); have HSE := Lib.hid (And.intro (Nat.le_trans HBW.out.size (Nat.le_of_eq hgs.symm)) (show gw ≠ gs from fun e => by have h1 := blk_lt HGW.out; omega)); clear HGW HBW; have HGW := k0_; have HBW := k1_; clear k0_ k1_; have HGS := Lib.hid hbs; have hw0 : wc.cell? ⟨gw, 0, none⟩ = some (.slice A0 nx.length c0) := (blk_cell HGW.out 0).trans rfl; have hw1 : wc.cell? ⟨gw, 1, none⟩ = some (.slice A1 mk.length c1) := (blk_cell HGW.out 1).trans rfl; have hs0 : wc.cell? ⟨gs, 0, none⟩ = some (.int .i64 x) := (blk_cell HGS.out 0).trans rfl; have hs1 : wc.cell? ⟨gs, 1, none⟩ = some (.int .i64 y) := (blk_cell HGS.out 1).trans rfl; have hs2 : wc.cell? ⟨gs, 2, none⟩ = some (.int .i64 z) := (blk_cell HGS.out 2).trans rfl; clear hgs hbs hbb) | fail)
  refine (PA.r8digit.calls ((91 : Nat) : Int) (-1) _ rfl).mono ?_
  rintro e wd ⟨rfl, hd⟩
  have j0_ := cell_drawn hd hw0
  have j1_ := cell_drawn hd hw1
  have j2_ := cell_drawn hd hs0
  have j3_ := cell_drawn hd hs1
  have j4_ := cell_drawn hd hs2
  have n0_ := Lib.hid (below_drawn HBW.out hd)
  clear hw0 hw1 hs0 hs1 hs2 HBW hd
  have hw0 := j0_
  have hw1 := j1_
  have hs0 := j2_
  have hs1 := j3_
  have hs2 := j4_
  have HBW := n0_
  clear j0_ j1_ j2_ j3_ j4_ n0_
  go_wp2_with fail
  refine (PA.r8letter.calls ((91 : Nat) : Int) (-1) _ rfl).mono ?_
  rintro e wd ⟨rfl, hd⟩
  have j0_ := cell_drawn hd hw0
  have j1_ := cell_drawn hd hw1
  have j2_ := cell_drawn hd hs0
  have j3_ := cell_drawn hd hs1
  have j4_ := cell_drawn hd hs2
  have n0_ := Lib.hid (below_drawn HBW.out hd)
  clear hw0 hw1 hs0 hs1 hs2 HBW hd
  have hw0 := j0_
  have hw1 := j1_
  have hs0 := j2_
  have hs1 := j3_
  have hs2 := j4_
  have HBW := n0_
  clear j0_ j1_ j2_ j3_ j4_ n0_
  go_wp2_with fail
  refine (IA.out A0 c0 A1 c1 s ((i : Int) + 1) (i + 1) _ _ (Kd.C_below HR0.out HBW.out) hc0 (Kd.C_below HR1.out HBW.out) hc1 hsz (by omega) HD.out).mono ?_
  rintro e w2 ⟨rfl, hb⟩
  have j0_ := pwc hb hw0
  have j1_ := pwc hb hw1
  have j2_ := pwc hb hs0
  have j3_ := pwc hb hs1
  have j4_ := pwc hb hs2
  have n0_ := Lib.hid (bst HBW.out hb)
  clear hw0 hw1 hs0 hs1 hs2 HBW hb
  have hw0 := j0_
  have hw1 := j1_
  have hs0 := j2_
  have hs1 := j3_
  have hs2 := j4_
  have HBW := n0_
  clear j0_ j1_ j2_ j3_ j4_ n0_
  go_wp2_with fail
  go_loop [23, 156] (fun v i => ∃ k : Nat, k ≤ nx.length ∧ i = .int .i64 k ∧ v = .int .i64 (whereTo (fun k => bits .andNot .i64 (rd nx k) ra == 0) k)) (fun _ i => nx.length - (intOf i).toNat)
  case atStart => exact ⟨0, by omega, rfl, rfl⟩
  case round =>
    obtain ⟨k, hk, rfl, rfl⟩ := hrel
    by_cases hlt : k < nx.length
    · obtain ⟨b, off, hA, hbl, hc⟩ := ints_at (Kd.C_below HR0.out HBW.out) (by omega)
      subst hA
      have hx := hc k hlt
      clear hc
      cases hp : (bits .andNot .i64 (rd nx k) ra == 0)
      · have hp2 := Lib.hid hp
        go_wp2
        go_round
        case rel => exact ⟨k + 1, by omega, by go_num, by simp [whereTo, hp2.out]⟩
        case measure => simp [intOf]; omega
      · have hp2 := Lib.hid hp
        go_wp2
        go_round
        case rel => exact ⟨k + 1, by omega, by go_num, by simp [whereTo, hp2.out]⟩
        case measure => simp [intOf]; omega
    · obtain rfl : k = nx.length := by omega
      go_wp2
      go_ret2
      exact ⟨ret2_int rfl (by omega), HBW.out⟩
end Go.Proofs.Ytjffhhalmicodaa.X
end

section
set_option linter.unusedVariables false
set_option linter.unusedSimpArgs false
namespace Go.Proofs.Ytjffhhalmicodaa.X
open Go.RowKit Go.Proofs.G.PrintWords Go.Proofs.G.PrintLast Go.Proofs.G.PrintMore
abbrev Sets := Int × Int × Int
def setL (x : Nat) (v : Int) (s : Sets) : Sets := if x = 120 then (v, s.2.1, s.2.2) else if x = 121 then (s.1, v, s.2.2) else (s.1, s.2.1, v)
def getL (x : Nat) (s : Sets) : Int := if x = 120 then s.1 else if x = 121 then s.2.1 else s.2.2
mutual
def rholdF (nx mk : List Int) : Nat → Fm → Sets → Option Int
 | 0, _, _ => none
 | k + 1, .mark neg j, _ => some (if neg = true then bits .andNot .i64 (allOf nx) (rmarkTo mk j mk.length) else rmarkTo mk j mk.length)
 | k + 1, .con c, _ => some (if c = 116 then allOf nx else 0)
 | k + 1, .var c, s => some (getL c s)
 | k + 1, .two c a b, s => (rholdF nx mk k a s).bind fun p => (rholdF nx mk k b s).bind fun q => some (if c = 38 then bits .and .i64 p q else bits .or .i64 p q)
 | k + 1, .one c a, s => (rholdF nx mk k a s).bind fun p => some (if c = 60 then stepTo nx p else boxTo nx p)
 | k + 1, .fix c x a, s => (rloopF nx mk k x a (if c = 103 then allOf nx else 0) 1 s).bind fun p => some p.1
def rloopF (nx mk : List Int) : Nat → Nat → Fm → Int → Int → Sets → Option (Int × Int)
  | 0, _, _, _, _, _ => none
  | k + 1, x, a, set, cnt, s => (rholdF nx mk k a (setL x set s)).bind fun p => if p = set then some (set, cnt) else rloopF nx mk k x a p (wrap64 (cnt + 1)) (setL x set s)
end
theorem blk_drawn {w w' : World} (h : Drawn0 w w') {g : Nat} {o : Obj} (hb : w.heap[g]? = some o) : w'.heap[g]? = some o := by
  obtain ⟨⟨q, rfl⟩⟩ := h
  exact hb
theorem ret3_int {k1 k2 k3 : IntKind} {a b c d e f : Int} (h : a = b) (h' : c = d) (h2 : e = f) : Ending.returned (.tuple #[.int k1 a, .int k2 c, .int k3 e]) = .returned (.tuple #[.int k1 b, .int k2 d, .int k3 f]) := by rw [h, h', h2]
set_option maxRecDepth 100000 in
set_option maxHeartbeats 4000000 in
theorem rfix103_120 (A0 : Option Addr) (c0 : Nat) (nx : List Int) (A1 : Option Addr) (c1 : Nat) (mk : List Int) (s : ByteArray) (i : Nat) (x y z : Int) (w : World) (hr0 : Kd.C (Kd.int .i64) w A0 nx.length nx) (hc0 : nx.length ≤ c0) (hr1 : Kd.C (Kd.int .i64) w A1 mk.length mk) (hc1 : mk.length ≤ c1) (hsz : s.size ≤ 1000000000) (a : Fm) (k : Nat) (set cnt : Int) (l : List Nat) (hd : (cs s).drop i = 103 :: 120 :: (str a ++ l)) (ih : ∀ j, j < k → ∀ x y z res, rholdF nx mk j a (x, y, z) = some res → RHoldsC nx mk a x y z res) (hf : rloopF nx mk k 120 a (allOf nx) 1 (x, y, z) = some (set, cnt)) :
    Calls Try.prog 53 #[.agg #[.slice A0 nx.length c0, .slice A1 mk.length c1], .string s, .int .i64 i, .agg #[.int .i64 x, .int .i64 y, .int .i64 z]] w fun e w' => e = .returned (.tuple #[.int .i64 set, .int .i64 ((i : Int) + (((str a).length + 2 : Nat) : Int)), .int .i64 cnt]) ∧ Below w.heap.size w w' := by
  have IH := Lib.hid ih
  have HF := Lib.hid hf
  clear ih hf
  obtain ⟨hi, hch, hrest⟩ := drop_at hd
  have hi2 : (i : Int) < (s.size : Int) := by omega
  have HD := Lib.hid hrest
  clear hrest hd
  obtain ⟨hi3, hch2, hrest2⟩ := drop_at HD.out
  have HD2 := Lib.hid hrest2
  have hi4 : (i : Int) + 1 < (s.size : Int) := by omega
  have hla := app_len HD2.out (by omega)
  clear HD hrest2
  have hu := Try.underlying24
  have hu2 := Try.underlying71
  have HR0 := Lib.hid hr0
  have HR1 := Lib.hid hr1
  have hle := hr0.2.1
  have hle1 := hr1.2.1
  clear hr0 hr1
  go_enter Try.func53, Try.ntmps53
  go_wp2_with (first | ((with_reducible refine gate_dst (N := 4) rfl ?_); refine box_event ?hg (N := 4) ?hd (cs := #[.slice A0 nx.length c0, .slice A1 mk.length c1]) (t := 24) ?hr ?_; (case hd => rfl); (case hg => rfl); (case hr => first | (go_simp; done) | (go_simp; rfl)); intro gw hgw wb hbw hbb; have HGW := Lib.hid hbw; have HBW := Lib.hid (bst (Below.refl w.heap.size w) hbb); have HGE := Lib.hid (Nat.le_of_eq hgw.symm); clear hgw hbw hbb) | ((with_reducible refine gate_dst (N := 7) rfl ?_); refine box_event ?hg (N := 7) ?hd (cs := #[.int .i64 x, .int .i64 y, .int .i64 z]) (t := 71) ?hr ?_; (case hd => rfl); (case hg => rfl); (case hr => first | (go_simp; done) | (go_simp; rfl)); intro gs hgs wc hbs hbb; have k0_ := Lib.hid (blk_below HGW.out hbb); have k1_ := Lib.hid (bst HBW.out hbb); have HSE := Lib.hid (And.intro (Nat.le_trans HBW.out.size (Nat.le_of_eq hgs.symm)) (show gw ≠ gs from fun e => by have h1 := blk_lt HGW.out; omega)); clear HGW HBW; have HGW := k0_; have HBW := k1_; clear k0_ k1_; have HGS := Lib.hid hbs; have hw0 : wc.cell? ⟨gw, 0, none⟩ = some (.slice A0 nx.length c0) := (blk_cell HGW.out 0).trans rfl; have hw1 : wc.cell? ⟨gw, 1, none⟩ = some (.slice A1 mk.length c1) := (blk_cell HGW.out 1).trans rfl; have hs0 : wc.cell? ⟨gs, 0, none⟩ = some (.int .i64 x) := (blk_cell HGS.out 0).trans rfl; have hs1 : wc.cell? ⟨gs, 1, none⟩ = some (.int .i64 y) := (blk_cell HGS.out 1).trans rfl; have hs2 : wc.cell? ⟨gs, 2, none⟩ = some (.int .i64 z) := (blk_cell HGS.out 2).trans rfl; clear hgs hbs hbb) | fail)
  clear hs0 hs1 hs2
  go_loopg [11, 12] k (fun kq v11 v12 wr => ∃ (st ct x1 y1 z1 : Int), v11 = .int .i64 st ∧ v12 = .int .i64 ct ∧ Hid (kq ≤ k) ∧ Hid (rloopF nx mk kq 120 a st ct (x1, y1, z1) = some (set, cnt)) ∧ wr.cell? ⟨gw, 0, none⟩ = some (.slice A0 nx.length c0) ∧ wr.cell? ⟨gw, 1, none⟩ = some (.slice A1 mk.length c1) ∧ Hid (wr.heap[gs]? = some (.cells #[.int .i64 x1, .int .i64 y1, .int .i64 z1] 71 (0, 0))) ∧ Hid (Below w.heap.size w wr))
  case atStart => exact ⟨_, _, x, y, z, by first | rfl | (rw [allOf_eq]), rfl, Nat.le_refl _, HF.out, hw0, hw1, HGS.out, HBW.out⟩
  case round =>
    clear hw0 hw1 HGS HBW HF HGW
    obtain ⟨st, ct, x1, y1, z1, rfl, rfl, HK, HF, hw0, hw1, HGS, HBW⟩ := hrel
    cases gk with
    | zero => exact absurd HF.out (by simp [rloopF])
    | succ kq =>
      have hf := HF.out
      simp only [rloopF, setL] at hf
      obtain ⟨nxt, hp, hf⟩ := Option.bind_eq_some_iff.mp hf
      have HPP := Lib.hid hp
      have HF1 := Lib.hid hf
      clear hp hf HF
      go_wp2_with fail
      refine (PA.r8letter.calls ((120 : Nat) : Int) 0 _ rfl).mono ?_
      rintro e wd ⟨rfl, hd⟩
      have j0_ := cell_drawn hd hw0
      have j1_ := cell_drawn hd hw1
      have n0_ := Lib.hid (below_drawn HBW.out hd)
      have n1_ := Lib.hid (blk_drawn hd HGS.out)
      clear hw0 hw1 HBW HGS hd
      have hw0 := j0_
      have hw1 := j1_
      have HBW := n0_
      have HGS := n1_
      clear j0_ j1_ n0_ n1_
      have hs0 : wd.cell? ⟨gs, 0, none⟩ = some (.int .i64 x1) := (blk_cell HGS.out 0).trans rfl
      have hs1 : wd.cell? ⟨gs, 1, none⟩ = some (.int .i64 y1) := (blk_cell HGS.out 1).trans rfl
      have hs2 : wd.cell? ⟨gs, 2, none⟩ = some (.int .i64 z1) := (blk_cell HGS.out 2).trans rfl
      have hfr := blk_frozen HGS.out 0
      have HSET := Lib.hid (show (wd.setCell ⟨gs, 0, none⟩ (.int .i64 st)).heap[gs]? = some (.cells #[.int .i64 st, .int .i64 y1, .int .i64 z1] 71 (0, 0)) from by simpa using blk_set HGS.out 0 (.int .i64 st))
      have HBS := Lib.hid (HBW.out.setCell (p := ⟨gs, 0, none⟩) HSE.out.1 (.int .i64 st))
      have g0 : (wd.setCell ⟨gs, 0, none⟩ (.int .i64 st)).cell? ⟨gw, 0, none⟩ = some (.slice A0 nx.length c0) := (cell_set_other _ HSE.out.2).trans hw0
      have g1 : (wd.setCell ⟨gs, 0, none⟩ (.int .i64 st)).cell? ⟨gw, 1, none⟩ = some (.slice A1 mk.length c1) := (cell_set_other _ HSE.out.2).trans hw1
      have t0 : (wd.setCell ⟨gs, 0, none⟩ (.int .i64 st)).cell? ⟨gs, 0, none⟩ = some (.int .i64 st) := (blk_cell HSET.out 0).trans rfl
      have t1 : (wd.setCell ⟨gs, 0, none⟩ (.int .i64 st)).cell? ⟨gs, 1, none⟩ = some (.int .i64 y1) := (blk_cell HSET.out 1).trans rfl
      have t2 : (wd.setCell ⟨gs, 0, none⟩ (.int .i64 st)).cell? ⟨gs, 2, none⟩ = some (.int .i64 z1) := (blk_cell HSET.out 2).trans rfl
      go_wp2_with fail
      refine (IH.out kq (by have := HK.out; omega) st y1 z1 nxt HPP.out A0 c0 A1 c1 s ((i : Int) + 2) (i + 2) l _ (Kd.C_below HR0.out HBS.out) hc0 (Kd.C_below HR1.out HBS.out) hc1 hsz (by omega) HD2.out).mono ?_
      rintro e w1 ⟨rfl, hb⟩
      have j0_ := pwc hb g0
      have j1_ := pwc hb g1
      have n0_ := Lib.hid (bst HBS.out hb)
      have n1_ := Lib.hid (blk_below HSET.out hb)
      clear hw0 hw1 hs0 hs1 hs2 hfr HBW HGS hb HSET HBS g0 g1 t0 t1 t2
      by_cases he : nxt = st
      · have e1 : (nxt == st) = true := beq_iff_eq.2 he
        have HE := Lib.hid he
        clear he
        go_wp2
        go_ret3
        have hf := HF1.out
        rw [if_pos HE.out] at hf
        simp only [Option.some.injEq, Prod.mk.injEq] at hf
        obtain ⟨h1, h2⟩ := hf
        exact ⟨ret3_int h1 (by omega) h2, n0_.out⟩
      · have e1 : (nxt == st) = false := beq_eq_false_iff_ne.2 he
        have HE := Lib.hid he
        clear he
        go_wp2
        go_roundg kq
        case measure => omega
        case rel =>
          have hf := HF1.out
          rw [if_neg HE.out] at hf
          exact ⟨_, _, _, _, _, rfl, rfl, by have := HK.out; exact (by omega : kq ≤ k), hf, j0_, j1_, n1_, n0_⟩
set_option maxRecDepth 100000 in
set_option maxHeartbeats 4000000 in
theorem rfix103_121 (A0 : Option Addr) (c0 : Nat) (nx : List Int) (A1 : Option Addr) (c1 : Nat) (mk : List Int) (s : ByteArray) (i : Nat) (x y z : Int) (w : World) (hr0 : Kd.C (Kd.int .i64) w A0 nx.length nx) (hc0 : nx.length ≤ c0) (hr1 : Kd.C (Kd.int .i64) w A1 mk.length mk) (hc1 : mk.length ≤ c1) (hsz : s.size ≤ 1000000000) (a : Fm) (k : Nat) (set cnt : Int) (l : List Nat) (hd : (cs s).drop i = 103 :: 121 :: (str a ++ l)) (ih : ∀ j, j < k → ∀ x y z res, rholdF nx mk j a (x, y, z) = some res → RHoldsC nx mk a x y z res) (hf : rloopF nx mk k 121 a (allOf nx) 1 (x, y, z) = some (set, cnt)) :
    Calls Try.prog 53 #[.agg #[.slice A0 nx.length c0, .slice A1 mk.length c1], .string s, .int .i64 i, .agg #[.int .i64 x, .int .i64 y, .int .i64 z]] w fun e w' => e = .returned (.tuple #[.int .i64 set, .int .i64 ((i : Int) + (((str a).length + 2 : Nat) : Int)), .int .i64 cnt]) ∧ Below w.heap.size w w' := by
  have IH := Lib.hid ih
  have HF := Lib.hid hf
  clear ih hf
  obtain ⟨hi, hch, hrest⟩ := drop_at hd
  have hi2 : (i : Int) < (s.size : Int) := by omega
  have HD := Lib.hid hrest
  clear hrest hd
  obtain ⟨hi3, hch2, hrest2⟩ := drop_at HD.out
  have HD2 := Lib.hid hrest2
  have hi4 : (i : Int) + 1 < (s.size : Int) := by omega
  have hla := app_len HD2.out (by omega)
  clear HD hrest2
  have hu := Try.underlying24
  have hu2 := Try.underlying71
  have HR0 := Lib.hid hr0
  have HR1 := Lib.hid hr1
  have hle := hr0.2.1
  have hle1 := hr1.2.1
  clear hr0 hr1
  go_enter Try.func53, Try.ntmps53
  go_wp2_with (first | ((with_reducible refine gate_dst (N := 4) rfl ?_); refine box_event ?hg (N := 4) ?hd (cs := #[.slice A0 nx.length c0, .slice A1 mk.length c1]) (t := 24) ?hr ?_; (case hd => rfl); (case hg => rfl); (case hr => first | (go_simp; done) | (go_simp; rfl)); intro gw hgw wb hbw hbb; have HGW := Lib.hid hbw; have HBW := Lib.hid (bst (Below.refl w.heap.size w) hbb); have HGE := Lib.hid (Nat.le_of_eq hgw.symm); clear hgw hbw hbb) | ((with_reducible refine gate_dst (N := 7) rfl ?_); refine box_event ?hg (N := 7) ?hd (cs := #[.int .i64 x, .int .i64 y, .int .i64 z]) (t := 71) ?hr ?_; (case hd => rfl); (case hg => rfl); (case hr => first | (go_simp; done) | (go_simp; rfl)); intro gs hgs wc hbs hbb; have k0_ := Lib.hid (blk_below HGW.out hbb); have k1_ := Lib.hid (bst HBW.out hbb); have HSE := Lib.hid (And.intro (Nat.le_trans HBW.out.size (Nat.le_of_eq hgs.symm)) (show gw ≠ gs from fun e => by have h1 := blk_lt HGW.out; omega)); clear HGW HBW; have HGW := k0_; have HBW := k1_; clear k0_ k1_; have HGS := Lib.hid hbs; have hw0 : wc.cell? ⟨gw, 0, none⟩ = some (.slice A0 nx.length c0) := (blk_cell HGW.out 0).trans rfl; have hw1 : wc.cell? ⟨gw, 1, none⟩ = some (.slice A1 mk.length c1) := (blk_cell HGW.out 1).trans rfl; have hs0 : wc.cell? ⟨gs, 0, none⟩ = some (.int .i64 x) := (blk_cell HGS.out 0).trans rfl; have hs1 : wc.cell? ⟨gs, 1, none⟩ = some (.int .i64 y) := (blk_cell HGS.out 1).trans rfl; have hs2 : wc.cell? ⟨gs, 2, none⟩ = some (.int .i64 z) := (blk_cell HGS.out 2).trans rfl; clear hgs hbs hbb) | fail)
  clear hs0 hs1 hs2
  go_loopg [11, 12] k (fun kq v11 v12 wr => ∃ (st ct x1 y1 z1 : Int), v11 = .int .i64 st ∧ v12 = .int .i64 ct ∧ Hid (kq ≤ k) ∧ Hid (rloopF nx mk kq 121 a st ct (x1, y1, z1) = some (set, cnt)) ∧ wr.cell? ⟨gw, 0, none⟩ = some (.slice A0 nx.length c0) ∧ wr.cell? ⟨gw, 1, none⟩ = some (.slice A1 mk.length c1) ∧ Hid (wr.heap[gs]? = some (.cells #[.int .i64 x1, .int .i64 y1, .int .i64 z1] 71 (0, 0))) ∧ Hid (Below w.heap.size w wr))
  case atStart => exact ⟨_, _, x, y, z, by first | rfl | (rw [allOf_eq]), rfl, Nat.le_refl _, HF.out, hw0, hw1, HGS.out, HBW.out⟩
  case round =>
    clear hw0 hw1 HGS HBW HF HGW
    obtain ⟨st, ct, x1, y1, z1, rfl, rfl, HK, HF, hw0, hw1, HGS, HBW⟩ := hrel
    cases gk with
    | zero => exact absurd HF.out (by simp [rloopF])
    | succ kq =>
      have hf := HF.out
      simp only [rloopF, setL] at hf
      obtain ⟨nxt, hp, hf⟩ := Option.bind_eq_some_iff.mp hf
      have HPP := Lib.hid hp
      have HF1 := Lib.hid hf
      clear hp hf HF
      go_wp2_with fail
      refine (PA.r8letter.calls ((121 : Nat) : Int) 1 _ rfl).mono ?_
      rintro e wd ⟨rfl, hd⟩
      have j0_ := cell_drawn hd hw0
      have j1_ := cell_drawn hd hw1
      have n0_ := Lib.hid (below_drawn HBW.out hd)
      have n1_ := Lib.hid (blk_drawn hd HGS.out)
      clear hw0 hw1 HBW HGS hd
      have hw0 := j0_
      have hw1 := j1_
      have HBW := n0_
      have HGS := n1_
      clear j0_ j1_ n0_ n1_
      have hs0 : wd.cell? ⟨gs, 0, none⟩ = some (.int .i64 x1) := (blk_cell HGS.out 0).trans rfl
      have hs1 : wd.cell? ⟨gs, 1, none⟩ = some (.int .i64 y1) := (blk_cell HGS.out 1).trans rfl
      have hs2 : wd.cell? ⟨gs, 2, none⟩ = some (.int .i64 z1) := (blk_cell HGS.out 2).trans rfl
      have hfr := blk_frozen HGS.out 1
      have HSET := Lib.hid (show (wd.setCell ⟨gs, 1, none⟩ (.int .i64 st)).heap[gs]? = some (.cells #[.int .i64 x1, .int .i64 st, .int .i64 z1] 71 (0, 0)) from by simpa using blk_set HGS.out 1 (.int .i64 st))
      have HBS := Lib.hid (HBW.out.setCell (p := ⟨gs, 1, none⟩) HSE.out.1 (.int .i64 st))
      have g0 : (wd.setCell ⟨gs, 1, none⟩ (.int .i64 st)).cell? ⟨gw, 0, none⟩ = some (.slice A0 nx.length c0) := (cell_set_other _ HSE.out.2).trans hw0
      have g1 : (wd.setCell ⟨gs, 1, none⟩ (.int .i64 st)).cell? ⟨gw, 1, none⟩ = some (.slice A1 mk.length c1) := (cell_set_other _ HSE.out.2).trans hw1
      have t0 : (wd.setCell ⟨gs, 1, none⟩ (.int .i64 st)).cell? ⟨gs, 0, none⟩ = some (.int .i64 x1) := (blk_cell HSET.out 0).trans rfl
      have t1 : (wd.setCell ⟨gs, 1, none⟩ (.int .i64 st)).cell? ⟨gs, 1, none⟩ = some (.int .i64 st) := (blk_cell HSET.out 1).trans rfl
      have t2 : (wd.setCell ⟨gs, 1, none⟩ (.int .i64 st)).cell? ⟨gs, 2, none⟩ = some (.int .i64 z1) := (blk_cell HSET.out 2).trans rfl
      go_wp2_with fail
      refine (IH.out kq (by have := HK.out; omega) x1 st z1 nxt HPP.out A0 c0 A1 c1 s ((i : Int) + 2) (i + 2) l _ (Kd.C_below HR0.out HBS.out) hc0 (Kd.C_below HR1.out HBS.out) hc1 hsz (by omega) HD2.out).mono ?_
      rintro e w1 ⟨rfl, hb⟩
      have j0_ := pwc hb g0
      have j1_ := pwc hb g1
      have n0_ := Lib.hid (bst HBS.out hb)
      have n1_ := Lib.hid (blk_below HSET.out hb)
      clear hw0 hw1 hs0 hs1 hs2 hfr HBW HGS hb HSET HBS g0 g1 t0 t1 t2
      by_cases he : nxt = st
      · have e1 : (nxt == st) = true := beq_iff_eq.2 he
        have HE := Lib.hid he
        clear he
        go_wp2
        go_ret3
        have hf := HF1.out
        rw [if_pos HE.out] at hf
        simp only [Option.some.injEq, Prod.mk.injEq] at hf
        obtain ⟨h1, h2⟩ := hf
        exact ⟨ret3_int h1 (by omega) h2, n0_.out⟩
      · have e1 : (nxt == st) = false := beq_eq_false_iff_ne.2 he
        have HE := Lib.hid he
        clear he
        go_wp2
        go_roundg kq
        case measure => omega
        case rel =>
          have hf := HF1.out
          rw [if_neg HE.out] at hf
          exact ⟨_, _, _, _, _, rfl, rfl, by have := HK.out; exact (by omega : kq ≤ k), hf, j0_, j1_, n1_, n0_⟩
set_option maxRecDepth 100000 in
set_option maxHeartbeats 4000000 in
theorem rfix103_122 (A0 : Option Addr) (c0 : Nat) (nx : List Int) (A1 : Option Addr) (c1 : Nat) (mk : List Int) (s : ByteArray) (i : Nat) (x y z : Int) (w : World) (hr0 : Kd.C (Kd.int .i64) w A0 nx.length nx) (hc0 : nx.length ≤ c0) (hr1 : Kd.C (Kd.int .i64) w A1 mk.length mk) (hc1 : mk.length ≤ c1) (hsz : s.size ≤ 1000000000) (a : Fm) (k : Nat) (set cnt : Int) (l : List Nat) (hd : (cs s).drop i = 103 :: 122 :: (str a ++ l)) (ih : ∀ j, j < k → ∀ x y z res, rholdF nx mk j a (x, y, z) = some res → RHoldsC nx mk a x y z res) (hf : rloopF nx mk k 122 a (allOf nx) 1 (x, y, z) = some (set, cnt)) :
    Calls Try.prog 53 #[.agg #[.slice A0 nx.length c0, .slice A1 mk.length c1], .string s, .int .i64 i, .agg #[.int .i64 x, .int .i64 y, .int .i64 z]] w fun e w' => e = .returned (.tuple #[.int .i64 set, .int .i64 ((i : Int) + (((str a).length + 2 : Nat) : Int)), .int .i64 cnt]) ∧ Below w.heap.size w w' := by
  have IH := Lib.hid ih
  have HF := Lib.hid hf
  clear ih hf
  obtain ⟨hi, hch, hrest⟩ := drop_at hd
  have hi2 : (i : Int) < (s.size : Int) := by omega
  have HD := Lib.hid hrest
  clear hrest hd
  obtain ⟨hi3, hch2, hrest2⟩ := drop_at HD.out
  have HD2 := Lib.hid hrest2
  have hi4 : (i : Int) + 1 < (s.size : Int) := by omega
  have hla := app_len HD2.out (by omega)
  clear HD hrest2
  have hu := Try.underlying24
  have hu2 := Try.underlying71
  have HR0 := Lib.hid hr0
  have HR1 := Lib.hid hr1
  have hle := hr0.2.1
  have hle1 := hr1.2.1
  clear hr0 hr1
  go_enter Try.func53, Try.ntmps53
  go_wp2_with (first | ((with_reducible refine gate_dst (N := 4) rfl ?_); refine box_event ?hg (N := 4) ?hd (cs := #[.slice A0 nx.length c0, .slice A1 mk.length c1]) (t := 24) ?hr ?_; (case hd => rfl); (case hg => rfl); (case hr => first | (go_simp; done) | (go_simp; rfl)); intro gw hgw wb hbw hbb; have HGW := Lib.hid hbw; have HBW := Lib.hid (bst (Below.refl w.heap.size w) hbb); have HGE := Lib.hid (Nat.le_of_eq hgw.symm); clear hgw hbw hbb) | ((with_reducible refine gate_dst (N := 7) rfl ?_); refine box_event ?hg (N := 7) ?hd (cs := #[.int .i64 x, .int .i64 y, .int .i64 z]) (t := 71) ?hr ?_; (case hd => rfl); (case hg => rfl); (case hr => first | (go_simp; done) | (go_simp; rfl)); intro gs hgs wc hbs hbb; have k0_ := Lib.hid (blk_below HGW.out hbb); have k1_ := Lib.hid (bst HBW.out hbb); have HSE := Lib.hid (And.intro (Nat.le_trans HBW.out.size (Nat.le_of_eq hgs.symm)) (show gw ≠ gs from fun e => by have h1 := blk_lt HGW.out; omega)); clear HGW HBW; have HGW := k0_; have HBW := k1_; clear k0_ k1_; have HGS := Lib.hid hbs; have hw0 : wc.cell? ⟨gw, 0, none⟩ = some (.slice A0 nx.length c0) := (blk_cell HGW.out 0).trans rfl; have hw1 : wc.cell? ⟨gw, 1, none⟩ = some (.slice A1 mk.length c1) := (blk_cell HGW.out 1).trans rfl; have hs0 : wc.cell? ⟨gs, 0, none⟩ = some (.int .i64 x) := (blk_cell HGS.out 0).trans rfl; have hs1 : wc.cell? ⟨gs, 1, none⟩ = some (.int .i64 y) := (blk_cell HGS.out 1).trans rfl; have hs2 : wc.cell? ⟨gs, 2, none⟩ = some (.int .i64 z) := (blk_cell HGS.out 2).trans rfl; clear hgs hbs hbb) | fail)
  clear hs0 hs1 hs2
  go_loopg [11, 12] k (fun kq v11 v12 wr => ∃ (st ct x1 y1 z1 : Int), v11 = .int .i64 st ∧ v12 = .int .i64 ct ∧ Hid (kq ≤ k) ∧ Hid (rloopF nx mk kq 122 a st ct (x1, y1, z1) = some (set, cnt)) ∧ wr.cell? ⟨gw, 0, none⟩ = some (.slice A0 nx.length c0) ∧ wr.cell? ⟨gw, 1, none⟩ = some (.slice A1 mk.length c1) ∧ Hid (wr.heap[gs]? = some (.cells #[.int .i64 x1, .int .i64 y1, .int .i64 z1] 71 (0, 0))) ∧ Hid (Below w.heap.size w wr))
  case atStart => exact ⟨_, _, x, y, z, by first | rfl | (rw [allOf_eq]), rfl, Nat.le_refl _, HF.out, hw0, hw1, HGS.out, HBW.out⟩
  case round =>
    clear hw0 hw1 HGS HBW HF HGW
    obtain ⟨st, ct, x1, y1, z1, rfl, rfl, HK, HF, hw0, hw1, HGS, HBW⟩ := hrel
    cases gk with
    | zero => exact absurd HF.out (by simp [rloopF])
    | succ kq =>
      have hf := HF.out
      simp only [rloopF, setL] at hf
      obtain ⟨nxt, hp, hf⟩ := Option.bind_eq_some_iff.mp hf
      have HPP := Lib.hid hp
      have HF1 := Lib.hid hf
      clear hp hf HF
      go_wp2_with fail
      refine (PA.r8letter.calls ((122 : Nat) : Int) 2 _ rfl).mono ?_
      rintro e wd ⟨rfl, hd⟩
      have j0_ := cell_drawn hd hw0
      have j1_ := cell_drawn hd hw1
      have n0_ := Lib.hid (below_drawn HBW.out hd)
      have n1_ := Lib.hid (blk_drawn hd HGS.out)
      clear hw0 hw1 HBW HGS hd
      have hw0 := j0_
      have hw1 := j1_
      have HBW := n0_
      have HGS := n1_
      clear j0_ j1_ n0_ n1_
      have hs0 : wd.cell? ⟨gs, 0, none⟩ = some (.int .i64 x1) := (blk_cell HGS.out 0).trans rfl
      have hs1 : wd.cell? ⟨gs, 1, none⟩ = some (.int .i64 y1) := (blk_cell HGS.out 1).trans rfl
      have hs2 : wd.cell? ⟨gs, 2, none⟩ = some (.int .i64 z1) := (blk_cell HGS.out 2).trans rfl
      have hfr := blk_frozen HGS.out 2
      have HSET := Lib.hid (show (wd.setCell ⟨gs, 2, none⟩ (.int .i64 st)).heap[gs]? = some (.cells #[.int .i64 x1, .int .i64 y1, .int .i64 st] 71 (0, 0)) from by simpa using blk_set HGS.out 2 (.int .i64 st))
      have HBS := Lib.hid (HBW.out.setCell (p := ⟨gs, 2, none⟩) HSE.out.1 (.int .i64 st))
      have g0 : (wd.setCell ⟨gs, 2, none⟩ (.int .i64 st)).cell? ⟨gw, 0, none⟩ = some (.slice A0 nx.length c0) := (cell_set_other _ HSE.out.2).trans hw0
      have g1 : (wd.setCell ⟨gs, 2, none⟩ (.int .i64 st)).cell? ⟨gw, 1, none⟩ = some (.slice A1 mk.length c1) := (cell_set_other _ HSE.out.2).trans hw1
      have t0 : (wd.setCell ⟨gs, 2, none⟩ (.int .i64 st)).cell? ⟨gs, 0, none⟩ = some (.int .i64 x1) := (blk_cell HSET.out 0).trans rfl
      have t1 : (wd.setCell ⟨gs, 2, none⟩ (.int .i64 st)).cell? ⟨gs, 1, none⟩ = some (.int .i64 y1) := (blk_cell HSET.out 1).trans rfl
      have t2 : (wd.setCell ⟨gs, 2, none⟩ (.int .i64 st)).cell? ⟨gs, 2, none⟩ = some (.int .i64 st) := (blk_cell HSET.out 2).trans rfl
      go_wp2_with fail
      refine (IH.out kq (by have := HK.out; omega) x1 y1 st nxt HPP.out A0 c0 A1 c1 s ((i : Int) + 2) (i + 2) l _ (Kd.C_below HR0.out HBS.out) hc0 (Kd.C_below HR1.out HBS.out) hc1 hsz (by omega) HD2.out).mono ?_
      rintro e w1 ⟨rfl, hb⟩
      have j0_ := pwc hb g0
      have j1_ := pwc hb g1
      have n0_ := Lib.hid (bst HBS.out hb)
      have n1_ := Lib.hid (blk_below HSET.out hb)
      clear hw0 hw1 hs0 hs1 hs2 hfr HBW HGS hb HSET HBS g0 g1 t0 t1 t2
      by_cases he : nxt = st
      · have e1 : (nxt == st) = true := beq_iff_eq.2 he
        have HE := Lib.hid he
        clear he
        go_wp2
        go_ret3
        have hf := HF1.out
        rw [if_pos HE.out] at hf
        simp only [Option.some.injEq, Prod.mk.injEq] at hf
        obtain ⟨h1, h2⟩ := hf
        exact ⟨ret3_int h1 (by omega) h2, n0_.out⟩
      · have e1 : (nxt == st) = false := beq_eq_false_iff_ne.2 he
        have HE := Lib.hid he
        clear he
        go_wp2
        go_roundg kq
        case measure => omega
        case rel =>
          have hf := HF1.out
          rw [if_neg HE.out] at hf
          exact ⟨_, _, _, _, _, rfl, rfl, by have := HK.out; exact (by omega : kq ≤ k), hf, j0_, j1_, n1_, n0_⟩
set_option maxRecDepth 100000 in
set_option maxHeartbeats 4000000 in
theorem rfix109_120 (A0 : Option Addr) (c0 : Nat) (nx : List Int) (A1 : Option Addr) (c1 : Nat) (mk : List Int) (s : ByteArray) (i : Nat) (x y z : Int) (w : World) (hr0 : Kd.C (Kd.int .i64) w A0 nx.length nx) (hc0 : nx.length ≤ c0) (hr1 : Kd.C (Kd.int .i64) w A1 mk.length mk) (hc1 : mk.length ≤ c1) (hsz : s.size ≤ 1000000000) (a : Fm) (k : Nat) (set cnt : Int) (l : List Nat) (hd : (cs s).drop i = 109 :: 120 :: (str a ++ l)) (ih : ∀ j, j < k → ∀ x y z res, rholdF nx mk j a (x, y, z) = some res → RHoldsC nx mk a x y z res) (hf : rloopF nx mk k 120 a 0 1 (x, y, z) = some (set, cnt)) :
    Calls Try.prog 53 #[.agg #[.slice A0 nx.length c0, .slice A1 mk.length c1], .string s, .int .i64 i, .agg #[.int .i64 x, .int .i64 y, .int .i64 z]] w fun e w' => e = .returned (.tuple #[.int .i64 set, .int .i64 ((i : Int) + (((str a).length + 2 : Nat) : Int)), .int .i64 cnt]) ∧ Below w.heap.size w w' := by
  have IH := Lib.hid ih
  have HF := Lib.hid hf
  clear ih hf
  obtain ⟨hi, hch, hrest⟩ := drop_at hd
  have hi2 : (i : Int) < (s.size : Int) := by omega
  have HD := Lib.hid hrest
  clear hrest hd
  obtain ⟨hi3, hch2, hrest2⟩ := drop_at HD.out
  have HD2 := Lib.hid hrest2
  have hi4 : (i : Int) + 1 < (s.size : Int) := by omega
  have hla := app_len HD2.out (by omega)
  clear HD hrest2
  have hu := Try.underlying24
  have hu2 := Try.underlying71
  have HR0 := Lib.hid hr0
  have HR1 := Lib.hid hr1
  have hle := hr0.2.1
  have hle1 := hr1.2.1
  clear hr0 hr1
  go_enter Try.func53, Try.ntmps53
  go_wp2_with (first | ((with_reducible refine gate_dst (N := 4) rfl ?_); refine box_event ?hg (N := 4) ?hd (cs := #[.slice A0 nx.length c0, .slice A1 mk.length c1]) (t := 24) ?hr ?_; (case hd => rfl); (case hg => rfl); (case hr => first | (go_simp; done) | (go_simp; rfl)); intro gw hgw wb hbw hbb; have HGW := Lib.hid hbw; have HBW := Lib.hid (bst (Below.refl w.heap.size w) hbb); have HGE := Lib.hid (Nat.le_of_eq hgw.symm); clear hgw hbw hbb) | ((with_reducible refine gate_dst (N := 7) rfl ?_); refine box_event ?hg (N := 7) ?hd (cs := #[.int .i64 x, .int .i64 y, .int .i64 z]) (t := 71) ?hr ?_; (case hd => rfl); (case hg => rfl); (case hr => first | (go_simp; done) | (go_simp; rfl)); intro gs hgs wc hbs hbb; have k0_ := Lib.hid (blk_below HGW.out hbb); have k1_ := Lib.hid (bst HBW.out hbb); have HSE := Lib.hid (And.intro (Nat.le_trans HBW.out.size (Nat.le_of_eq hgs.symm)) (show gw ≠ gs from fun e => by have h1 := blk_lt HGW.out; omega)); clear HGW HBW; have HGW := k0_; have HBW := k1_; clear k0_ k1_; have HGS := Lib.hid hbs; have hw0 : wc.cell? ⟨gw, 0, none⟩ = some (.slice A0 nx.length c0) := (blk_cell HGW.out 0).trans rfl; have hw1 : wc.cell? ⟨gw, 1, none⟩ = some (.slice A1 mk.length c1) := (blk_cell HGW.out 1).trans rfl; have hs0 : wc.cell? ⟨gs, 0, none⟩ = some (.int .i64 x) := (blk_cell HGS.out 0).trans rfl; have hs1 : wc.cell? ⟨gs, 1, none⟩ = some (.int .i64 y) := (blk_cell HGS.out 1).trans rfl; have hs2 : wc.cell? ⟨gs, 2, none⟩ = some (.int .i64 z) := (blk_cell HGS.out 2).trans rfl; clear hgs hbs hbb) | fail)
  clear hs0 hs1 hs2
  go_loopg [11, 12] k (fun kq v11 v12 wr => ∃ (st ct x1 y1 z1 : Int), v11 = .int .i64 st ∧ v12 = .int .i64 ct ∧ Hid (kq ≤ k) ∧ Hid (rloopF nx mk kq 120 a st ct (x1, y1, z1) = some (set, cnt)) ∧ wr.cell? ⟨gw, 0, none⟩ = some (.slice A0 nx.length c0) ∧ wr.cell? ⟨gw, 1, none⟩ = some (.slice A1 mk.length c1) ∧ Hid (wr.heap[gs]? = some (.cells #[.int .i64 x1, .int .i64 y1, .int .i64 z1] 71 (0, 0))) ∧ Hid (Below w.heap.size w wr))
  case atStart => exact ⟨_, _, x, y, z, by first | rfl | (rw [allOf_eq]), rfl, Nat.le_refl _, HF.out, hw0, hw1, HGS.out, HBW.out⟩
  case round =>
    clear hw0 hw1 HGS HBW HF HGW
    obtain ⟨st, ct, x1, y1, z1, rfl, rfl, HK, HF, hw0, hw1, HGS, HBW⟩ := hrel
    cases gk with
    | zero => exact absurd HF.out (by simp [rloopF])
    | succ kq =>
      have hf := HF.out
      simp only [rloopF, setL] at hf
      obtain ⟨nxt, hp, hf⟩ := Option.bind_eq_some_iff.mp hf
      have HPP := Lib.hid hp
      have HF1 := Lib.hid hf
      clear hp hf HF
      go_wp2_with fail
      refine (PA.r8letter.calls ((120 : Nat) : Int) 0 _ rfl).mono ?_
      rintro e wd ⟨rfl, hd⟩
      have j0_ := cell_drawn hd hw0
      have j1_ := cell_drawn hd hw1
      have n0_ := Lib.hid (below_drawn HBW.out hd)
      have n1_ := Lib.hid (blk_drawn hd HGS.out)
      clear hw0 hw1 HBW HGS hd
      have hw0 := j0_
      have hw1 := j1_
      have HBW := n0_
      have HGS := n1_
      clear j0_ j1_ n0_ n1_
      have hs0 : wd.cell? ⟨gs, 0, none⟩ = some (.int .i64 x1) := (blk_cell HGS.out 0).trans rfl
      have hs1 : wd.cell? ⟨gs, 1, none⟩ = some (.int .i64 y1) := (blk_cell HGS.out 1).trans rfl
      have hs2 : wd.cell? ⟨gs, 2, none⟩ = some (.int .i64 z1) := (blk_cell HGS.out 2).trans rfl
      have hfr := blk_frozen HGS.out 0
      have HSET := Lib.hid (show (wd.setCell ⟨gs, 0, none⟩ (.int .i64 st)).heap[gs]? = some (.cells #[.int .i64 st, .int .i64 y1, .int .i64 z1] 71 (0, 0)) from by simpa using blk_set HGS.out 0 (.int .i64 st))
      have HBS := Lib.hid (HBW.out.setCell (p := ⟨gs, 0, none⟩) HSE.out.1 (.int .i64 st))
      have g0 : (wd.setCell ⟨gs, 0, none⟩ (.int .i64 st)).cell? ⟨gw, 0, none⟩ = some (.slice A0 nx.length c0) := (cell_set_other _ HSE.out.2).trans hw0
      have g1 : (wd.setCell ⟨gs, 0, none⟩ (.int .i64 st)).cell? ⟨gw, 1, none⟩ = some (.slice A1 mk.length c1) := (cell_set_other _ HSE.out.2).trans hw1
      have t0 : (wd.setCell ⟨gs, 0, none⟩ (.int .i64 st)).cell? ⟨gs, 0, none⟩ = some (.int .i64 st) := (blk_cell HSET.out 0).trans rfl
      have t1 : (wd.setCell ⟨gs, 0, none⟩ (.int .i64 st)).cell? ⟨gs, 1, none⟩ = some (.int .i64 y1) := (blk_cell HSET.out 1).trans rfl
      have t2 : (wd.setCell ⟨gs, 0, none⟩ (.int .i64 st)).cell? ⟨gs, 2, none⟩ = some (.int .i64 z1) := (blk_cell HSET.out 2).trans rfl
      go_wp2_with fail
      refine (IH.out kq (by have := HK.out; omega) st y1 z1 nxt HPP.out A0 c0 A1 c1 s ((i : Int) + 2) (i + 2) l _ (Kd.C_below HR0.out HBS.out) hc0 (Kd.C_below HR1.out HBS.out) hc1 hsz (by omega) HD2.out).mono ?_
      rintro e w1 ⟨rfl, hb⟩
      have j0_ := pwc hb g0
      have j1_ := pwc hb g1
      have n0_ := Lib.hid (bst HBS.out hb)
      have n1_ := Lib.hid (blk_below HSET.out hb)
      clear hw0 hw1 hs0 hs1 hs2 hfr HBW HGS hb HSET HBS g0 g1 t0 t1 t2
      by_cases he : nxt = st
      · have e1 : (nxt == st) = true := beq_iff_eq.2 he
        have HE := Lib.hid he
        clear he
        go_wp2
        go_ret3
        have hf := HF1.out
        rw [if_pos HE.out] at hf
        simp only [Option.some.injEq, Prod.mk.injEq] at hf
        obtain ⟨h1, h2⟩ := hf
        exact ⟨ret3_int h1 (by omega) h2, n0_.out⟩
      · have e1 : (nxt == st) = false := beq_eq_false_iff_ne.2 he
        have HE := Lib.hid he
        clear he
        go_wp2
        go_roundg kq
        case measure => omega
        case rel =>
          have hf := HF1.out
          rw [if_neg HE.out] at hf
          exact ⟨_, _, _, _, _, rfl, rfl, by have := HK.out; exact (by omega : kq ≤ k), hf, j0_, j1_, n1_, n0_⟩
set_option maxRecDepth 100000 in
set_option maxHeartbeats 4000000 in
theorem rfix109_121 (A0 : Option Addr) (c0 : Nat) (nx : List Int) (A1 : Option Addr) (c1 : Nat) (mk : List Int) (s : ByteArray) (i : Nat) (x y z : Int) (w : World) (hr0 : Kd.C (Kd.int .i64) w A0 nx.length nx) (hc0 : nx.length ≤ c0) (hr1 : Kd.C (Kd.int .i64) w A1 mk.length mk) (hc1 : mk.length ≤ c1) (hsz : s.size ≤ 1000000000) (a : Fm) (k : Nat) (set cnt : Int) (l : List Nat) (hd : (cs s).drop i = 109 :: 121 :: (str a ++ l)) (ih : ∀ j, j < k → ∀ x y z res, rholdF nx mk j a (x, y, z) = some res → RHoldsC nx mk a x y z res) (hf : rloopF nx mk k 121 a 0 1 (x, y, z) = some (set, cnt)) :
    Calls Try.prog 53 #[.agg #[.slice A0 nx.length c0, .slice A1 mk.length c1], .string s, .int .i64 i, .agg #[.int .i64 x, .int .i64 y, .int .i64 z]] w fun e w' => e = .returned (.tuple #[.int .i64 set, .int .i64 ((i : Int) + (((str a).length + 2 : Nat) : Int)), .int .i64 cnt]) ∧ Below w.heap.size w w' := by
  have IH := Lib.hid ih
  have HF := Lib.hid hf
  clear ih hf
  obtain ⟨hi, hch, hrest⟩ := drop_at hd
  have hi2 : (i : Int) < (s.size : Int) := by omega
  have HD := Lib.hid hrest
  clear hrest hd
  obtain ⟨hi3, hch2, hrest2⟩ := drop_at HD.out
  have HD2 := Lib.hid hrest2
  have hi4 : (i : Int) + 1 < (s.size : Int) := by omega
  have hla := app_len HD2.out (by omega)
  clear HD hrest2
  have hu := Try.underlying24
  have hu2 := Try.underlying71
  have HR0 := Lib.hid hr0
  have HR1 := Lib.hid hr1
  have hle := hr0.2.1
  have hle1 := hr1.2.1
  clear hr0 hr1
  go_enter Try.func53, Try.ntmps53
  go_wp2_with (first | ((with_reducible refine gate_dst (N := 4) rfl ?_); refine box_event ?hg (N := 4) ?hd (cs := #[.slice A0 nx.length c0, .slice A1 mk.length c1]) (t := 24) ?hr ?_; (case hd => rfl); (case hg => rfl); (case hr => first | (go_simp; done) | (go_simp; rfl)); intro gw hgw wb hbw hbb; have HGW := Lib.hid hbw; have HBW := Lib.hid (bst (Below.refl w.heap.size w) hbb); have HGE := Lib.hid (Nat.le_of_eq hgw.symm); clear hgw hbw hbb) | ((with_reducible refine gate_dst (N := 7) rfl ?_); refine box_event ?hg (N := 7) ?hd (cs := #[.int .i64 x, .int .i64 y, .int .i64 z]) (t := 71) ?hr ?_; (case hd => rfl); (case hg => rfl); (case hr => first | (go_simp; done) | (go_simp; rfl)); intro gs hgs wc hbs hbb; have k0_ := Lib.hid (blk_below HGW.out hbb); have k1_ := Lib.hid (bst HBW.out hbb); have HSE := Lib.hid (And.intro (Nat.le_trans HBW.out.size (Nat.le_of_eq hgs.symm)) (show gw ≠ gs from fun e => by have h1 := blk_lt HGW.out; omega)); clear HGW HBW; have HGW := k0_; have HBW := k1_; clear k0_ k1_; have HGS := Lib.hid hbs; have hw0 : wc.cell? ⟨gw, 0, none⟩ = some (.slice A0 nx.length c0) := (blk_cell HGW.out 0).trans rfl; have hw1 : wc.cell? ⟨gw, 1, none⟩ = some (.slice A1 mk.length c1) := (blk_cell HGW.out 1).trans rfl; have hs0 : wc.cell? ⟨gs, 0, none⟩ = some (.int .i64 x) := (blk_cell HGS.out 0).trans rfl; have hs1 : wc.cell? ⟨gs, 1, none⟩ = some (.int .i64 y) := (blk_cell HGS.out 1).trans rfl; have hs2 : wc.cell? ⟨gs, 2, none⟩ = some (.int .i64 z) := (blk_cell HGS.out 2).trans rfl; clear hgs hbs hbb) | fail)
  clear hs0 hs1 hs2
  go_loopg [11, 12] k (fun kq v11 v12 wr => ∃ (st ct x1 y1 z1 : Int), v11 = .int .i64 st ∧ v12 = .int .i64 ct ∧ Hid (kq ≤ k) ∧ Hid (rloopF nx mk kq 121 a st ct (x1, y1, z1) = some (set, cnt)) ∧ wr.cell? ⟨gw, 0, none⟩ = some (.slice A0 nx.length c0) ∧ wr.cell? ⟨gw, 1, none⟩ = some (.slice A1 mk.length c1) ∧ Hid (wr.heap[gs]? = some (.cells #[.int .i64 x1, .int .i64 y1, .int .i64 z1] 71 (0, 0))) ∧ Hid (Below w.heap.size w wr))
  case atStart => exact ⟨_, _, x, y, z, by first | rfl | (rw [allOf_eq]), rfl, Nat.le_refl _, HF.out, hw0, hw1, HGS.out, HBW.out⟩
  case round =>
    clear hw0 hw1 HGS HBW HF HGW
    obtain ⟨st, ct, x1, y1, z1, rfl, rfl, HK, HF, hw0, hw1, HGS, HBW⟩ := hrel
    cases gk with
    | zero => exact absurd HF.out (by simp [rloopF])
    | succ kq =>
      have hf := HF.out
      simp only [rloopF, setL] at hf
      obtain ⟨nxt, hp, hf⟩ := Option.bind_eq_some_iff.mp hf
      have HPP := Lib.hid hp
      have HF1 := Lib.hid hf
      clear hp hf HF
      go_wp2_with fail
      refine (PA.r8letter.calls ((121 : Nat) : Int) 1 _ rfl).mono ?_
      rintro e wd ⟨rfl, hd⟩
      have j0_ := cell_drawn hd hw0
      have j1_ := cell_drawn hd hw1
      have n0_ := Lib.hid (below_drawn HBW.out hd)
      have n1_ := Lib.hid (blk_drawn hd HGS.out)
      clear hw0 hw1 HBW HGS hd
      have hw0 := j0_
      have hw1 := j1_
      have HBW := n0_
      have HGS := n1_
      clear j0_ j1_ n0_ n1_
      have hs0 : wd.cell? ⟨gs, 0, none⟩ = some (.int .i64 x1) := (blk_cell HGS.out 0).trans rfl
      have hs1 : wd.cell? ⟨gs, 1, none⟩ = some (.int .i64 y1) := (blk_cell HGS.out 1).trans rfl
      have hs2 : wd.cell? ⟨gs, 2, none⟩ = some (.int .i64 z1) := (blk_cell HGS.out 2).trans rfl
      have hfr := blk_frozen HGS.out 1
      have HSET := Lib.hid (show (wd.setCell ⟨gs, 1, none⟩ (.int .i64 st)).heap[gs]? = some (.cells #[.int .i64 x1, .int .i64 st, .int .i64 z1] 71 (0, 0)) from by simpa using blk_set HGS.out 1 (.int .i64 st))
      have HBS := Lib.hid (HBW.out.setCell (p := ⟨gs, 1, none⟩) HSE.out.1 (.int .i64 st))
      have g0 : (wd.setCell ⟨gs, 1, none⟩ (.int .i64 st)).cell? ⟨gw, 0, none⟩ = some (.slice A0 nx.length c0) := (cell_set_other _ HSE.out.2).trans hw0
      have g1 : (wd.setCell ⟨gs, 1, none⟩ (.int .i64 st)).cell? ⟨gw, 1, none⟩ = some (.slice A1 mk.length c1) := (cell_set_other _ HSE.out.2).trans hw1
      have t0 : (wd.setCell ⟨gs, 1, none⟩ (.int .i64 st)).cell? ⟨gs, 0, none⟩ = some (.int .i64 x1) := (blk_cell HSET.out 0).trans rfl
      have t1 : (wd.setCell ⟨gs, 1, none⟩ (.int .i64 st)).cell? ⟨gs, 1, none⟩ = some (.int .i64 st) := (blk_cell HSET.out 1).trans rfl
      have t2 : (wd.setCell ⟨gs, 1, none⟩ (.int .i64 st)).cell? ⟨gs, 2, none⟩ = some (.int .i64 z1) := (blk_cell HSET.out 2).trans rfl
      go_wp2_with fail
      refine (IH.out kq (by have := HK.out; omega) x1 st z1 nxt HPP.out A0 c0 A1 c1 s ((i : Int) + 2) (i + 2) l _ (Kd.C_below HR0.out HBS.out) hc0 (Kd.C_below HR1.out HBS.out) hc1 hsz (by omega) HD2.out).mono ?_
      rintro e w1 ⟨rfl, hb⟩
      have j0_ := pwc hb g0
      have j1_ := pwc hb g1
      have n0_ := Lib.hid (bst HBS.out hb)
      have n1_ := Lib.hid (blk_below HSET.out hb)
      clear hw0 hw1 hs0 hs1 hs2 hfr HBW HGS hb HSET HBS g0 g1 t0 t1 t2
      by_cases he : nxt = st
      · have e1 : (nxt == st) = true := beq_iff_eq.2 he
        have HE := Lib.hid he
        clear he
        go_wp2
        go_ret3
        have hf := HF1.out
        rw [if_pos HE.out] at hf
        simp only [Option.some.injEq, Prod.mk.injEq] at hf
        obtain ⟨h1, h2⟩ := hf
        exact ⟨ret3_int h1 (by omega) h2, n0_.out⟩
      · have e1 : (nxt == st) = false := beq_eq_false_iff_ne.2 he
        have HE := Lib.hid he
        clear he
        go_wp2
        go_roundg kq
        case measure => omega
        case rel =>
          have hf := HF1.out
          rw [if_neg HE.out] at hf
          exact ⟨_, _, _, _, _, rfl, rfl, by have := HK.out; exact (by omega : kq ≤ k), hf, j0_, j1_, n1_, n0_⟩
set_option maxRecDepth 100000 in
set_option maxHeartbeats 4000000 in
theorem rfix109_122 (A0 : Option Addr) (c0 : Nat) (nx : List Int) (A1 : Option Addr) (c1 : Nat) (mk : List Int) (s : ByteArray) (i : Nat) (x y z : Int) (w : World) (hr0 : Kd.C (Kd.int .i64) w A0 nx.length nx) (hc0 : nx.length ≤ c0) (hr1 : Kd.C (Kd.int .i64) w A1 mk.length mk) (hc1 : mk.length ≤ c1) (hsz : s.size ≤ 1000000000) (a : Fm) (k : Nat) (set cnt : Int) (l : List Nat) (hd : (cs s).drop i = 109 :: 122 :: (str a ++ l)) (ih : ∀ j, j < k → ∀ x y z res, rholdF nx mk j a (x, y, z) = some res → RHoldsC nx mk a x y z res) (hf : rloopF nx mk k 122 a 0 1 (x, y, z) = some (set, cnt)) :
    Calls Try.prog 53 #[.agg #[.slice A0 nx.length c0, .slice A1 mk.length c1], .string s, .int .i64 i, .agg #[.int .i64 x, .int .i64 y, .int .i64 z]] w fun e w' => e = .returned (.tuple #[.int .i64 set, .int .i64 ((i : Int) + (((str a).length + 2 : Nat) : Int)), .int .i64 cnt]) ∧ Below w.heap.size w w' := by
  have IH := Lib.hid ih
  have HF := Lib.hid hf
  clear ih hf
  obtain ⟨hi, hch, hrest⟩ := drop_at hd
  have hi2 : (i : Int) < (s.size : Int) := by omega
  have HD := Lib.hid hrest
  clear hrest hd
  obtain ⟨hi3, hch2, hrest2⟩ := drop_at HD.out
  have HD2 := Lib.hid hrest2
  have hi4 : (i : Int) + 1 < (s.size : Int) := by omega
  have hla := app_len HD2.out (by omega)
  clear HD hrest2
  have hu := Try.underlying24
  have hu2 := Try.underlying71
  have HR0 := Lib.hid hr0
  have HR1 := Lib.hid hr1
  have hle := hr0.2.1
  have hle1 := hr1.2.1
  clear hr0 hr1
  go_enter Try.func53, Try.ntmps53
  go_wp2_with (first | ((with_reducible refine gate_dst (N := 4) rfl ?_); refine box_event ?hg (N := 4) ?hd (cs := #[.slice A0 nx.length c0, .slice A1 mk.length c1]) (t := 24) ?hr ?_; (case hd => rfl); (case hg => rfl); (case hr => first | (go_simp; done) | (go_simp; rfl)); intro gw hgw wb hbw hbb; have HGW := Lib.hid hbw; have HBW := Lib.hid (bst (Below.refl w.heap.size w) hbb); have HGE := Lib.hid (Nat.le_of_eq hgw.symm); clear hgw hbw hbb) | ((with_reducible refine gate_dst (N := 7) rfl ?_); refine box_event ?hg (N := 7) ?hd (cs := #[.int .i64 x, .int .i64 y, .int .i64 z]) (t := 71) ?hr ?_; (case hd => rfl); (case hg => rfl); (case hr => first | (go_simp; done) | (go_simp; rfl)); intro gs hgs wc hbs hbb; have k0_ := Lib.hid (blk_below HGW.out hbb); have k1_ := Lib.hid (bst HBW.out hbb); have HSE := Lib.hid (And.intro (Nat.le_trans HBW.out.size (Nat.le_of_eq hgs.symm)) (show gw ≠ gs from fun e => by have h1 := blk_lt HGW.out; omega)); clear HGW HBW; have HGW := k0_; have HBW := k1_; clear k0_ k1_; have HGS := Lib.hid hbs; have hw0 : wc.cell? ⟨gw, 0, none⟩ = some (.slice A0 nx.length c0) := (blk_cell HGW.out 0).trans rfl; have hw1 : wc.cell? ⟨gw, 1, none⟩ = some (.slice A1 mk.length c1) := (blk_cell HGW.out 1).trans rfl; have hs0 : wc.cell? ⟨gs, 0, none⟩ = some (.int .i64 x) := (blk_cell HGS.out 0).trans rfl; have hs1 : wc.cell? ⟨gs, 1, none⟩ = some (.int .i64 y) := (blk_cell HGS.out 1).trans rfl; have hs2 : wc.cell? ⟨gs, 2, none⟩ = some (.int .i64 z) := (blk_cell HGS.out 2).trans rfl; clear hgs hbs hbb) | fail)
  clear hs0 hs1 hs2
  go_loopg [11, 12] k (fun kq v11 v12 wr => ∃ (st ct x1 y1 z1 : Int), v11 = .int .i64 st ∧ v12 = .int .i64 ct ∧ Hid (kq ≤ k) ∧ Hid (rloopF nx mk kq 122 a st ct (x1, y1, z1) = some (set, cnt)) ∧ wr.cell? ⟨gw, 0, none⟩ = some (.slice A0 nx.length c0) ∧ wr.cell? ⟨gw, 1, none⟩ = some (.slice A1 mk.length c1) ∧ Hid (wr.heap[gs]? = some (.cells #[.int .i64 x1, .int .i64 y1, .int .i64 z1] 71 (0, 0))) ∧ Hid (Below w.heap.size w wr))
  case atStart => exact ⟨_, _, x, y, z, by first | rfl | (rw [allOf_eq]), rfl, Nat.le_refl _, HF.out, hw0, hw1, HGS.out, HBW.out⟩
  case round =>
    clear hw0 hw1 HGS HBW HF HGW
    obtain ⟨st, ct, x1, y1, z1, rfl, rfl, HK, HF, hw0, hw1, HGS, HBW⟩ := hrel
    cases gk with
    | zero => exact absurd HF.out (by simp [rloopF])
    | succ kq =>
      have hf := HF.out
      simp only [rloopF, setL] at hf
      obtain ⟨nxt, hp, hf⟩ := Option.bind_eq_some_iff.mp hf
      have HPP := Lib.hid hp
      have HF1 := Lib.hid hf
      clear hp hf HF
      go_wp2_with fail
      refine (PA.r8letter.calls ((122 : Nat) : Int) 2 _ rfl).mono ?_
      rintro e wd ⟨rfl, hd⟩
      have j0_ := cell_drawn hd hw0
      have j1_ := cell_drawn hd hw1
      have n0_ := Lib.hid (below_drawn HBW.out hd)
      have n1_ := Lib.hid (blk_drawn hd HGS.out)
      clear hw0 hw1 HBW HGS hd
      have hw0 := j0_
      have hw1 := j1_
      have HBW := n0_
      have HGS := n1_
      clear j0_ j1_ n0_ n1_
      have hs0 : wd.cell? ⟨gs, 0, none⟩ = some (.int .i64 x1) := (blk_cell HGS.out 0).trans rfl
      have hs1 : wd.cell? ⟨gs, 1, none⟩ = some (.int .i64 y1) := (blk_cell HGS.out 1).trans rfl
      have hs2 : wd.cell? ⟨gs, 2, none⟩ = some (.int .i64 z1) := (blk_cell HGS.out 2).trans rfl
      have hfr := blk_frozen HGS.out 2
      have HSET := Lib.hid (show (wd.setCell ⟨gs, 2, none⟩ (.int .i64 st)).heap[gs]? = some (.cells #[.int .i64 x1, .int .i64 y1, .int .i64 st] 71 (0, 0)) from by simpa using blk_set HGS.out 2 (.int .i64 st))
      have HBS := Lib.hid (HBW.out.setCell (p := ⟨gs, 2, none⟩) HSE.out.1 (.int .i64 st))
      have g0 : (wd.setCell ⟨gs, 2, none⟩ (.int .i64 st)).cell? ⟨gw, 0, none⟩ = some (.slice A0 nx.length c0) := (cell_set_other _ HSE.out.2).trans hw0
      have g1 : (wd.setCell ⟨gs, 2, none⟩ (.int .i64 st)).cell? ⟨gw, 1, none⟩ = some (.slice A1 mk.length c1) := (cell_set_other _ HSE.out.2).trans hw1
      have t0 : (wd.setCell ⟨gs, 2, none⟩ (.int .i64 st)).cell? ⟨gs, 0, none⟩ = some (.int .i64 x1) := (blk_cell HSET.out 0).trans rfl
      have t1 : (wd.setCell ⟨gs, 2, none⟩ (.int .i64 st)).cell? ⟨gs, 1, none⟩ = some (.int .i64 y1) := (blk_cell HSET.out 1).trans rfl
      have t2 : (wd.setCell ⟨gs, 2, none⟩ (.int .i64 st)).cell? ⟨gs, 2, none⟩ = some (.int .i64 st) := (blk_cell HSET.out 2).trans rfl
      go_wp2_with fail
      refine (IH.out kq (by have := HK.out; omega) x1 y1 st nxt HPP.out A0 c0 A1 c1 s ((i : Int) + 2) (i + 2) l _ (Kd.C_below HR0.out HBS.out) hc0 (Kd.C_below HR1.out HBS.out) hc1 hsz (by omega) HD2.out).mono ?_
      rintro e w1 ⟨rfl, hb⟩
      have j0_ := pwc hb g0
      have j1_ := pwc hb g1
      have n0_ := Lib.hid (bst HBS.out hb)
      have n1_ := Lib.hid (blk_below HSET.out hb)
      clear hw0 hw1 hs0 hs1 hs2 hfr HBW HGS hb HSET HBS g0 g1 t0 t1 t2
      by_cases he : nxt = st
      · have e1 : (nxt == st) = true := beq_iff_eq.2 he
        have HE := Lib.hid he
        clear he
        go_wp2
        go_ret3
        have hf := HF1.out
        rw [if_pos HE.out] at hf
        simp only [Option.some.injEq, Prod.mk.injEq] at hf
        obtain ⟨h1, h2⟩ := hf
        exact ⟨ret3_int h1 (by omega) h2, n0_.out⟩
      · have e1 : (nxt == st) = false := beq_eq_false_iff_ne.2 he
        have HE := Lib.hid he
        clear he
        go_wp2
        go_roundg kq
        case measure => omega
        case rel =>
          have hf := HF1.out
          rw [if_neg HE.out] at hf
          exact ⟨_, _, _, _, _, rfl, rfl, by have := HK.out; exact (by omega : kq ≤ k), hf, j0_, j1_, n1_, n0_⟩
end Go.Proofs.Ytjffhhalmicodaa.X
end

section
set_option linter.unusedVariables false
set_option linter.unusedSimpArgs false
namespace Go.Proofs.Ytjffhhalmicodaa.X
open Go.RowKit Go.Proofs.G.PrintWords Go.Proofs.G.PrintLast Go.Proofs.G.PrintMore
set_option maxRecDepth 100000 in
set_option maxHeartbeats 4000000 in
theorem rh_fix103_120 (A0 : Option Addr) (c0 : Nat) (nx : List Int) (A1 : Option Addr) (c1 : Nat) (mk : List Int) (s : ByteArray) (i : Nat) (x y z : Int) (w : World) (hr0 : Kd.C (Kd.int .i64) w A0 nx.length nx) (hc0 : nx.length ≤ c0) (hr1 : Kd.C (Kd.int .i64) w A1 mk.length mk) (hc1 : mk.length ≤ c1) (hsz : s.size ≤ 1000000000) (a : Fm) (k : Nat) (set cnt : Int) (l : List Nat) (hd : (cs s).drop i = 103 :: 120 :: (str a ++ l)) (ih : ∀ j, j < k → ∀ x y z res, rholdF nx mk j a (x, y, z) = some res → RHoldsC nx mk a x y z res) (hf : rloopF nx mk k 120 a (allOf nx) 1 (x, y, z) = some (set, cnt)) :
    Calls Try.prog 51 #[.agg #[.slice A0 nx.length c0, .slice A1 mk.length c1], .string s, .int .i64 i, .agg #[.int .i64 x, .int .i64 y, .int .i64 z]] w fun e w' => e = .returned (.tuple #[.int .i64 (set), .int .i64 ((i : Int) + (((str a).length + 2 : Nat) : Int))]) ∧ Below w.heap.size w w' := by
  have IH := Lib.hid ih
  have HF := Lib.hid hf
  have HD0 := Lib.hid hd
  clear ih hf
  obtain ⟨hi, hch, hrest⟩ := drop_at hd
  have hi2 : (i : Int) < (s.size : Int) := by omega
  have HD := Lib.hid hrest
  clear hrest hd
  have hu := Try.underlying24
  have hu2 := Try.underlying71
  have HR0 := Lib.hid hr0
  have HR1 := Lib.hid hr1
  have hle := hr0.2.1
  have hle1 := hr1.2.1
  clear hr0 hr1
  go_enter Try.func51, Try.ntmps51
  go_wp2_with (first | ((with_reducible refine gate_dst (N := 4) rfl ?_); refine box_event ?hg (N := 4) ?hd (cs := #[.slice A0 nx.length c0, .slice A1 mk.length c1]) (t := 24) ?hr ?_; (case hd => rfl); (case hg => rfl); (case hr => first | (go_simp; done) | (go_simp; rfl)); intro gw hgw wb hbw hbb; have HGW := Lib.hid hbw; have HBW := Lib.hid (bst (Below.refl w.heap.size w) hbb); have HGE := Lib.hid (Nat.le_of_eq hgw.symm); clear hgw hbw hbb) | ((with_reducible refine gate_dst (N := 7) rfl ?_); refine box_event ?hg (N := 7) ?hd (cs := #[.int .i64 x, .int .i64 y, .int .i64 z]) (t := 71) ?hr ?_; (case hd => rfl); (case hg => rfl); (case hr => first | (go_simp; done) | (go_simp; rfl)); intro gs hgs wc hbs hbb; have k0_ := Lib.hid (blk_below HGW.out hbb); have k1_ := Lib.hid (bst HBW.out hbb); have HSE := Lib.hid (And.intro (Nat.le_trans HBW.out.size (Nat.le_of_eq hgs.symm)) (show gw ≠ gs from fun e => by have h1 := blk_lt HGW.out; omega)); clear HGW HBW; have HGW := k0_; have HBW := k1_; clear k0_ k1_; have HGS := Lib.hid hbs; have hw0 : wc.cell? ⟨gw, 0, none⟩ = some (.slice A0 nx.length c0) := (blk_cell HGW.out 0).trans rfl; have hw1 : wc.cell? ⟨gw, 1, none⟩ = some (.slice A1 mk.length c1) := (blk_cell HGW.out 1).trans rfl; have hs0 : wc.cell? ⟨gs, 0, none⟩ = some (.int .i64 x) := (blk_cell HGS.out 0).trans rfl; have hs1 : wc.cell? ⟨gs, 1, none⟩ = some (.int .i64 y) := (blk_cell HGS.out 1).trans rfl; have hs2 : wc.cell? ⟨gs, 2, none⟩ = some (.int .i64 z) := (blk_cell HGS.out 2).trans rfl; clear hgs hbs hbb) | fail)
  refine (PA.r8digit.calls ((103 : Nat) : Int) (-1) _ rfl).mono ?_
  rintro e wd ⟨rfl, hd⟩
  have j0_ := cell_drawn hd hw0
  have j1_ := cell_drawn hd hw1
  have j2_ := cell_drawn hd hs0
  have j3_ := cell_drawn hd hs1
  have j4_ := cell_drawn hd hs2
  have n0_ := Lib.hid (below_drawn HBW.out hd)
  clear hw0 hw1 hs0 hs1 hs2 HBW hd
  have hw0 := j0_
  have hw1 := j1_
  have hs0 := j2_
  have hs1 := j3_
  have hs2 := j4_
  have HBW := n0_
  clear j0_ j1_ j2_ j3_ j4_ n0_
  go_wp2_with fail
  refine (PA.r8letter.calls ((103 : Nat) : Int) (-1) _ rfl).mono ?_
  rintro e wd ⟨rfl, hd⟩
  have j0_ := cell_drawn hd hw0
  have j1_ := cell_drawn hd hw1
  have j2_ := cell_drawn hd hs0
  have j3_ := cell_drawn hd hs1
  have j4_ := cell_drawn hd hs2
  have n0_ := Lib.hid (below_drawn HBW.out hd)
  clear hw0 hw1 hs0 hs1 hs2 HBW hd
  have hw0 := j0_
  have hw1 := j1_
  have hs0 := j2_
  have hs1 := j3_
  have hs2 := j4_
  have HBW := n0_
  clear j0_ j1_ j2_ j3_ j4_ n0_
  go_wp2_with fail
  refine (rfix103_120 A0 c0 nx A1 c1 mk s i x y z _ (Kd.C_below HR0.out HBW.out) hc0 (Kd.C_below HR1.out HBW.out) hc1 hsz a k set cnt l HD0.out IH.out HF.out).mono ?_
  rintro e w9 ⟨rfl, hb⟩
  have HB9 := Lib.hid (bst HBW.out hb)
  clear hb hw0 hw1 hs0 hs1 hs2
  go_wp2
  go_ret2
  exact ⟨rfl, HB9.out⟩
set_option maxRecDepth 100000 in
set_option maxHeartbeats 4000000 in
theorem rh_fix103_121 (A0 : Option Addr) (c0 : Nat) (nx : List Int) (A1 : Option Addr) (c1 : Nat) (mk : List Int) (s : ByteArray) (i : Nat) (x y z : Int) (w : World) (hr0 : Kd.C (Kd.int .i64) w A0 nx.length nx) (hc0 : nx.length ≤ c0) (hr1 : Kd.C (Kd.int .i64) w A1 mk.length mk) (hc1 : mk.length ≤ c1) (hsz : s.size ≤ 1000000000) (a : Fm) (k : Nat) (set cnt : Int) (l : List Nat) (hd : (cs s).drop i = 103 :: 121 :: (str a ++ l)) (ih : ∀ j, j < k → ∀ x y z res, rholdF nx mk j a (x, y, z) = some res → RHoldsC nx mk a x y z res) (hf : rloopF nx mk k 121 a (allOf nx) 1 (x, y, z) = some (set, cnt)) :
    Calls Try.prog 51 #[.agg #[.slice A0 nx.length c0, .slice A1 mk.length c1], .string s, .int .i64 i, .agg #[.int .i64 x, .int .i64 y, .int .i64 z]] w fun e w' => e = .returned (.tuple #[.int .i64 (set), .int .i64 ((i : Int) + (((str a).length + 2 : Nat) : Int))]) ∧ Below w.heap.size w w' := by
  have IH := Lib.hid ih
  have HF := Lib.hid hf
  have HD0 := Lib.hid hd
  clear ih hf
  obtain ⟨hi, hch, hrest⟩ := drop_at hd
  have hi2 : (i : Int) < (s.size : Int) := by omega
  have HD := Lib.hid hrest
  clear hrest hd
  have hu := Try.underlying24
  have hu2 := Try.underlying71
  have HR0 := Lib.hid hr0
  have HR1 := Lib.hid hr1
  have hle := hr0.2.1
  have hle1 := hr1.2.1
  clear hr0 hr1
  go_enter Try.func51, Try.ntmps51
  go_wp2_with (first | ((with_reducible refine gate_dst (N := 4) rfl ?_); refine box_event ?hg (N := 4) ?hd (cs := #[.slice A0 nx.length c0, .slice A1 mk.length c1]) (t := 24) ?hr ?_; (case hd => rfl); (case hg => rfl); (case hr => first | (go_simp; done) | (go_simp; rfl)); intro gw hgw wb hbw hbb; have HGW := Lib.hid hbw; have HBW := Lib.hid (bst (Below.refl w.heap.size w) hbb); have HGE := Lib.hid (Nat.le_of_eq hgw.symm); clear hgw hbw hbb) | ((with_reducible refine gate_dst (N := 7) rfl ?_); refine box_event ?hg (N := 7) ?hd (cs := #[.int .i64 x, .int .i64 y, .int .i64 z]) (t := 71) ?hr ?_; (case hd => rfl); (case hg => rfl); (case hr => first | (go_simp; done) | (go_simp; rfl)); intro gs hgs wc hbs hbb; have k0_ := Lib.hid (blk_below HGW.out hbb); have k1_ := Lib.hid (bst HBW.out hbb); have HSE := Lib.hid (And.intro (Nat.le_trans HBW.out.size (Nat.le_of_eq hgs.symm)) (show gw ≠ gs from fun e => by have h1 := blk_lt HGW.out; omega)); clear HGW HBW; have HGW := k0_; have HBW := k1_; clear k0_ k1_; have HGS := Lib.hid hbs; have hw0 : wc.cell? ⟨gw, 0, none⟩ = some (.slice A0 nx.length c0) := (blk_cell HGW.out 0).trans rfl; have hw1 : wc.cell? ⟨gw, 1, none⟩ = some (.slice A1 mk.length c1) := (blk_cell HGW.out 1).trans rfl; have hs0 : wc.cell? ⟨gs, 0, none⟩ = some (.int .i64 x) := (blk_cell HGS.out 0).trans rfl; have hs1 : wc.cell? ⟨gs, 1, none⟩ = some (.int .i64 y) := (blk_cell HGS.out 1).trans rfl; have hs2 : wc.cell? ⟨gs, 2, none⟩ = some (.int .i64 z) := (blk_cell HGS.out 2).trans rfl; clear hgs hbs hbb) | fail)
  refine (PA.r8digit.calls ((103 : Nat) : Int) (-1) _ rfl).mono ?_
  rintro e wd ⟨rfl, hd⟩
  have j0_ := cell_drawn hd hw0
  have j1_ := cell_drawn hd hw1
  have j2_ := cell_drawn hd hs0
  have j3_ := cell_drawn hd hs1
  have j4_ := cell_drawn hd hs2
  have n0_ := Lib.hid (below_drawn HBW.out hd)
  clear hw0 hw1 hs0 hs1 hs2 HBW hd
  have hw0 := j0_
  have hw1 := j1_
  have hs0 := j2_
  have hs1 := j3_
  have hs2 := j4_
  have HBW := n0_
  clear j0_ j1_ j2_ j3_ j4_ n0_
  go_wp2_with fail
  refine (PA.r8letter.calls ((103 : Nat) : Int) (-1) _ rfl).mono ?_
  rintro e wd ⟨rfl, hd⟩
  have j0_ := cell_drawn hd hw0
  have j1_ := cell_drawn hd hw1
  have j2_ := cell_drawn hd hs0
  have j3_ := cell_drawn hd hs1
  have j4_ := cell_drawn hd hs2
  have n0_ := Lib.hid (below_drawn HBW.out hd)
  clear hw0 hw1 hs0 hs1 hs2 HBW hd
  have hw0 := j0_
  have hw1 := j1_
  have hs0 := j2_
  have hs1 := j3_
  have hs2 := j4_
  have HBW := n0_
  clear j0_ j1_ j2_ j3_ j4_ n0_
  go_wp2_with fail
  refine (rfix103_121 A0 c0 nx A1 c1 mk s i x y z _ (Kd.C_below HR0.out HBW.out) hc0 (Kd.C_below HR1.out HBW.out) hc1 hsz a k set cnt l HD0.out IH.out HF.out).mono ?_
  rintro e w9 ⟨rfl, hb⟩
  have HB9 := Lib.hid (bst HBW.out hb)
  clear hb hw0 hw1 hs0 hs1 hs2
  go_wp2
  go_ret2
  exact ⟨rfl, HB9.out⟩
set_option maxRecDepth 100000 in
set_option maxHeartbeats 4000000 in
theorem rh_fix103_122 (A0 : Option Addr) (c0 : Nat) (nx : List Int) (A1 : Option Addr) (c1 : Nat) (mk : List Int) (s : ByteArray) (i : Nat) (x y z : Int) (w : World) (hr0 : Kd.C (Kd.int .i64) w A0 nx.length nx) (hc0 : nx.length ≤ c0) (hr1 : Kd.C (Kd.int .i64) w A1 mk.length mk) (hc1 : mk.length ≤ c1) (hsz : s.size ≤ 1000000000) (a : Fm) (k : Nat) (set cnt : Int) (l : List Nat) (hd : (cs s).drop i = 103 :: 122 :: (str a ++ l)) (ih : ∀ j, j < k → ∀ x y z res, rholdF nx mk j a (x, y, z) = some res → RHoldsC nx mk a x y z res) (hf : rloopF nx mk k 122 a (allOf nx) 1 (x, y, z) = some (set, cnt)) :
    Calls Try.prog 51 #[.agg #[.slice A0 nx.length c0, .slice A1 mk.length c1], .string s, .int .i64 i, .agg #[.int .i64 x, .int .i64 y, .int .i64 z]] w fun e w' => e = .returned (.tuple #[.int .i64 (set), .int .i64 ((i : Int) + (((str a).length + 2 : Nat) : Int))]) ∧ Below w.heap.size w w' := by
  have IH := Lib.hid ih
  have HF := Lib.hid hf
  have HD0 := Lib.hid hd
  clear ih hf
  obtain ⟨hi, hch, hrest⟩ := drop_at hd
  have hi2 : (i : Int) < (s.size : Int) := by omega
  have HD := Lib.hid hrest
  clear hrest hd
  have hu := Try.underlying24
  have hu2 := Try.underlying71
  have HR0 := Lib.hid hr0
  have HR1 := Lib.hid hr1
  have hle := hr0.2.1
  have hle1 := hr1.2.1
  clear hr0 hr1
  go_enter Try.func51, Try.ntmps51
  go_wp2_with (first | ((with_reducible refine gate_dst (N := 4) rfl ?_); refine box_event ?hg (N := 4) ?hd (cs := #[.slice A0 nx.length c0, .slice A1 mk.length c1]) (t := 24) ?hr ?_; (case hd => rfl); (case hg => rfl); (case hr => first | (go_simp; done) | (go_simp; rfl)); intro gw hgw wb hbw hbb; have HGW := Lib.hid hbw; have HBW := Lib.hid (bst (Below.refl w.heap.size w) hbb); have HGE := Lib.hid (Nat.le_of_eq hgw.symm); clear hgw hbw hbb) | ((with_reducible refine gate_dst (N := 7) rfl ?_); refine box_event ?hg (N := 7) ?hd (cs := #[.int .i64 x, .int .i64 y, .int .i64 z]) (t := 71) ?hr ?_; (case hd => rfl); (case hg => rfl); (case hr => first | (go_simp; done) | (go_simp; rfl)); intro gs hgs wc hbs hbb; have k0_ := Lib.hid (blk_below HGW.out hbb); have k1_ := Lib.hid (bst HBW.out hbb); have HSE := Lib.hid (And.intro (Nat.le_trans HBW.out.size (Nat.le_of_eq hgs.symm)) (show gw ≠ gs from fun e => by have h1 := blk_lt HGW.out; omega)); clear HGW HBW; have HGW := k0_; have HBW := k1_; clear k0_ k1_; have HGS := Lib.hid hbs; have hw0 : wc.cell? ⟨gw, 0, none⟩ = some (.slice A0 nx.length c0) := (blk_cell HGW.out 0).trans rfl; have hw1 : wc.cell? ⟨gw, 1, none⟩ = some (.slice A1 mk.length c1) := (blk_cell HGW.out 1).trans rfl; have hs0 : wc.cell? ⟨gs, 0, none⟩ = some (.int .i64 x) := (blk_cell HGS.out 0).trans rfl; have hs1 : wc.cell? ⟨gs, 1, none⟩ = some (.int .i64 y) := (blk_cell HGS.out 1).trans rfl; have hs2 : wc.cell? ⟨gs, 2, none⟩ = some (.int .i64 z) := (blk_cell HGS.out 2).trans rfl; clear hgs hbs hbb) | fail)
  refine (PA.r8digit.calls ((103 : Nat) : Int) (-1) _ rfl).mono ?_
  rintro e wd ⟨rfl, hd⟩
  have j0_ := cell_drawn hd hw0
  have j1_ := cell_drawn hd hw1
  have j2_ := cell_drawn hd hs0
  have j3_ := cell_drawn hd hs1
  have j4_ := cell_drawn hd hs2
  have n0_ := Lib.hid (below_drawn HBW.out hd)
  clear hw0 hw1 hs0 hs1 hs2 HBW hd
  have hw0 := j0_
  have hw1 := j1_
  have hs0 := j2_
  have hs1 := j3_
  have hs2 := j4_
  have HBW := n0_
  clear j0_ j1_ j2_ j3_ j4_ n0_
  go_wp2_with fail
  refine (PA.r8letter.calls ((103 : Nat) : Int) (-1) _ rfl).mono ?_
  rintro e wd ⟨rfl, hd⟩
  have j0_ := cell_drawn hd hw0
  have j1_ := cell_drawn hd hw1
  have j2_ := cell_drawn hd hs0
  have j3_ := cell_drawn hd hs1
  have j4_ := cell_drawn hd hs2
  have n0_ := Lib.hid (below_drawn HBW.out hd)
  clear hw0 hw1 hs0 hs1 hs2 HBW hd
  have hw0 := j0_
  have hw1 := j1_
  have hs0 := j2_
  have hs1 := j3_
  have hs2 := j4_
  have HBW := n0_
  clear j0_ j1_ j2_ j3_ j4_ n0_
  go_wp2_with fail
  refine (rfix103_122 A0 c0 nx A1 c1 mk s i x y z _ (Kd.C_below HR0.out HBW.out) hc0 (Kd.C_below HR1.out HBW.out) hc1 hsz a k set cnt l HD0.out IH.out HF.out).mono ?_
  rintro e w9 ⟨rfl, hb⟩
  have HB9 := Lib.hid (bst HBW.out hb)
  clear hb hw0 hw1 hs0 hs1 hs2
  go_wp2
  go_ret2
  exact ⟨rfl, HB9.out⟩
set_option maxRecDepth 100000 in
set_option maxHeartbeats 4000000 in
theorem rh_fix109_120 (A0 : Option Addr) (c0 : Nat) (nx : List Int) (A1 : Option Addr) (c1 : Nat) (mk : List Int) (s : ByteArray) (i : Nat) (x y z : Int) (w : World) (hr0 : Kd.C (Kd.int .i64) w A0 nx.length nx) (hc0 : nx.length ≤ c0) (hr1 : Kd.C (Kd.int .i64) w A1 mk.length mk) (hc1 : mk.length ≤ c1) (hsz : s.size ≤ 1000000000) (a : Fm) (k : Nat) (set cnt : Int) (l : List Nat) (hd : (cs s).drop i = 109 :: 120 :: (str a ++ l)) (ih : ∀ j, j < k → ∀ x y z res, rholdF nx mk j a (x, y, z) = some res → RHoldsC nx mk a x y z res) (hf : rloopF nx mk k 120 a 0 1 (x, y, z) = some (set, cnt)) :
    Calls Try.prog 51 #[.agg #[.slice A0 nx.length c0, .slice A1 mk.length c1], .string s, .int .i64 i, .agg #[.int .i64 x, .int .i64 y, .int .i64 z]] w fun e w' => e = .returned (.tuple #[.int .i64 (set), .int .i64 ((i : Int) + (((str a).length + 2 : Nat) : Int))]) ∧ Below w.heap.size w w' := by
  have IH := Lib.hid ih
  have HF := Lib.hid hf
  have HD0 := Lib.hid hd
  clear ih hf
  obtain ⟨hi, hch, hrest⟩ := drop_at hd
  have hi2 : (i : Int) < (s.size : Int) := by omega
  have HD := Lib.hid hrest
  clear hrest hd
  have hu := Try.underlying24
  have hu2 := Try.underlying71
  have HR0 := Lib.hid hr0
  have HR1 := Lib.hid hr1
  have hle := hr0.2.1
  have hle1 := hr1.2.1
  clear hr0 hr1
  go_enter Try.func51, Try.ntmps51
  go_wp2_with (first | ((with_reducible refine gate_dst (N := 4) rfl ?_); refine box_event ?hg (N := 4) ?hd (cs := #[.slice A0 nx.length c0, .slice A1 mk.length c1]) (t := 24) ?hr ?_; (case hd => rfl); (case hg => rfl); (case hr => first | (go_simp; done) | (go_simp; rfl)); intro gw hgw wb hbw hbb; have HGW := Lib.hid hbw; have HBW := Lib.hid (bst (Below.refl w.heap.size w) hbb); have HGE := Lib.hid (Nat.le_of_eq hgw.symm); clear hgw hbw hbb) | ((with_reducible refine gate_dst (N := 7) rfl ?_); refine box_event ?hg (N := 7) ?hd (cs := #[.int .i64 x, .int .i64 y, .int .i64 z]) (t := 71) ?hr ?_; (case hd => rfl); (case hg => rfl); (case hr => first | (go_simp; done) | (go_simp; rfl)); intro gs hgs wc hbs hbb; have k0_ := Lib.hid (blk_below HGW.out hbb); have k1_ := Lib.hid (bst HBW.out hbb); have HSE := Lib.hid (And.intro (Nat.le_trans HBW.out.size (Nat.le_of_eq hgs.symm)) (show gw ≠ gs from fun e => by have h1 := blk_lt HGW.out; omega)); clear HGW HBW; have HGW := k0_; have HBW := k1_; clear k0_ k1_; have HGS := Lib.hid hbs; have hw0 : wc.cell? ⟨gw, 0, none⟩ = some (.slice A0 nx.length c0) := (blk_cell HGW.out 0).trans rfl; have hw1 : wc.cell? ⟨gw, 1, none⟩ = some (.slice A1 mk.length c1) := (blk_cell HGW.out 1).trans rfl; have hs0 : wc.cell? ⟨gs, 0, none⟩ = some (.int .i64 x) := (blk_cell HGS.out 0).trans rfl; have hs1 : wc.cell? ⟨gs, 1, none⟩ = some (.int .i64 y) := (blk_cell HGS.out 1).trans rfl; have hs2 : wc.cell? ⟨gs, 2, none⟩ = some (.int .i64 z) := (blk_cell HGS.out 2).trans rfl; clear hgs hbs hbb) | fail)
  refine (PA.r8digit.calls ((109 : Nat) : Int) (-1) _ rfl).mono ?_
  rintro e wd ⟨rfl, hd⟩
  have j0_ := cell_drawn hd hw0
  have j1_ := cell_drawn hd hw1
  have j2_ := cell_drawn hd hs0
  have j3_ := cell_drawn hd hs1
  have j4_ := cell_drawn hd hs2
  have n0_ := Lib.hid (below_drawn HBW.out hd)
  clear hw0 hw1 hs0 hs1 hs2 HBW hd
  have hw0 := j0_
  have hw1 := j1_
  have hs0 := j2_
  have hs1 := j3_
  have hs2 := j4_
  have HBW := n0_
  clear j0_ j1_ j2_ j3_ j4_ n0_
  go_wp2_with fail
  refine (PA.r8letter.calls ((109 : Nat) : Int) (-1) _ rfl).mono ?_
  rintro e wd ⟨rfl, hd⟩
  have j0_ := cell_drawn hd hw0
  have j1_ := cell_drawn hd hw1
  have j2_ := cell_drawn hd hs0
  have j3_ := cell_drawn hd hs1
  have j4_ := cell_drawn hd hs2
  have n0_ := Lib.hid (below_drawn HBW.out hd)
  clear hw0 hw1 hs0 hs1 hs2 HBW hd
  have hw0 := j0_
  have hw1 := j1_
  have hs0 := j2_
  have hs1 := j3_
  have hs2 := j4_
  have HBW := n0_
  clear j0_ j1_ j2_ j3_ j4_ n0_
  go_wp2_with fail
  refine (rfix109_120 A0 c0 nx A1 c1 mk s i x y z _ (Kd.C_below HR0.out HBW.out) hc0 (Kd.C_below HR1.out HBW.out) hc1 hsz a k set cnt l HD0.out IH.out HF.out).mono ?_
  rintro e w9 ⟨rfl, hb⟩
  have HB9 := Lib.hid (bst HBW.out hb)
  clear hb hw0 hw1 hs0 hs1 hs2
  go_wp2
  go_ret2
  exact ⟨rfl, HB9.out⟩
set_option maxRecDepth 100000 in
set_option maxHeartbeats 4000000 in
theorem rh_fix109_121 (A0 : Option Addr) (c0 : Nat) (nx : List Int) (A1 : Option Addr) (c1 : Nat) (mk : List Int) (s : ByteArray) (i : Nat) (x y z : Int) (w : World) (hr0 : Kd.C (Kd.int .i64) w A0 nx.length nx) (hc0 : nx.length ≤ c0) (hr1 : Kd.C (Kd.int .i64) w A1 mk.length mk) (hc1 : mk.length ≤ c1) (hsz : s.size ≤ 1000000000) (a : Fm) (k : Nat) (set cnt : Int) (l : List Nat) (hd : (cs s).drop i = 109 :: 121 :: (str a ++ l)) (ih : ∀ j, j < k → ∀ x y z res, rholdF nx mk j a (x, y, z) = some res → RHoldsC nx mk a x y z res) (hf : rloopF nx mk k 121 a 0 1 (x, y, z) = some (set, cnt)) :
    Calls Try.prog 51 #[.agg #[.slice A0 nx.length c0, .slice A1 mk.length c1], .string s, .int .i64 i, .agg #[.int .i64 x, .int .i64 y, .int .i64 z]] w fun e w' => e = .returned (.tuple #[.int .i64 (set), .int .i64 ((i : Int) + (((str a).length + 2 : Nat) : Int))]) ∧ Below w.heap.size w w' := by
  have IH := Lib.hid ih
  have HF := Lib.hid hf
  have HD0 := Lib.hid hd
  clear ih hf
  obtain ⟨hi, hch, hrest⟩ := drop_at hd
  have hi2 : (i : Int) < (s.size : Int) := by omega
  have HD := Lib.hid hrest
  clear hrest hd
  have hu := Try.underlying24
  have hu2 := Try.underlying71
  have HR0 := Lib.hid hr0
  have HR1 := Lib.hid hr1
  have hle := hr0.2.1
  have hle1 := hr1.2.1
  clear hr0 hr1
  go_enter Try.func51, Try.ntmps51
  go_wp2_with (first | ((with_reducible refine gate_dst (N := 4) rfl ?_); refine box_event ?hg (N := 4) ?hd (cs := #[.slice A0 nx.length c0, .slice A1 mk.length c1]) (t := 24) ?hr ?_; (case hd => rfl); (case hg => rfl); (case hr => first | (go_simp; done) | (go_simp; rfl)); intro gw hgw wb hbw hbb; have HGW := Lib.hid hbw; have HBW := Lib.hid (bst (Below.refl w.heap.size w) hbb); have HGE := Lib.hid (Nat.le_of_eq hgw.symm); clear hgw hbw hbb) | ((with_reducible refine gate_dst (N := 7) rfl ?_); refine box_event ?hg (N := 7) ?hd (cs := #[.int .i64 x, .int .i64 y, .int .i64 z]) (t := 71) ?hr ?_; (case hd => rfl); (case hg => rfl); (case hr => first | (go_simp; done) | (go_simp; rfl)); intro gs hgs wc hbs hbb; have k0_ := Lib.hid (blk_below HGW.out hbb); have k1_ := Lib.hid (bst HBW.out hbb); have HSE := Lib.hid (And.intro (Nat.le_trans HBW.out.size (Nat.le_of_eq hgs.symm)) (show gw ≠ gs from fun e => by have h1 := blk_lt HGW.out; omega)); clear HGW HBW; have HGW := k0_; have HBW := k1_; clear k0_ k1_; have HGS := Lib.hid hbs; have hw0 : wc.cell? ⟨gw, 0, none⟩ = some (.slice A0 nx.length c0) := (blk_cell HGW.out 0).trans rfl; have hw1 : wc.cell? ⟨gw, 1, none⟩ = some (.slice A1 mk.length c1) := (blk_cell HGW.out 1).trans rfl; have hs0 : wc.cell? ⟨gs, 0, none⟩ = some (.int .i64 x) := (blk_cell HGS.out 0).trans rfl; have hs1 : wc.cell? ⟨gs, 1, none⟩ = some (.int .i64 y) := (blk_cell HGS.out 1).trans rfl; have hs2 : wc.cell? ⟨gs, 2, none⟩ = some (.int .i64 z) := (blk_cell HGS.out 2).trans rfl; clear hgs hbs hbb) | fail)
  refine (PA.r8digit.calls ((109 : Nat) : Int) (-1) _ rfl).mono ?_
  rintro e wd ⟨rfl, hd⟩
  have j0_ := cell_drawn hd hw0
  have j1_ := cell_drawn hd hw1
  have j2_ := cell_drawn hd hs0
  have j3_ := cell_drawn hd hs1
  have j4_ := cell_drawn hd hs2
  have n0_ := Lib.hid (below_drawn HBW.out hd)
  clear hw0 hw1 hs0 hs1 hs2 HBW hd
  have hw0 := j0_
  have hw1 := j1_
  have hs0 := j2_
  have hs1 := j3_
  have hs2 := j4_
  have HBW := n0_
  clear j0_ j1_ j2_ j3_ j4_ n0_
  go_wp2_with fail
  refine (PA.r8letter.calls ((109 : Nat) : Int) (-1) _ rfl).mono ?_
  rintro e wd ⟨rfl, hd⟩
  have j0_ := cell_drawn hd hw0
  have j1_ := cell_drawn hd hw1
  have j2_ := cell_drawn hd hs0
  have j3_ := cell_drawn hd hs1
  have j4_ := cell_drawn hd hs2
  have n0_ := Lib.hid (below_drawn HBW.out hd)
  clear hw0 hw1 hs0 hs1 hs2 HBW hd
  have hw0 := j0_
  have hw1 := j1_
  have hs0 := j2_
  have hs1 := j3_
  have hs2 := j4_
  have HBW := n0_
  clear j0_ j1_ j2_ j3_ j4_ n0_
  go_wp2_with fail
  refine (rfix109_121 A0 c0 nx A1 c1 mk s i x y z _ (Kd.C_below HR0.out HBW.out) hc0 (Kd.C_below HR1.out HBW.out) hc1 hsz a k set cnt l HD0.out IH.out HF.out).mono ?_
  rintro e w9 ⟨rfl, hb⟩
  have HB9 := Lib.hid (bst HBW.out hb)
  clear hb hw0 hw1 hs0 hs1 hs2
  go_wp2
  go_ret2
  exact ⟨rfl, HB9.out⟩
set_option maxRecDepth 100000 in
set_option maxHeartbeats 4000000 in
theorem rh_fix109_122 (A0 : Option Addr) (c0 : Nat) (nx : List Int) (A1 : Option Addr) (c1 : Nat) (mk : List Int) (s : ByteArray) (i : Nat) (x y z : Int) (w : World) (hr0 : Kd.C (Kd.int .i64) w A0 nx.length nx) (hc0 : nx.length ≤ c0) (hr1 : Kd.C (Kd.int .i64) w A1 mk.length mk) (hc1 : mk.length ≤ c1) (hsz : s.size ≤ 1000000000) (a : Fm) (k : Nat) (set cnt : Int) (l : List Nat) (hd : (cs s).drop i = 109 :: 122 :: (str a ++ l)) (ih : ∀ j, j < k → ∀ x y z res, rholdF nx mk j a (x, y, z) = some res → RHoldsC nx mk a x y z res) (hf : rloopF nx mk k 122 a 0 1 (x, y, z) = some (set, cnt)) :
    Calls Try.prog 51 #[.agg #[.slice A0 nx.length c0, .slice A1 mk.length c1], .string s, .int .i64 i, .agg #[.int .i64 x, .int .i64 y, .int .i64 z]] w fun e w' => e = .returned (.tuple #[.int .i64 (set), .int .i64 ((i : Int) + (((str a).length + 2 : Nat) : Int))]) ∧ Below w.heap.size w w' := by
  have IH := Lib.hid ih
  have HF := Lib.hid hf
  have HD0 := Lib.hid hd
  clear ih hf
  obtain ⟨hi, hch, hrest⟩ := drop_at hd
  have hi2 : (i : Int) < (s.size : Int) := by omega
  have HD := Lib.hid hrest
  clear hrest hd
  have hu := Try.underlying24
  have hu2 := Try.underlying71
  have HR0 := Lib.hid hr0
  have HR1 := Lib.hid hr1
  have hle := hr0.2.1
  have hle1 := hr1.2.1
  clear hr0 hr1
  go_enter Try.func51, Try.ntmps51
  go_wp2_with (first | ((with_reducible refine gate_dst (N := 4) rfl ?_); refine box_event ?hg (N := 4) ?hd (cs := #[.slice A0 nx.length c0, .slice A1 mk.length c1]) (t := 24) ?hr ?_; (case hd => rfl); (case hg => rfl); (case hr => first | (go_simp; done) | (go_simp; rfl)); intro gw hgw wb hbw hbb; have HGW := Lib.hid hbw; have HBW := Lib.hid (bst (Below.refl w.heap.size w) hbb); have HGE := Lib.hid (Nat.le_of_eq hgw.symm); clear hgw hbw hbb) | ((with_reducible refine gate_dst (N := 7) rfl ?_); refine box_event ?hg (N := 7) ?hd (cs := #[.int .i64 x, .int .i64 y, .int .i64 z]) (t := 71) ?hr ?_; (case hd => rfl); (case hg => rfl); (case hr => first | (go_simp; done) | (go_simp; rfl)); intro gs hgs wc hbs hbb; have k0_ := Lib.hid (blk_below HGW.out hbb); have k1_ := Lib.hid (bst HBW.out hbb); have HSE := Lib.hid (And.intro (Nat.le_trans HBW.out.size (Nat.le_of_eq hgs.symm)) (show gw ≠ gs from fun e => by have h1 := blk_lt HGW.out; omega)); clear HGW HBW; have HGW := k0_; have HBW := k1_; clear k0_ k1_; have HGS := Lib.hid hbs; have hw0 : wc.cell? ⟨gw, 0, none⟩ = some (.slice A0 nx.length c0) := (blk_cell HGW.out 0).trans rfl; have hw1 : wc.cell? ⟨gw, 1, none⟩ = some (.slice A1 mk.length c1) := (blk_cell HGW.out 1).trans rfl; have hs0 : wc.cell? ⟨gs, 0, none⟩ = some (.int .i64 x) := (blk_cell HGS.out 0).trans rfl; have hs1 : wc.cell? ⟨gs, 1, none⟩ = some (.int .i64 y) := (blk_cell HGS.out 1).trans rfl; have hs2 : wc.cell? ⟨gs, 2, none⟩ = some (.int .i64 z) := (blk_cell HGS.out 2).trans rfl; clear hgs hbs hbb) | fail)
  refine (PA.r8digit.calls ((109 : Nat) : Int) (-1) _ rfl).mono ?_
  rintro e wd ⟨rfl, hd⟩
  have j0_ := cell_drawn hd hw0
  have j1_ := cell_drawn hd hw1
  have j2_ := cell_drawn hd hs0
  have j3_ := cell_drawn hd hs1
  have j4_ := cell_drawn hd hs2
  have n0_ := Lib.hid (below_drawn HBW.out hd)
  clear hw0 hw1 hs0 hs1 hs2 HBW hd
  have hw0 := j0_
  have hw1 := j1_
  have hs0 := j2_
  have hs1 := j3_
  have hs2 := j4_
  have HBW := n0_
  clear j0_ j1_ j2_ j3_ j4_ n0_
  go_wp2_with fail
  refine (PA.r8letter.calls ((109 : Nat) : Int) (-1) _ rfl).mono ?_
  rintro e wd ⟨rfl, hd⟩
  have j0_ := cell_drawn hd hw0
  have j1_ := cell_drawn hd hw1
  have j2_ := cell_drawn hd hs0
  have j3_ := cell_drawn hd hs1
  have j4_ := cell_drawn hd hs2
  have n0_ := Lib.hid (below_drawn HBW.out hd)
  clear hw0 hw1 hs0 hs1 hs2 HBW hd
  have hw0 := j0_
  have hw1 := j1_
  have hs0 := j2_
  have hs1 := j3_
  have hs2 := j4_
  have HBW := n0_
  clear j0_ j1_ j2_ j3_ j4_ n0_
  go_wp2_with fail
  refine (rfix109_122 A0 c0 nx A1 c1 mk s i x y z _ (Kd.C_below HR0.out HBW.out) hc0 (Kd.C_below HR1.out HBW.out) hc1 hsz a k set cnt l HD0.out IH.out HF.out).mono ?_
  rintro e w9 ⟨rfl, hb⟩
  have HB9 := Lib.hid (bst HBW.out hb)
  clear hb hw0 hw1 hs0 hs1 hs2
  go_wp2
  go_ret2
  exact ⟨rfl, HB9.out⟩
theorem rholds_all (nx mk : List Int) : ∀ k f x y z res, WF f → rholdF nx mk k f (x, y, z) = some res → RHoldsC nx mk f x y z res := by
 intro k
 induction k using Nat.strongRecOn with
 | _ k ih =>
  intro f x y z res hw hf A0 c0 A1 c1 s p i l w hr0 hc0 hr1 hc1 hsz hp hd
  subst hp
  cases k with
  | zero => simp [rholdF] at hf
  | succ k =>
   cases f with
   | mark neg j =>
    simp only [rholdF, Option.some.injEq] at hf
    simp only [WF] at hw
    cases neg
    ·simp only [Bool.false_eq_true, if_false] at hf
     simp only [str, Bool.false_eq_true, if_false] at hd ⊢
     subst hf
     exact rh_mark A0 c0 nx A1 c1 mk s i x y z w hr0 hc0 hr1 hc1 hsz j hw l hd
    ·simp only [if_true] at hf
     simp only [str, if_true] at hd ⊢
     subst hf
     exact rh_neg A0 c0 nx A1 c1 mk s i x y z w hr0 hc0 hr1 hc1 hsz j hw l hd
   | con c =>
    simp only [rholdF, Option.some.injEq] at hf
    simp only [WF] at hw
    simp only [str] at hd ⊢
    rcases hw with rfl | rfl
    ·simp only [if_true] at hf
     subst hf
     exact rh_t A0 c0 nx A1 c1 mk s i x y z w hr0 hc0 hr1 hc1 hsz l hd
    ·rw [if_neg (by omega)] at hf
     subst hf
     exact rh_f A0 c0 nx A1 c1 mk s i x y z w hr0 hc0 hr1 hc1 hsz l hd
   | var c =>
    simp only [rholdF, Option.some.injEq, getL] at hf
    simp only [WF] at hw
    simp only [str] at hd ⊢
    rcases (show c = 120 ∨ c = 121 ∨ c = 122 by omega) with rfl | rfl | rfl
    ·simp only [if_true] at hf
     subst hf
     exact rh_var120 A0 c0 nx A1 c1 mk s i x y z w hr0 hc0 hr1 hc1 hsz l hd
    ·rw [if_neg (by omega), if_pos rfl] at hf
     subst hf
     exact rh_var121 A0 c0 nx A1 c1 mk s i x y z w hr0 hc0 hr1 hc1 hsz l hd
    ·rw [if_neg (by omega), if_neg (by omega)] at hf
     subst hf
     exact rh_var122 A0 c0 nx A1 c1 mk s i x y z w hr0 hc0 hr1 hc1 hsz l hd
   | two c a b =>
    simp only [rholdF] at hf
    simp only [WF] at hw
    obtain ⟨hc, hwa, hwb⟩ := hw
    obtain ⟨p, hp, hf⟩ := Option.bind_eq_some_iff.mp hf
    obtain ⟨q, hq, hf⟩ := Option.bind_eq_some_iff.mp hf
    injection hf with hf
    simp only [str, List.cons_append, List.append_assoc] at hd ⊢
    have ia := ih k (by omega) a x y z p hwa hp
    have ib := ih k (by omega) b x y z q hwb hq
    rcases hc with rfl | rfl
    ·simp only [if_true] at hf
     subst hf
     simpa using rh_and A0 c0 nx A1 c1 mk s i x y z w hr0 hc0 hr1 hc1 hsz a b p q l hd ia ib
    ·rw [if_neg (by omega)] at hf
     subst hf
     simpa using rh_or A0 c0 nx A1 c1 mk s i x y z w hr0 hc0 hr1 hc1 hsz a b p q l hd ia ib
   | one c a =>
    simp only [rholdF] at hf
    simp only [WF] at hw
    obtain ⟨hc, hwa⟩ := hw
    obtain ⟨p, hp, hf⟩ := Option.bind_eq_some_iff.mp hf
    injection hf with hf
    simp only [str, List.cons_append] at hd ⊢
    have ia := ih k (by omega) a x y z p hwa hp
    rcases hc with rfl | rfl
    ·simp only [if_true] at hf
     subst hf
     exact rh_dia A0 c0 nx A1 c1 mk s i x y z w hr0 hc0 hr1 hc1 hsz a p l hd ia
    ·rw [if_neg (by omega)] at hf
     subst hf
     exact rh_box A0 c0 nx A1 c1 mk s i x y z w hr0 hc0 hr1 hc1 hsz a p l hd ia
   | fix c v a =>
    simp only [rholdF] at hf
    simp only [WF] at hw
    obtain ⟨hc, hv, hwa⟩ := hw
    obtain ⟨p, hp, hf⟩ := Option.bind_eq_some_iff.mp hf
    injection hf with hf
    subst hf
    simp only [str, List.cons_append] at hd ⊢
    have ia : ∀ j, j < k → ∀ x y z res, rholdF nx mk j a (x, y, z) = some res → RHoldsC nx mk a x y z res := fun j hj x y z res h => ih j (by omega) a x y z res hwa h
    rcases hc with rfl | rfl
    ·rw [if_neg (by omega)] at hp
     rcases (show v = 120 ∨ v = 121 ∨ v = 122 by omega) with rfl | rfl | rfl
     ·exact rh_fix109_120 A0 c0 nx A1 c1 mk s i x y z w hr0 hc0 hr1 hc1 hsz a k p.1 p.2 l hd ia hp
     ·exact rh_fix109_121 A0 c0 nx A1 c1 mk s i x y z w hr0 hc0 hr1 hc1 hsz a k p.1 p.2 l hd ia hp
     ·exact rh_fix109_122 A0 c0 nx A1 c1 mk s i x y z w hr0 hc0 hr1 hc1 hsz a k p.1 p.2 l hd ia hp
    ·simp only [if_true] at hp
     rcases (show v = 120 ∨ v = 121 ∨ v = 122 by omega) with rfl | rfl | rfl
     ·exact rh_fix103_120 A0 c0 nx A1 c1 mk s i x y z w hr0 hc0 hr1 hc1 hsz a k p.1 p.2 l hd ia hp
     ·exact rh_fix103_121 A0 c0 nx A1 c1 mk s i x y z w hr0 hc0 hr1 hc1 hsz a k p.1 p.2 l hd ia hp
     ·exact rh_fix103_122 A0 c0 nx A1 c1 mk s i x y z w hr0 hc0 hr1 hc1 hsz a k p.1 p.2 l hd ia hp
end Go.Proofs.Ytjffhhalmicodaa.X
end

section
set_option linter.unusedVariables false
set_option linter.unusedSimpArgs false
namespace Go.Proofs.Ytjffhhalmicodaa.X
open Go.RowKit Go.Proofs.G.PrintWords Go.Proofs.G.PrintLast Go.Proofs.G.PrintMore
set_option maxRecDepth 100000 in
set_option maxHeartbeats 4000000 in
theorem RHolds_at (A0 : Option Addr) (c0 : Nat) (nx : List Int) (A1 : Option Addr) (c1 : Nat) (mk : List Int) (s : ByteArray) (w : World) (hr0 : Kd.C (Kd.int .i64) w A0 nx.length nx) (hc0 : nx.length ≤ c0) (hr1 : Kd.C (Kd.int .i64) w A1 mk.length mk) (hc1 : mk.length ≤ c1) (hsz : s.size ≤ 1000000000) (f : Fm) (k : Nat) (res : Int) (ho : whole (cs s) = some f) (hf : rholdF nx mk k f (0, 0, 0) = some res) :
    Calls Try.prog 23 #[.agg #[.slice A0 nx.length c0, .slice A1 mk.length c1], .string s] w fun e w' => e = .returned (.int .i64 res) ∧ Below w.heap.size w w' := by
  have hstr := (whole_str ho).1
  have HD := Lib.hid (show (cs s).drop 0 = str f ++ [] by rw [List.drop_zero, List.append_nil]; exact hstr)
  have HA := Lib.hid (rholds_all nx mk k f 0 0 0 res (whole_str ho).2 hf)
  clear ho hf hstr
  have hu := Try.underlying24
  have hu2 := Try.underlying71
  have HR0 := Lib.hid hr0
  have HR1 := Lib.hid hr1
  clear hr0 hr1
  go_enter Try.func23, Try.ntmps23
  go_wp2_with (first | ((with_reducible refine gate_dst (N := 2) rfl ?_); refine box_event ?hg (N := 2) ?hd (cs := #[.slice A0 nx.length c0, .slice A1 mk.length c1]) (t := 24) ?hr ?_; (case hd => rfl); (case hg => rfl); (case hr => first | (go_simp; done) | (go_simp; rfl)); intro gw hgw wb hbw hbb; have HBW := Lib.hid (bst (Below.refl w.heap.size w) hbb); have hw0 : wb.cell? ⟨gw, 0, none⟩ = some (.slice A0 nx.length c0) := (blk_cell hbw 0).trans rfl; have hw1 : wb.cell? ⟨gw, 1, none⟩ = some (.slice A1 mk.length c1) := (blk_cell hbw 1).trans rfl; clear hgw hbb hbw) | fail)
  refine (HA.out A0 c0 A1 c1 s 0 0 [] _ (Kd.C_below HR0.out HBW.out) hc0 (Kd.C_below HR1.out HBW.out) hc1 hsz rfl HD.out).mono ?_
  rintro e w9 ⟨rfl, hb⟩
  have HB9 := Lib.hid (bst HBW.out hb)
  clear hb hw0 hw1
  go_wp2
  go_ret
  exact ⟨rfl, HB9.out⟩
theorem rholdF_mono (nx mk : List Int) : ∀ k, (∀ f s, LeO (rholdF nx mk k f s) (rholdF nx mk (k + 1) f s)) ∧ (∀ x a st c s, LeO (rloopF nx mk k x a st c s) (rloopF nx mk (k + 1) x a st c s)) := by
 intro k
 induction k with
 | zero => exact ⟨fun f m r h => by simp [rholdF] at h, fun x a s c m r h => by simp [rloopF] at h⟩
 | succ k ih =>
  obtain ⟨ih1, ih2⟩ := ih
  refine ⟨fun f m => ?_, fun x a s c m => ?_⟩
  ·cases f with
   | mark neg j => simp only [rholdF]; exact LeO.refl _
   | con c => simp only [rholdF]; exact LeO.refl _
   | var c => simp only [rholdF]; exact LeO.refl _
   | two c a b =>
    rw [rholdF, rholdF]
    exact LeO.bind (ih1 a m) (fun p => LeO.bind (ih1 b m) (fun q => LeO.refl _))
   | one c a =>
    rw [rholdF, rholdF]
    exact LeO.bind (ih1 a m) (fun p => LeO.refl _)
   | fix c x a =>
    rw [rholdF, rholdF]
    exact LeO.bind (ih2 x a _ 1 m) (fun p => LeO.refl _)
  ·rw [rloopF, rloopF]
   exact LeO.bind (ih1 a _) (fun p => LeO.ite (LeO.refl _) (ih2 x a _ _ _))
def ref_Holds.f (k : Nat) (l0_0 l0_1 : List Int) (a1 : ByteArray) : Option Int := if a1.size ≤ 1000000000 then (match whole (cs a1) with
  | none => none
  | some f => rholdF l0_0 l0_1 k f (0, 0, 0)) else none
theorem ref_Holds.mono : ∀ a0 a1 a2 k, LeO (ref_Holds.f k a0 a1 a2) (ref_Holds.f (k + 1) a0 a1 a2) := by
 intro a0 a1 a2 k
 unfold ref_Holds.f
 refine LeO.ite ?_ (LeO.refl _)
 cases whole (cs a2) with
 | none => exact LeO.refl _
 | some f => exact (rholdF_mono a0 a1 k).1 f _
theorem ref_Holds.calls (k : Nat) (A0_0 : Option Addr) (c0_0 : Nat) (l0_0 : List Int) (A0_1 : Option Addr) (c0_1 : Nat) (l0_1 : List Int) (a1 : ByteArray) (r : Int) (w : World) (hr0_0 : Kd.C (Kd.int .i64) w A0_0 l0_0.length l0_0) (hc0_0 : l0_0.length ≤ c0_0) (hr0_1 : Kd.C (Kd.int .i64) w A0_1 l0_1.length l0_1) (hc0_1 : l0_1.length ≤ c0_1) (h : ref_Holds.f k l0_0 l0_1 a1 = some r) :
    Calls Try.prog 23 #[.agg #[.slice A0_0 l0_0.length c0_0, .slice A0_1 l0_1.length c0_1], .string a1] w fun e w' => e = .returned (.int .i64 r) ∧ Below w.heap.size w w' := by
  unfold ref_Holds.f at h
  split at h
  · rename_i hsz
    cases ho : whole (cs a1) with
    | none => rw [ho] at h; cases h
    | some f =>
      rw [ho] at h
      exact RHolds_at A0_0 c0_0 l0_0 A0_1 c0_1 l0_1 a1 w hr0_0 hc0_0 hr0_1 hc0_1 hsz f k r ho h
  · cases h
end Go.Proofs.Ytjffhhalmicodaa.X
end

section
namespace Go.Proofs.Ytjffhhalmicodaa.L
open Go.RowKit Go.Proofs.G.PrintWords Go.Proofs.G.PrintLast Go.Proofs.G.PrintMore Go.Proofs.Ytjffhhalmicodaa.X
def InS (n : Nat) (a : Int) : Prop := 0 ≤ a ∧ a < 2 ^ n
def tb (a : Int) (i : Nat) : Bool := a.toNat.testBit i
theorem wrap64_nat {x : Nat} (h : x < 2 ^ 62) : IntKind.i64.wrap (x : Int) = (x : Int) := by
  rw [IntKind.wrap_i64]
  have h2 : (x : Int) < 2 ^ 62 := by exact_mod_cast h
  have : (2 : Int) ^ 62 = 4611686018427387904 := by decide
  omega
theorem inS_nat {n : Nat} {a : Int} (h : InS n a) : ∃ x : Nat, a = (x : Int) ∧ x < 2 ^ n := by
  obtain ⟨x, rfl⟩ := Int.eq_ofNat_of_zero_le h.1
  exact ⟨x, rfl, by exact_mod_cast h.2⟩
theorem inS_of {n x : Nat} (h : x < 2 ^ n) : InS n (x : Int) := ⟨Int.natCast_nonneg _, by exact_mod_cast h⟩
theorem inS_zero (n : Nat) : InS n 0 := inS_of (x := 0) (Nat.two_pow_pos n)
theorem pow_le62 {n : Nat} (h : n ≤ 62) : 2 ^ n ≤ 2 ^ 62 := Nat.pow_le_pow_right (by decide) h
theorem tb_nat (x i : Nat) : tb (x : Int) i = x.testBit i := rfl
theorem tb_zero (i : Nat) : tb 0 i = false := by simp [tb]
theorem inS_mono {n m : Nat} {a : Int} (h : InS n a) (hm : n ≤ m) : InS m a := by
  obtain ⟨x, rfl, hx⟩ := inS_nat h
  exact inS_of (Nat.lt_of_lt_of_le hx (Nat.pow_le_pow_right (by decide) hm))
theorem tb_ge {n : Nat} {a : Int} (h : InS n a) {i : Nat} (hi : n ≤ i) : tb a i = false := by
  obtain ⟨x, rfl, hx⟩ := inS_nat h
  exact Nat.testBit_lt_two_pow (Nat.lt_of_lt_of_le hx (Nat.pow_le_pow_right (by decide) hi))
theorem inS_ext {n : Nat} {a b : Int} (ha : InS n a) (hb : InS n b) (h : ∀ i, i < n → tb a i = tb b i) : a = b := by
 have hall : ∀ i, tb a i = tb b i := fun i => by
  rcases Nat.lt_or_ge i n with hi | hi
  ·exact h i hi
  ·rw [tb_ge ha hi, tb_ge hb hi]
 obtain ⟨x, rfl, hx⟩ := inS_nat ha
 obtain ⟨y, rfl, hy⟩ := inS_nat hb
 have : x = y := Nat.eq_of_testBit_eq hall
 rw [this]
theorem and_nat {x y : Nat} (hx : x < 2 ^ 62) (hy : y < 2 ^ 62) : bits .and .i64 (x : Int) (y : Int) = ((x &&& y : Nat) : Int) :=
  (bits_nat .i64 62 (by decide) (fun n h1 h2 => by obtain ⟨z, rfl⟩ := Int.eq_ofNat_of_zero_le h1; exact wrap64_nat (by exact_mod_cast h2)) x y hx hy).1
theorem or_nat {x y : Nat} (hx : x < 2 ^ 62) (hy : y < 2 ^ 62) : bits .or .i64 (x : Int) (y : Int) = ((x ||| y : Nat) : Int) :=
  (bits_nat .i64 62 (by decide) (fun n h1 h2 => by obtain ⟨z, rfl⟩ := Int.eq_ofNat_of_zero_le h1; exact wrap64_nat (by exact_mod_cast h2)) x y hx hy).2
theorem andNot_nat {x y : Nat} (hx : x < 2 ^ 62) (hy : y < 2 ^ 62) : bits .andNot .i64 (x : Int) (y : Int) = ((x &&& (18446744073709551615 - y) : Nat) : Int) := by
 have hp : (2 : Nat) ^ 62 < 18446744073709551616 := by decide
 have ha : x % 18446744073709551616 = x := Nat.mod_eq_of_lt (by omega)
 have hb : y % 18446744073709551616 = y := Nat.mod_eq_of_lt (by omega)
 have hl : x &&& (18446744073709551615 - y) < 2 ^ 62 := Nat.lt_of_le_of_lt Nat.and_le_left hx
 have : (BitVec.ofInt IntKind.i64.bits (x : Int) &&& ~~~ BitVec.ofInt IntKind.i64.bits (y : Int)).toNat = x &&& (18446744073709551615 - y) := by
  rw [BitVec.ofInt_natCast, BitVec.ofInt_natCast, BitVec.toNat_and, BitVec.toNat_not, BitVec.toNat_ofNat, BitVec.toNat_ofNat]
  show x % 18446744073709551616 &&& (18446744073709551616 - 1 - y % 18446744073709551616) = _
  rw [ha, hb]
 show IntKind.i64.wrap ((BitVec.ofInt IntKind.i64.bits (x : Int) &&& ~~~ BitVec.ofInt IntKind.i64.bits (y : Int)).toNat : Int) = _
 rw [this]
 exact wrap64_nat hl
theorem and_in {n : Nat} (hn : n ≤ 62) {a b : Int} (ha : InS n a) (hb : InS n b) : InS n (bits .and .i64 a b) := by
  obtain ⟨x, rfl, hx⟩ := inS_nat ha
  obtain ⟨y, rfl, hy⟩ := inS_nat hb
  rw [and_nat (Nat.lt_of_lt_of_le hx (pow_le62 hn)) (Nat.lt_of_lt_of_le hy (pow_le62 hn))]
  exact inS_of (Nat.lt_of_le_of_lt Nat.and_le_left hx)
theorem or_in {n : Nat} (hn : n ≤ 62) {a b : Int} (ha : InS n a) (hb : InS n b) : InS n (bits .or .i64 a b) := by
  obtain ⟨x, rfl, hx⟩ := inS_nat ha
  obtain ⟨y, rfl, hy⟩ := inS_nat hb
  rw [or_nat (Nat.lt_of_lt_of_le hx (pow_le62 hn)) (Nat.lt_of_lt_of_le hy (pow_le62 hn))]
  exact inS_of (Nat.or_lt_two_pow hx hy)
theorem andNot_in {n m : Nat} (hn : n ≤ 62) (hm : m ≤ 62) {a b : Int} (ha : InS n a) (hb : InS m b) : InS n (bits .andNot .i64 a b) := by
  obtain ⟨x, rfl, hx⟩ := inS_nat ha
  obtain ⟨y, rfl, hy⟩ := inS_nat hb
  rw [andNot_nat (Nat.lt_of_lt_of_le hx (pow_le62 hn)) (Nat.lt_of_lt_of_le hy (pow_le62 hm))]
  exact inS_of (Nat.lt_of_le_of_lt Nat.and_le_left hx)
theorem tb_and {n m : Nat} (hn : n ≤ 62) (hm : m ≤ 62) {a b : Int} (ha : InS n a) (hb : InS m b) (i : Nat) : tb (bits .and .i64 a b) i = (tb a i && tb b i) := by
  obtain ⟨x, rfl, hx⟩ := inS_nat ha
  obtain ⟨y, rfl, hy⟩ := inS_nat hb
  rw [and_nat (Nat.lt_of_lt_of_le hx (pow_le62 hn)) (Nat.lt_of_lt_of_le hy (pow_le62 hm))]
  exact Nat.testBit_and x y i
theorem tb_or {n m : Nat} (hn : n ≤ 62) (hm : m ≤ 62) {a b : Int} (ha : InS n a) (hb : InS m b) (i : Nat) : tb (bits .or .i64 a b) i = (tb a i || tb b i) := by
  obtain ⟨x, rfl, hx⟩ := inS_nat ha
  obtain ⟨y, rfl, hy⟩ := inS_nat hb
  rw [or_nat (Nat.lt_of_lt_of_le hx (pow_le62 hn)) (Nat.lt_of_lt_of_le hy (pow_le62 hm))]
  exact Nat.testBit_or x y i
theorem tb_andNot {n m : Nat} (hn : n ≤ 62) (hm : m ≤ 62) {a b : Int} (ha : InS n a) (hb : InS m b) (i : Nat) : tb (bits .andNot .i64 a b) i = (tb a i && !tb b i) := by
 obtain ⟨x, rfl, hx⟩ := inS_nat ha
 obtain ⟨y, rfl, hy⟩ := inS_nat hb
 have hx2 := Nat.lt_of_lt_of_le hx (pow_le62 hn)
 have hy2 := Nat.lt_of_lt_of_le hy (pow_le62 hm)
 have hp : (2 : Nat) ^ 62 < 2 ^ 64 := by decide
 rw [andNot_nat hx2 hy2, tb_nat, tb_nat, tb_nat, Nat.testBit_and]
 have he : 18446744073709551615 - y = 2 ^ 64 - (y + 1) := by
  have : (2 : Nat) ^ 64 = 18446744073709551616 := by decide
  omega
 rw [he, Nat.testBit_two_pow_sub_succ (by omega)]
 by_cases hi : i < 64
 ·simp [hi]
 ·have : x.testBit i = false := Nat.testBit_lt_two_pow (Nat.lt_of_lt_of_le (Nat.lt_trans hx2 hp) (Nat.pow_le_pow_right (by decide) (by omega)))
  rw [this]
  rfl
theorem and_zero {n : Nat} (hn : n ≤ 62) {a b : Int} (ha : InS n a) (hb : InS n b) : bits .and .i64 a b = 0 ↔ ∀ i, tb a i = true → tb b i = false := by
 constructor
 ·intro h i hi
  have h2 := tb_and hn hn ha hb i
  rw [h, tb_zero, hi] at h2
  simpa using h2.symm
 ·intro h
  refine inS_ext (and_in hn ha hb) (inS_zero n) fun i _ => ?_
  rw [tb_and hn hn ha hb, tb_zero]
  cases h1 : tb a i
  ·rfl
  ·rw [h i h1]; rfl
theorem andNot_zero {n : Nat} (hn : n ≤ 62) {a b : Int} (ha : InS n a) (hb : InS n b) : bits .andNot .i64 a b = 0 ↔ ∀ i, tb a i = true → tb b i = true := by
 constructor
 ·intro h i hi
  have h2 := tb_andNot hn hn ha hb i
  rw [h, tb_zero, hi] at h2
  simpa using h2.symm
 ·intro h
  refine inS_ext (andNot_in hn hn ha hb) (inS_zero n) fun i _ => ?_
  rw [tb_andNot hn hn ha hb, tb_zero]
  cases h1 : tb a i
  ·rfl
  ·rw [h i h1]; rfl
theorem pow_wrap {n : Nat} (hn : n < 62) : wrap64 (2 ^ min n 64) = ((2 ^ n : Nat) : Int) := by
 rw [Nat.min_eq_left (by omega)]
 have h := wrap64_nat (x := 2 ^ n) (Nat.pow_lt_pow_right (by decide) hn)
 rw [IntKind.wrap_i64] at h
 rw [wrap64]
 have e : ((2 ^ n : Nat) : Int) = (2 : Int) ^ n := by simp
 rw [e] at h ⊢
 exact h
theorem whereTo_spec (p : Nat → Bool) : ∀ n, n ≤ 61 → InS n (whereTo p n) ∧ ∀ i, tb (whereTo p n) i = (decide (i < n) && p i) := by
 intro n
 induction n with
 | zero => intro _; exact ⟨inS_zero 0, fun i => by simp [whereTo, tb_zero]⟩
 | succ n ih =>
  intro hn
  obtain ⟨h1, h2⟩ := ih (by omega)
  have hq : InS (n + 1) (((2 ^ n : Nat) : Int)) := inS_of (Nat.pow_lt_pow_right (by decide) (by omega))
  simp only [whereTo]
  by_cases hp : p n = true
  ·rw [if_pos hp, pow_wrap (by omega)]
   refine ⟨or_in (by omega) (inS_mono h1 (by omega)) hq, fun i => ?_⟩
   rw [tb_or (by omega) (by omega) (inS_mono h1 (Nat.le_succ n)) hq, h2, tb_nat, Nat.testBit_two_pow]
   by_cases e : n = i
   ·subst e
    simp [hp]
   ·have : (decide (i < n + 1)) = decide (i < n) := by
     by_cases h : i < n
     ·simp [h]; omega
     ·simp [h]; omega
    simp [e, this]
  ·rw [if_neg hp]
   refine ⟨inS_mono h1 (by omega), fun i => ?_⟩
   rw [h2]
   by_cases e : n = i
   ·subst e
    simp [hp]
   ·have : (decide (i < n + 1)) = decide (i < n) := by
     by_cases h : i < n
     ·simp [h]; omega
     ·simp [h]; omega
    rw [this]
theorem shl1 {n : Nat} (hn : n < 62) : shl .i64 1 (n : Int) = ((2 ^ n : Nat) : Int) := by
  have h := wrap64_nat (x := 2 ^ n) (Nat.pow_lt_pow_right (by decide) hn)
  have e : min (n : Int).toNat IntKind.i64.bits = n := by simp [IntKind.bits]; omega
  rw [shl, e]
  rw [show (1 : Int) * 2 ^ n = ((2 ^ n : Nat) : Int) by simp]
  exact h
theorem allOf_eq {nx : List Int} (hn : nx.length < 62) : allOf nx = ((2 ^ nx.length - 1 : Nat) : Int) := by
 have hp := Nat.two_pow_pos nx.length
 have hlt : 2 ^ nx.length < 2 ^ 62 := Nat.pow_lt_pow_right (by decide) hn
 have h := wrap64_nat (x := 2 ^ nx.length - 1) (by omega)
 rw [IntKind.wrap_i64] at h
 rw [allOf, shl1 hn, wrap64]
 rw [Int.natCast_sub hp] at h ⊢
 exact h
theorem all_in {nx : List Int} (hn : nx.length < 62) : InS nx.length (allOf nx) := by
  rw [allOf_eq hn]
  exact inS_of (Nat.sub_lt (Nat.two_pow_pos _) (by decide))
theorem tb_all {nx : List Int} (hn : nx.length < 62) (i : Nat) : tb (allOf nx) i = decide (i < nx.length) := by
  rw [allOf_eq hn, tb_nat, Nat.testBit_two_pow_sub_one]
def card (n : Nat) (a : Int) : Nat := (List.range n).countP (tb a)
def Sub (a b : Int) : Prop := ∀ i, tb a i = true → tb b i = true
theorem Sub.refl (a : Int) : Sub a a := fun _ h => h
theorem Sub.trans {a b c : Int} (h : Sub a b) (g : Sub b c) : Sub a c := fun i hi => g i (h i hi)
theorem sub_zero (a : Int) : Sub 0 a := fun i h => by rw [tb_zero] at h; cases h
theorem sub_all {nx : List Int} (hn : nx.length < 62) {a : Int} (ha : InS nx.length a) : Sub a (allOf nx) := fun i h => by
  rw [tb_all hn]
  rcases Nat.lt_or_ge i nx.length with hi | hi
  · simp [hi]
  · rw [tb_ge ha hi] at h; cases h
theorem card_le {n : Nat} {a : Int} : card n a ≤ n := by
  have := List.countP_le_length (p := tb a) (l := List.range n)
  simpa [card] using this
theorem card_mono {n : Nat} {a b : Int} (h : Sub a b) : card n a ≤ card n b := List.countP_mono_left fun i _ hi => h i hi
theorem countP_eq {α : Type} {p q : α → Bool} : ∀ {l : List α}, (∀ x, p x = true → q x = true) → l.countP p = l.countP q → ∀ x ∈ l, p x = q x
 | [], _, _, x, hx => by cases hx
 | a :: l, h, e, x, hx => by
  have hm : l.countP p ≤ l.countP q := List.countP_mono_left fun i _ hi => h i hi
  rw [List.countP_cons, List.countP_cons] at e
  have hpa := h a
  have key : p a = q a ∧ l.countP p = l.countP q := by
   cases h1 : p a <;> cases h2 : q a <;> simp_all <;> omega
  rcases List.mem_cons.1 hx with rfl | hx
  ·exact key.1
  ·exact countP_eq h key.2 x hx
theorem card_eq {n : Nat} {a b : Int} (ha : InS n a) (hb : InS n b) (h : Sub a b) (e : card n a = card n b) : a = b :=
  inS_ext ha hb fun i hi => countP_eq h e i (List.mem_range.2 hi)
end Go.Proofs.Ytjffhhalmicodaa.L
end

section
namespace Go.Proofs.Ytjffhhalmicodaa.L
open Go.RowKit Go.Proofs.G.PrintWords Go.Proofs.G.PrintLast Go.Proofs.G.PrintMore Go.Proofs.Ytjffhhalmicodaa.X
structure VW (nx mk : List Int) : Prop where
  pos : 1 ≤ nx.length
  le : nx.length ≤ 6
  len : mk.length = nx.length
  next : ∀ i : Nat, i < nx.length → InS nx.length (rd nx i)
  marks : ∀ i : Nat, i < nx.length → 0 ≤ rd mk i ∧ rd mk i ≤ 15
theorem tb_step {nx : List Int} (hn : nx.length ≤ 61) (p : Int) : InS nx.length (stepTo nx p) ∧ ∀ i, tb (stepTo nx p) i = (decide (i < nx.length) && (bits .and .i64 (rd nx i) p != 0)) := whereTo_spec _ _ hn
theorem tb_box {nx : List Int} (hn : nx.length ≤ 61) (p : Int) : InS nx.length (boxTo nx p) ∧ ∀ i, tb (boxTo nx p) i = (decide (i < nx.length) && (bits .andNot .i64 (rd nx i) p == 0)) := whereTo_spec _ _ hn
theorem step_mono {nx mk : List Int} (hv : VW nx mk) {p q : Int} (hp : InS nx.length p) (hq : InS nx.length q) (h : Sub p q) : Sub (stepTo nx p) (stepTo nx q) := by
 have hle := hv.le
 intro i hi
 rw [(tb_step (by omega) p).2] at hi
 rw [(tb_step (by omega) q).2]
 simp only [Bool.and_eq_true, decide_eq_true_eq, bne_iff_ne] at hi ⊢
 refine ⟨hi.1, fun e => hi.2 ?_⟩
 rw [and_zero (by omega) (hv.next i hi.1) hq] at e
 rw [and_zero (by omega) (hv.next i hi.1) hp]
 intro j hj
 cases h1 : tb p j
 ·rfl
 ·have := e j hj
  rw [h j h1] at this
  exact this
theorem box_mono {nx mk : List Int} (hv : VW nx mk) {p q : Int} (hp : InS nx.length p) (hq : InS nx.length q) (h : Sub p q) : Sub (boxTo nx p) (boxTo nx q) := by
 have hle := hv.le
 intro i hi
 rw [(tb_box (by omega) p).2] at hi
 rw [(tb_box (by omega) q).2]
 simp only [Bool.and_eq_true, decide_eq_true_eq, beq_iff_eq] at hi ⊢
 refine ⟨hi.1, ?_⟩
 rw [andNot_zero (by omega) (hv.next i hi.1) hq]
 have e := hi.2
 rw [andNot_zero (by omega) (hv.next i hi.1) hp] at e
 exact fun j hj => h j (e j hj)
def mset (mk : List Int) (j : Nat) : Int := whereTo (fun s => markOf mk j s == 1) mk.length
theorem markOf_val {m : Int} (h0 : 0 ≤ m) (h1 : m ≤ 15) {j : Nat} (_hj : j ≤ 3) : bits .and .i64 (m / 2 ^ j) 1 = if tb m j = true then 1 else 0 := by
 obtain ⟨x, rfl⟩ := Int.eq_ofNat_of_zero_le h0
 have hx : x ≤ 15 := by omega
 have e : ((x : Int) / 2 ^ j) = ((x / 2 ^ j : Nat) : Int) := by
  rw [Int.natCast_ediv]; simp
 have hb : x / 2 ^ j < 2 ^ 62 := Nat.lt_of_le_of_lt (Nat.div_le_self _ _) (by omega)
 rw [e, show (1 : Int) = ((1 : Nat) : Int) from rfl, and_nat hb (by decide), tb_nat, Nat.testBit, Nat.shiftRight_eq_div_pow, Nat.and_comm]
 have : 1 &&& x / 2 ^ j = 0 ∨ 1 &&& x / 2 ^ j = 1 := by
  rw [Nat.and_comm, Nat.and_one_is_mod]
  omega
 rcases this with h | h <;> rw [h] <;> rfl
theorem mset_spec {nx mk : List Int} (hv : VW nx mk) {j : Nat} (hj : j ≤ 3) : InS nx.length (mset mk j) ∧ ∀ i, tb (mset mk j) i = (decide (i < nx.length) && tb (rd mk i) j) := by
 have hle := hv.le
 have h := whereTo_spec (fun s => markOf mk j s == 1) mk.length (by rw [hv.len]; omega)
 rw [hv.len] at h
 unfold mset
 rw [hv.len]
 refine ⟨h.1, fun i => ?_⟩
 rw [h.2]
 by_cases hi : i < nx.length
 ·have hm := hv.marks i hi
  have := markOf_val hm.1 hm.2 hj
  simp only [markOf, Nat.min_eq_left (show j ≤ 64 by omega)]
  rw [this]
  cases tb (rd mk i) j <;> simp
 ·simp [hi]
theorem rmarkTo_eq {mk : List Int} {j : Nat} (hj : j ≤ 3) : ∀ m, m ≤ 6 → (∀ i : Nat, i < m → 0 ≤ rd mk i ∧ rd mk i ≤ 15) → rmarkTo mk j m = whereTo (fun s => markOf mk j s == 1) m := by
 intro m
 induction m with
 | zero => intro _ _; rfl
 | succ m ih =>
  intro hm hv
  have h := hv m (by omega)
  have hmk := markOf_val h.1 h.2 hj
  simp only [rmarkTo, whereTo]
  rw [ih (by omega) (fun i hi => hv i (by omega)), hmk]
  have hmo : markOf mk j m = if tb (rd mk m) j = true then 1 else 0 := by
   simp only [markOf, Nat.min_eq_left (show j ≤ 64 by omega)]
   exact hmk
  by_cases hb : tb (rd mk m) j = true
  ·rw [if_pos hb] at hmo ⊢
   have h2 : (markOf mk j m == 1) = true := by rw [hmo]; rfl
   rw [if_pos h2, Int.one_mul]
  ·rw [if_neg hb] at hmo ⊢
   have h2 : ¬ (markOf mk j m == 1) = true := by rw [hmo]; decide
   rw [if_neg h2, Int.zero_mul]
   have h1 := (whereTo_spec (fun s => markOf mk j s == 1) m (by omega)).1
   rw [show wrap64 0 = 0 by simp [wrap64]]
   refine inS_ext (n := m) (or_in (by omega) h1 (inS_zero m)) h1 fun i _ => ?_
   rw [tb_or (n := m) (m := m) (by omega) (by omega) h1 (inS_zero m), tb_zero, Bool.or_false]
def InE (n : Nat) (s : Sets) : Prop := ∀ c, InS n (getL c s)
def SubE (s t : Sets) : Prop := ∀ c, Sub (getL c s) (getL c t)
def key (c : Nat) : Nat := if c = 120 then 0 else if c = 121 then 1 else 2
theorem getL_setL (c x : Nat) (v : Int) (s : Sets) : getL c (setL x v s) = if key c = key x then v else getL c s := by
  unfold getL setL key
  by_cases h1 : c = 120 <;> by_cases h2 : x = 120 <;> by_cases h3 : c = 121 <;> by_cases h4 : x = 121 <;> simp_all
theorem setL_setL (x : Nat) (v u : Int) (s : Sets) : setL x v (setL x u s) = setL x v s := by
  unfold setL
  by_cases h2 : x = 120 <;> by_cases h4 : x = 121 <;> simp_all
theorem inE_set {n : Nat} {s : Sets} (h : InE n s) (x : Nat) {v : Int} (hv : InS n v) : InE n (setL x v s) := fun c => by
  rw [getL_setL]; split
  · exact hv
  · exact h c
theorem subE_set {s t : Sets} (h : SubE s t) (x : Nat) {v u : Int} (hv : Sub v u) : SubE (setL x v s) (setL x u t) := fun c => by
  rw [getL_setL, getL_setL]; split
  · exact hv
  · exact h c
theorem SubE.refl (s : Sets) : SubE s s := fun _ => Sub.refl _
def it (F : Int → Int) (i0 : Int) : Nat → Int
  | 0 => i0
  | k + 1 => F (it F i0 k)
def V (nx mk : List Int) : Fm → Sets → Int
 | .mark neg j, _ => if neg = true then bits .andNot .i64 (allOf nx) (mset mk j) else mset mk j
 | .con c, _ => if c = 116 then allOf nx else 0
 | .var c, s => getL c s
 | .two c a b, s => if c = 38 then bits .and .i64 (V nx mk a s) (V nx mk b s) else bits .or .i64 (V nx mk a s) (V nx mk b s)
 | .one c a, s => if c = 60 then stepTo nx (V nx mk a s) else boxTo nx (V nx mk a s)
 | .fix c x a, s => it (fun t => V nx mk a (setL x t s)) (if c = 103 then allOf nx else 0) nx.length
theorem it_in {n : Nat} {F : Int → Int} {i0 : Int} (h0 : InS n i0) (hF : ∀ t, InS n t → InS n (F t)) : ∀ k, InS n (it F i0 k)
  | 0 => h0
  | k + 1 => hF _ (it_in h0 hF k)
theorem it_sub {n : Nat} {F G : Int → Int} {i0 : Int} (h0 : InS n i0) (hF : ∀ t, InS n t → InS n (F t)) (hG : ∀ t, InS n t → InS n (G t)) (h : ∀ t u, InS n t → InS n u → Sub t u → Sub (F t) (G u)) : ∀ k, Sub (it F i0 k) (it G i0 k)
  | 0 => Sub.refl _
  | k + 1 => h _ _ (it_in h0 hF k) (it_in h0 hG k) (it_sub h0 hF hG h k)
theorem V_spec {nx mk : List Int} (hv : VW nx mk) : ∀ f, WF f → (∀ s, InE nx.length s → InS nx.length (V nx mk f s)) ∧ ∀ s t, InE nx.length s → InE nx.length t → SubE s t → Sub (V nx mk f s) (V nx mk f t) := by
 have hle := hv.le
 intro f
 induction f with
 | mark neg j =>
  intro hw
  refine ⟨fun s _ => ?_, fun s t _ _ _ => Sub.refl _⟩
  simp only [V]
  split
  ·exact andNot_in (by omega) (by omega) (all_in (by omega)) (mset_spec hv hw).1
  ·exact (mset_spec hv hw).1
 | con c =>
  intro hw
  refine ⟨fun s _ => ?_, fun s t _ _ _ => Sub.refl _⟩
  simp only [V]
  split
  ·exact all_in (by omega)
  ·exact inS_zero _
 | var c => intro hw; exact ⟨fun s h => h c, fun s t _ _ h => h c⟩
 | two c a b iha ihb =>
  intro hw
  have ha := iha hw.2.1
  have hb := ihb hw.2.2
  refine ⟨fun s h => ?_, fun s t hs ht h => ?_⟩
  ·simp only [V]
   split
   ·exact and_in (by omega) (ha.1 s h) (hb.1 s h)
   ·exact or_in (by omega) (ha.1 s h) (hb.1 s h)
  ·simp only [V]
   split
   ·intro i hi
    rw [tb_and (by omega) (by omega) (ha.1 s hs) (hb.1 s hs), Bool.and_eq_true] at hi
    rw [tb_and (by omega) (by omega) (ha.1 t ht) (hb.1 t ht), ha.2 s t hs ht h i hi.1, hb.2 s t hs ht h i hi.2]
    rfl
   ·intro i hi
    rw [tb_or (by omega) (by omega) (ha.1 s hs) (hb.1 s hs), Bool.or_eq_true] at hi
    rw [tb_or (by omega) (by omega) (ha.1 t ht) (hb.1 t ht), Bool.or_eq_true]
    rcases hi with hi | hi
    ·exact .inl (ha.2 s t hs ht h i hi)
    ·exact .inr (hb.2 s t hs ht h i hi)
 | one c a iha =>
  intro hw
  have ha := iha hw.2
  refine ⟨fun s h => ?_, fun s t hs ht h => ?_⟩
  ·simp only [V]
   split
   ·exact (tb_step (by omega) _).1
   ·exact (tb_box (by omega) _).1
  ·simp only [V]
   split
   ·exact step_mono hv (ha.1 s hs) (ha.1 t ht) (ha.2 s t hs ht h)
   ·exact box_mono hv (ha.1 s hs) (ha.1 t ht) (ha.2 s t hs ht h)
 | fix c x a iha =>
  intro hw
  have ha := iha hw.2.2
  have h0 : InS nx.length (if c = 103 then allOf nx else 0) := by
   split
   ·exact all_in (by omega)
   ·exact inS_zero _
  refine ⟨fun s h => ?_, fun s t hs ht h => ?_⟩
  ·simp only [V]
   exact it_in h0 (fun t ht => ha.1 _ (inE_set h x ht)) _
  ·simp only [V]
   exact it_sub h0 (fun u hu => ha.1 _ (inE_set hs x hu)) (fun u hu => ha.1 _ (inE_set ht x hu)) (fun u v hu hv' huv => ha.2 _ _ (inE_set hs x hu) (inE_set ht x hv') (subE_set h x huv)) _
theorem chain_stands {c : Nat → Int} {F : Int → Int} (hc : ∀ k, c (k + 1) = F (c k)) {φ : Nat → Nat} {n : Nat} (hφ : ∀ k, φ k ≤ n) (hup : ∀ k, φ k ≤ φ (k + 1)) (heq : ∀ k, φ (k + 1) = φ k → c (k + 1) = c k) : ∀ m, n ≤ m → c (m + 1) = c m := by
 have stay : ∀ j, c (j + 1) = c j → ∀ d, c (j + d) = c j := by
  intro j h d
  induction d with
  | zero => rfl
  | succ d ih => rw [← Nat.add_assoc, hc, ih, ← hc, h]
 have key : ∀ m, (∃ j, j < m ∧ c (j + 1) = c j) ∨ m ≤ φ m := by
  intro m
  induction m with
  | zero => exact .inr (Nat.zero_le _)
  | succ m ih =>
   rcases ih with ⟨j, hj, h⟩ | h
   ·exact .inl ⟨j, by omega, h⟩
   ·by_cases e : φ (m + 1) = φ m
    ·exact .inl ⟨m, by omega, heq m e⟩
    ·have := hup m
     exact .inr (by omega)
 intro m hm
 rcases key (m + 1) with ⟨j, hj, h⟩ | h
 ·have e1 := stay j h (m + 1 - j)
  have e2 := stay j h (m - j)
  rw [show j + (m + 1 - j) = m + 1 by omega] at e1
  rw [show j + (m - j) = m by omega] at e2
  rw [e1, e2]
 ·have := hφ (m + 1)
  omega
theorem it_stands {nx mk : List Int} (hv : VW nx mk) {F : Int → Int} {g : Prop} [Decidable g] (hF : ∀ t, InS nx.length t → InS nx.length (F t)) (hm : ∀ t u, InS nx.length t → InS nx.length u → Sub t u → Sub (F t) (F u)) :
    ∀ m, nx.length ≤ m → it F (if g then allOf nx else 0) (m + 1) = it F (if g then allOf nx else 0) m := by
  have hle := hv.le
  have h0 : InS nx.length (if g then allOf nx else 0) := by
    split
    · exact all_in (by omega)
    · exact inS_zero _
  have hin := it_in h0 hF
  by_cases hg : g
  · rw [if_pos hg] at hin ⊢
    have hdown : ∀ k, Sub (it F (allOf nx) (k + 1)) (it F (allOf nx) k) := by
      intro k
      induction k with
      | zero => exact sub_all (by omega) (hin 1)
      | succ k ih => exact hm _ _ (hin (k + 1)) (hin k) ih
    refine chain_stands (F := F) (φ := fun k => nx.length - card nx.length (it F (allOf nx) k)) (fun k => rfl) (fun k => Nat.sub_le _ _) (fun k => ?_) (fun k h => ?_)
    · have := card_mono (n := nx.length) (hdown k)
      show _ - _ ≤ _ - _
      omega
    · have h1 := card_mono (n := nx.length) (hdown k)
      have h2 := card_le (n := nx.length) (a := it F (allOf nx) k)
      have h3 : nx.length - card nx.length (it F (allOf nx) (k + 1)) = nx.length - card nx.length (it F (allOf nx) k) := h
      exact card_eq (hin (k + 1)) (hin k) (hdown k) (by omega)
  · rw [if_neg hg] at hin ⊢
    have hup : ∀ k, Sub (it F 0 k) (it F 0 (k + 1)) := by
      intro k
      induction k with
      | zero => exact sub_zero _
      | succ k ih => exact hm _ _ (hin k) (hin (k + 1)) ih
    refine chain_stands (F := F) (φ := fun k => card nx.length (it F 0 k)) (fun k => rfl) (fun k => card_le) (fun k => card_mono (hup k)) (fun k h => ?_)
    exact (card_eq (hin k) (hin (k + 1)) (hup k) h.symm).symm
end Go.Proofs.Ytjffhhalmicodaa.L
end

section
set_option linter.unusedVariables false
namespace Go.Proofs.Ytjffhhalmicodaa.L
open Go.RowKit Go.Proofs.G.PrintWords Go.Proofs.G.PrintLast Go.Proofs.G.PrintMore Go.Proofs.Ytjffhhalmicodaa.X
theorem lift {α : Type} {f : Nat → Option α} (h : ∀ k, LeO (f k) (f (k + 1))) {k : Nat} {r : α} (hr : f k = some r) : ∀ {m}, k ≤ m → f m = some r := by
  intro m hm
  obtain ⟨d, rfl⟩ := Nat.exists_eq_add_of_le hm
  induction d with
  | zero => exact hr
  | succ d ih => exact h _ _ (ih (by omega))
theorem first_of {P : Nat → Prop} : ∀ n, P n → ∃ J, J ≤ n ∧ P J ∧ ∀ j, j < J → ¬ P j := by
 intro n
 induction n using Nat.strongRecOn with
 | ind n ih =>
  intro h
  by_cases e : ∃ j, j < n ∧ P j
  ·obtain ⟨j, hj, hp⟩ := e
   obtain ⟨J, h1, h2⟩ := ih j hj hp
   exact ⟨J, by omega, h2⟩
  ·exact ⟨n, Nat.le_refl _, h, fun j hj hp => e ⟨j, hj, hp⟩⟩
theorem it_stay {F : Int → Int} {i0 : Int} {J : Nat} (h : it F i0 (J + 1) = it F i0 J) : ∀ d, it F i0 (J + d) = it F i0 J := by
 intro d
 induction d with
 | zero => rfl
 | succ d ih =>
  show F (it F i0 (J + d)) = _
  rw [ih]
  exact h
theorem wrap_small {c : Int} (h0 : 0 ≤ c) (h1 : c < 1000000) : wrap64 (c + 1) = c + 1 := by unfold wrap64; omega
theorem rloop_at {nx mk : List Int} {x : Nat} {a : Fm} {s : Sets} {F : Int → Int} {i0 : Int} (hF : ∀ j, ∃ k, rholdF nx mk k a (setL x (it F i0 j) s) = some (it F i0 (j + 1))) {J : Nat} (hJ : it F i0 (J + 1) = it F i0 J) (hne : ∀ j, j < J → it F i0 (j + 1) ≠ it F i0 j) :
    ∀ d j s' (cnt : Int), j + d = J → (∀ v, setL x v s' = setL x v s) → 0 ≤ cnt → cnt + d < 1000000 → ∃ k, rloopF nx mk k x a (it F i0 j) cnt s' = some (it F i0 J, cnt + d) := by
  intro d
  induction d with
  | zero =>
    intro j s' cnt hj hs h0 h1
    obtain rfl : j = J := by omega
    obtain ⟨k, hk⟩ := hF j
    refine ⟨k + 1, ?_⟩
    rw [rloopF, hs, hk]
    simp only [Option.bind_some]
    rw [if_pos hJ]
    simp
  | succ d ih =>
    intro j s' cnt hj hs h0 h1
    obtain ⟨k, hk⟩ := hF j
    obtain ⟨k2, hk2⟩ := ih (j + 1) (setL x (it F i0 j) s') (cnt + 1) (by omega) (fun v => by rw [setL_setL, hs]) (by omega) (by omega)
    refine ⟨max k k2 + 1, ?_⟩
    rw [rloopF, hs, lift (fun k => (rholdF_mono nx mk k).1 _ _) hk (Nat.le_max_left k k2)]
    simp only [Option.bind_some]
    rw [if_neg (hne j (by omega)), wrap_small h0 (by omega), ← hs, lift (fun k => (rholdF_mono nx mk k).2 _ _ _ _ _) hk2 (Nat.le_max_right k k2)]
    congr 2
    omega
def i0Of (nx : List Int) (c : Nat) : Int := if c = 103 then allOf nx else 0
def FOf (nx mk : List Int) (x : Nat) (a : Fm) (s : Sets) : Int → Int := fun t => V nx mk a (setL x t s)
theorem i0_in {nx mk : List Int} (hv : VW nx mk) (c : Nat) : InS nx.length (i0Of nx c) := by
  have := hv.le
  unfold i0Of
  split
  · exact all_in (by omega)
  · exact inS_zero _
theorem F_in {nx mk : List Int} (hv : VW nx mk) {x : Nat} {a : Fm} (ha : WF a) {s : Sets} (hs : InE nx.length s) : ∀ t, InS nx.length t → InS nx.length (FOf nx mk x a s t) := fun t ht => (V_spec hv a ha).1 _ (inE_set hs x ht)
theorem F_mono {nx mk : List Int} (hv : VW nx mk) {x : Nat} {a : Fm} (ha : WF a) {s : Sets} (hs : InE nx.length s) : ∀ t u, InS nx.length t → InS nx.length u → Sub t u → Sub (FOf nx mk x a s t) (FOf nx mk x a s u) := fun t u ht hu h => (V_spec hv a ha).2 _ _ (inE_set hs x ht) (inE_set hs x hu) (subE_set (SubE.refl s) x h)
theorem steps_of {nx mk : List Int} (hv : VW nx mk) (c x : Nat) {a : Fm} (ha : WF a) {s : Sets} (hs : InE nx.length s) : ∃ J, J ≤ nx.length ∧ it (FOf nx mk x a s) (i0Of nx c) (J + 1) = it (FOf nx mk x a s) (i0Of nx c) J ∧ (∀ j, j < J → it (FOf nx mk x a s) (i0Of nx c) (j + 1) ≠ it (FOf nx mk x a s) (i0Of nx c) j) ∧ it (FOf nx mk x a s) (i0Of nx c) J = V nx mk (.fix c x a) s := by
 have h := it_stands hv (g := c = 103) (F_in hv (x := x) ha hs) (F_mono hv ha hs) nx.length (Nat.le_refl _)
 obtain ⟨J, h1, h2, h3⟩ := first_of (P := fun j => it (FOf nx mk x a s) (i0Of nx c) (j + 1) = it (FOf nx mk x a s) (i0Of nx c) j) nx.length h
 refine ⟨J, h1, h2, h3, ?_⟩
 have := it_stay h2 (nx.length - J)
 rw [show J + (nx.length - J) = nx.length by omega] at this
 rw [← this]
 rfl
theorem rhold_total {nx mk : List Int} (hv : VW nx mk) : ∀ f, WF f → ∀ s, InE nx.length s → ∃ k, rholdF nx mk k f s = some (V nx mk f s) := by
 have hle := hv.le
 intro f
 induction f with
 | mark neg j =>
  intro hw s hs
  refine ⟨1, ?_⟩
  rw [rholdF, V, rmarkTo_eq hw mk.length (by rw [hv.len]; omega) (fun i hi => hv.marks i (by rw [hv.len] at hi; exact hi))]
  rfl
 | con c => intro hw s hs; exact ⟨1, by rw [rholdF, V]⟩
 | var c => intro hw s hs; exact ⟨1, by rw [rholdF, V]⟩
 | two c a b iha ihb =>
  intro hw s hs
  obtain ⟨k1, h1⟩ := iha hw.2.1 s hs
  obtain ⟨k2, h2⟩ := ihb hw.2.2 s hs
  refine ⟨max k1 k2 + 1, ?_⟩
  rw [rholdF, lift (fun k => (rholdF_mono nx mk k).1 _ _) h1 (Nat.le_max_left k1 k2), lift (fun k => (rholdF_mono nx mk k).1 _ _) h2 (Nat.le_max_right k1 k2), V]
  rfl
 | one c a iha =>
  intro hw s hs
  obtain ⟨k1, h1⟩ := iha hw.2 s hs
  refine ⟨k1 + 1, ?_⟩
  rw [rholdF, h1, V]
  rfl
 | fix c x a iha =>
  intro hw s hs
  obtain ⟨J, hJ, h1, h2, h3⟩ := steps_of hv c x hw.2.2 hs
  obtain ⟨k, hk⟩ := rloop_at (nx := nx) (mk := mk) (x := x) (a := a) (s := s) (fun j => iha hw.2.2 _ (inE_set hs x (it_in (i0_in hv c) (F_in hv hw.2.2 hs) j))) h1 h2 J 0 s 1 (by omega) (fun _ => rfl) (by omega) (by omega)
  refine ⟨k + 1, ?_⟩
  rw [rholdF]
  have e : it (FOf nx mk x a s) (i0Of nx c) 0 = if c = 103 then allOf nx else 0 := rfl
  rw [e] at hk
  rw [hk, ← h3]
  rfl
def Sc : List Nat → Fm → Prop
 | _, .mark _ _ => True
 | _, .con _ => True
 | b, .var c => c ∈ b
 | b, .two _ a c => Sc b a ∧ Sc b c
 | b, .one _ a => Sc b a
 | b, .fix _ x a => x ∉ b ∧ Sc (b ++ [x]) a
theorem parse_sc : ∀ n l b f r, parse n l b = some (f, r) → Sc b f := by
 intro n
 induction n with
 | zero => intro l b f r h; simp [parse] at h
 | succ n ih =>
  intro l b f r h
  cases l with
  | nil => simp [parse] at h
  | cons c l =>
   simp only [parse] at h
   by_cases h1 : isMk c = true
   ·rw [if_pos h1] at h
    simp only [Option.some.injEq, Prod.mk.injEq] at h
    obtain ⟨rfl, rfl⟩ := h
    trivial
   ·rw [if_neg h1] at h
    by_cases h2 : c = 45
    ·rw [if_pos h2] at h
     cases l with
     | nil => cases h
     | cons d t =>
      simp only at h
      by_cases h3 : isMk d = true
      ·rw [if_pos h3] at h
       simp only [Option.some.injEq, Prod.mk.injEq] at h
       obtain ⟨rfl, rfl⟩ := h
       trivial
      ·rw [if_neg h3] at h
       cases h
    ·rw [if_neg h2] at h
     by_cases h3 : c = 116 ∨ c = 102
     ·rw [if_pos h3] at h
      simp only [Option.some.injEq, Prod.mk.injEq] at h
      obtain ⟨rfl, rfl⟩ := h
      trivial
     ·rw [if_neg h3] at h
      by_cases h4 : isLt c = true
      ·rw [if_pos h4] at h
       by_cases h5 : c ∈ b
       ·rw [if_pos h5] at h
        simp only [Option.some.injEq, Prod.mk.injEq] at h
        obtain ⟨rfl, rfl⟩ := h
        exact h5
       ·rw [if_neg h5] at h
        cases h
      ·rw [if_neg h4] at h
       by_cases h6 : c = 109 ∨ c = 103
       ·rw [if_pos h6] at h
        cases l with
        | nil => cases h
        | cons d t =>
         simp only at h
         by_cases h7 : isLt d = true ∧ d ∉ b
         ·rw [if_pos h7] at h
          obtain ⟨p, hp, h⟩ := Option.bind_eq_some_iff.mp h
          simp only [Option.some.injEq, Prod.mk.injEq] at h
          obtain ⟨rfl, rfl⟩ := h
          exact ⟨h7.2, ih _ _ _ _ hp⟩
         ·rw [if_neg h7] at h
          cases h
       ·rw [if_neg h6] at h
        by_cases h7 : c = 38 ∨ c = 124
        ·rw [if_pos h7] at h
         obtain ⟨p, hp, h⟩ := Option.bind_eq_some_iff.mp h
         obtain ⟨q, hq, h⟩ := Option.bind_eq_some_iff.mp h
         simp only [Option.some.injEq, Prod.mk.injEq] at h
         obtain ⟨rfl, rfl⟩ := h
         exact ⟨ih _ _ _ _ hp, ih _ _ _ _ hq⟩
        ·rw [if_neg h7] at h
         by_cases h8 : c = 60 ∨ c = 91
         ·rw [if_pos h8] at h
          obtain ⟨p, hp, h⟩ := Option.bind_eq_some_iff.mp h
          simp only [Option.some.injEq, Prod.mk.injEq] at h
          obtain ⟨rfl, rfl⟩ := h
          exact (show Sc b p.1 from ih l b p.1 p.2 hp)
         ·rw [if_neg h8] at h
          cases h
def Rel (b : List Nat) (m : List (Int × Int)) (s : Sets) : Prop := ∀ c, c ∈ b → (findL m (c : Int)).getD 0 = getL c s
def Lets (b : List Nat) : Prop := ∀ c, c ∈ b → 120 ≤ c ∧ c ≤ 122
theorem key_ne {c x : Nat} (hc : 120 ≤ c ∧ c ≤ 122) (hx : 120 ≤ x ∧ x ≤ 122) (h : c ≠ x) : key c ≠ key x := by
  unfold key
  split <;> split <;> (try split) <;> (try split) <;> omega
theorem rel_put {b : List Nat} {m : List (Int × Int)} {s : Sets} {x : Nat} (hb : Lets b) (hx : 120 ≤ x ∧ x ≤ 122) (hn : x ∉ b) (h : Rel b m s) (v : Int) : Rel (b ++ [x]) (putL m (x : Int) v) (setL x v s) := by
 intro c hc
 rw [findL_putL, getL_setL]
 by_cases e : x = c
 ·subst e
  rw [if_pos rfl, if_pos rfl]
  rfl
 ·have hcb : c ∈ b := by
   rcases List.mem_append.1 hc with h | h
   ·exact h
   ·exact absurd (List.mem_singleton.1 h).symm e
  rw [if_neg (by omega), if_neg (key_ne (hb c hcb) hx (fun h => e h.symm))]
  exact h c hcb
theorem loop_at {nx mk : List Int} {b : List Nat} {x : Nat} {a : Fm} {s : Sets} (hb : Lets b) (hx : 120 ≤ x ∧ x ≤ 122) (hn : x ∉ b) {F : Int → Int} {i0 : Int}
    (hF : ∀ j m, Rel (b ++ [x]) m (setL x (it F i0 j) s) → ∃ k m', holdF nx mk k a m = some (it F i0 (j + 1), m') ∧ ∀ c ∈ b ++ [x], findL m' (c : Int) = findL m (c : Int)) {J : Nat} (hJ : it F i0 (J + 1) = it F i0 J) (hne : ∀ j, j < J → it F i0 (j + 1) ≠ it F i0 j) :
    ∀ d j m (cnt : Int), j + d = J → Rel b m s → 0 ≤ cnt → cnt + d < 1000000 → ∃ k m', loopF nx mk k x a (it F i0 j) cnt m = some (it F i0 J, cnt + d + 1, m') ∧ ∀ c ∈ b, findL m' (c : Int) = findL m (c : Int) := by
  have keep : ∀ (m m' : List (Int × Int)) v, (∀ c ∈ b ++ [x], findL m' (c : Int) = findL (putL m (x : Int) v) (c : Int)) → ∀ c ∈ b, findL m' (c : Int) = findL m (c : Int) := by
    intro m m' v h c hc
    rw [h c (List.mem_append.2 (.inl hc)), findL_putL, if_neg]
    intro e
    have : x = c := by omega
    exact hn (this ▸ hc)
  intro d
  induction d with
  | zero =>
    intro j m cnt hj hr h0 h1
    obtain rfl : j = J := by omega
    obtain ⟨k, m', hk, hm⟩ := hF j _ (rel_put hb hx hn hr (it F i0 j))
    refine ⟨k + 1, m', ?_, keep _ _ _ hm⟩
    rw [loopF, hk]
    simp only [Option.bind_some]
    rw [if_pos hJ, wrap_small h0 (by omega)]
    simp
  | succ d ih =>
    intro j m cnt hj hr h0 h1
    obtain ⟨k, m', hk, hm⟩ := hF j _ (rel_put hb hx hn hr (it F i0 j))
    have hm2 := keep _ _ _ hm
    obtain ⟨k2, m2, hk2, hm3⟩ := ih (j + 1) m' (cnt + 1) (by omega) (fun c hc => by rw [hm2 c hc]; exact hr c hc) (by omega) (by omega)
    refine ⟨max k k2 + 1, m2, ?_, fun c hc => by rw [hm3 c hc, hm2 c hc]⟩
    rw [loopF, lift (fun k => (holdF_mono nx mk k).1 _ _) hk (Nat.le_max_left k k2)]
    simp only [Option.bind_some]
    rw [if_neg (hne j (by omega)), wrap_small h0 (by omega), lift (fun k => (holdF_mono nx mk k).2 _ _ _ _ _) hk2 (Nat.le_max_right k k2)]
    congr 3
    omega
theorem neg_mark {nx mk : List Int} (hv : VW nx mk) {j : Nat} (hj : j ≤ 3) : whereTo (fun s => markOf mk j s == 0) nx.length = bits .andNot .i64 (allOf nx) (mset mk j) := by
 have hle := hv.le
 have h := whereTo_spec (fun s => markOf mk j s == 0) nx.length (by omega)
 have hm := mset_spec hv hj
 refine inS_ext h.1 (andNot_in (by omega) (by omega) (all_in (by omega)) hm.1) fun i hi => ?_
 rw [h.2, tb_andNot (by omega) (by omega) (all_in (by omega)) hm.1, hm.2, tb_all (by omega)]
 have hmi := hv.marks i hi
 have := markOf_val hmi.1 hmi.2 hj
 simp only [markOf, Nat.min_eq_left (show j ≤ 64 by omega)]
 rw [this]
 cases tb (rd mk i) j <;> simp [hi]
theorem hold_total {nx mk : List Int} (hv : VW nx mk) : ∀ f, WF f → ∀ b m s, Lets b → Sc b f → Rel b m s → InE nx.length s → ∃ k m', holdF nx mk k f m = some (V nx mk f s, m') ∧ ∀ c ∈ b, findL m' (c : Int) = findL m (c : Int) := by
 have hle := hv.le
 intro f
 induction f with
 | mark neg j =>
  intro hw b m s hb hsc hr hs
  refine ⟨1, m, ?_, fun _ _ => rfl⟩
  rw [holdF, V]
  cases neg with
  | true =>
   simp only [if_true]
   rw [neg_mark hv hw]
  | false =>
   simp only [Bool.false_eq_true, if_false]
   rw [mset, hv.len]
 | con c =>
  intro hw b m s hb hsc hr hs
  refine ⟨1, m, ?_, fun _ _ => rfl⟩
  rw [holdF, V]
  rcases hw with rfl | rfl
  ·rfl
  ·rfl
 | var c =>
  intro hw b m s hb hsc hr hs
  refine ⟨1, m, ?_, fun _ _ => rfl⟩
  rw [holdF, V, hr c hsc]
 | two c a b' iha ihb =>
  intro hw b m s hb hsc hr hs
  obtain ⟨k1, m1, h1, g1⟩ := iha hw.2.1 b m s hb hsc.1 hr hs
  obtain ⟨k2, m2, h2, g2⟩ := ihb hw.2.2 b m1 s hb hsc.2 (fun c hc => by rw [g1 c hc]; exact hr c hc) hs
  refine ⟨max k1 k2 + 1, m2, ?_, fun c hc => by rw [g2 c hc, g1 c hc]⟩
  rw [holdF, if_pos hw.1, lift (fun k => (holdF_mono nx mk k).1 _ _) h1 (Nat.le_max_left k1 k2)]
  simp only [Option.bind_some]
  rw [lift (fun k => (holdF_mono nx mk k).1 _ _) h2 (Nat.le_max_right k1 k2), V]
  rfl
 | one c a iha =>
  intro hw b m s hb hsc hr hs
  obtain ⟨k1, m1, h1, g1⟩ := iha hw.2 b m s hb hsc hr hs
  refine ⟨k1 + 1, m1, ?_, g1⟩
  rw [holdF, if_pos hw.1, h1, V]
  rfl
 | fix c x a iha =>
  intro hw b m s hb hsc hr hs
  obtain ⟨J, hJ, h1, h2, h3⟩ := steps_of hv c x hw.2.2 hs
  have hb2 : Lets (b ++ [x]) := fun c hc => by
   rcases List.mem_append.1 hc with h | h
   ·exact hb c h
   ·rw [List.mem_singleton.1 h]; exact hw.2.1
  obtain ⟨k, m', hk, hm⟩ := loop_at (nx := nx) (mk := mk) (a := a) (s := s) hb hw.2.1 hsc.1 (fun j m hr => iha hw.2.2 (b ++ [x]) m _ hb2 hsc.2 hr (inE_set hs x (it_in (i0_in hv c) (F_in hv hw.2.2 hs) j))) h1 h2 J 0 m 0 (by omega) hr (by omega) (by omega)
  refine ⟨k + 1, m', ?_, hm⟩
  rw [holdF, if_pos hw.1]
  have e : it (FOf nx mk x a s) (i0Of nx c) 0 = if c = 103 then allOf nx else 0 := rfl
  rw [e] at hk
  rw [hk, ← h3]
  rfl
theorem inE_zero (n : Nat) : InE n (0, 0, 0) := fun c => by
  unfold getL
  split
  · exact inS_zero n
  · split <;> exact inS_zero n
theorem whole_sc {l : List Nat} {f : Fm} (h : whole l = some f) : Sc [] f := by
 unfold whole at h
 obtain ⟨p, hp, h⟩ := Option.bind_eq_some_iff.mp h
 split at h
 ·injection h with h
  subst h
  exact parse_sc _ _ _ _ _ hp
 ·cases h
theorem both_holds {nx mk : List Int} (hv : VW nx mk) {l : List Nat} {f : Fm} (h : whole l = some f) : ∃ k m, rholdF nx mk k f (0, 0, 0) = some (V nx mk f (0, 0, 0)) ∧ holdF nx mk k f [] = some (V nx mk f (0, 0, 0), m) := by
  obtain ⟨k1, h1⟩ := rhold_total hv f (whole_str h).2 (0, 0, 0) (inE_zero _)
  obtain ⟨k2, m, h2, _⟩ := hold_total hv f (whole_str h).2 [] [] (0, 0, 0) (fun c hc => by cases hc) (whole_sc h) (fun c hc => by cases hc) (inE_zero _)
  exact ⟨max k1 k2, m, lift (fun k => (rholdF_mono nx mk k).1 _ _) h1 (Nat.le_max_left k1 k2), lift (fun k => (holdF_mono nx mk k).1 _ _) h2 (Nat.le_max_right k1 k2)⟩
end Go.Proofs.Ytjffhhalmicodaa.L
end

section
set_option linter.unusedVariables false
set_option linter.unusedSimpArgs false
namespace Go.Proofs.Ytjffhhalmicodaa.X
open Go.RowKit Go.Proofs.G.PrintWords Go.Proofs.G.PrintLast Go.Proofs.G.PrintMore
def pairV (p : Int × Int) : Value := .agg #[.int .i64 p.1, .int .i64 p.2]
theorem pair_eq (a b c d : Int) (w : World) : (Op.equalIn 10000 99 (.agg #[.int .i64 a, .int .i64 b]) (.agg #[.int .i64 c, .int .i64 d])).run Try.prog w = .ok (a == c && b == d) w := by
 have u3 := Try.underlying3
 have a3 := Try.isAgg3
 have z3 := Try.sizeOf3
 rw [show (10000 : Nat) = 9999 + 1 from rfl, Op.equalIn]
 simp only [Sem.run_bind, run_underlying Try.underlying99, Result.andThen_ok]
 simp only [Std.Legacy.Range.forIn_eq_forIn_range', Std.Legacy.Range.size, Nat.sub_zero, Nat.add_sub_cancel, Nat.div_one, List.range'_succ, List.range'_zero, List.forIn_cons, List.forIn_nil]
 go_simp
 by_cases h1 : a = c <;> by_cases h2 : b = d <;> simp [h1, h2]
theorem pair_check (em : Bool) (p : Int × Int) (w : World) : (Instr.checkKey em 10000 99 (pairV p)).run Try.prog w = .ok () w := by
 have u3 := Try.underlying3
 have a3 := Try.isAgg3
 have z3 := Try.sizeOf3
 unfold pairV
 rw [show (10000 : Nat) = 9998 + 1 + 1 from rfl, Instr.checkKey]
 simp only [Sem.run_bind, run_underlying Try.underlying99, Result.andThen_ok]
 simp only [Std.Legacy.Range.forIn_eq_forIn_range', Std.Legacy.Range.size, Nat.sub_zero, Nat.add_sub_cancel, Nat.div_one, List.range'_succ, List.range'_zero, List.forIn_cons, List.forIn_nil]
 have hk : ∀ (a : Int) w, (Instr.checkKey em (9998 + 1) 3 (.int .i64 a)).run Try.prog w = .ok () w := fun a w => Go.MapKept.run_checkKey u3 (show Go.MapKept.IsKey (.int .i64) (.int .i64 a) from rfl) em 9998
 go_simp
theorem pair_find (k : Int × Int) : ∀ (es : List MapEntry) (l : List (Int × Int)) (i : Nat) (w : World), es.map (·.key) = l.map pairV → (Instr.findAsking 99 (pairV k) es i).run Try.prog w = .ok ((es[l.findIdx (· = k)]?).map fun e => (i + l.findIdx (· = k), e.val)) w
 | [], [], i, w, _ => by simp [Instr.findAsking]
 | [], _ :: _, i, w, h => by simp at h
 | _ :: _, [], i, w, h => by simp at h
 | e :: es, a :: l, i, w, h => by
  simp only [List.map_cons, List.cons.injEq] at h
  have he := pair_eq k.1 k.2 a.1 a.2 w
  have ih := pair_find k es l (i + 1) w h.2
  unfold Instr.findAsking
  rw [Sem.run_bind, h.1]
  show ((Op.equalIn 10000 99 (pairV k) (pairV a)).run Try.prog w).andThen _ = _
  unfold pairV at he ⊢
  rw [he]
  by_cases hk : a = k
  ·subst hk
   simp [List.findIdx_cons]
  ·have hb : (k.1 == a.1 && k.2 == a.2) = false := by
    rw [Bool.eq_false_iff]
    intro hb
    rw [Bool.and_eq_true, beq_iff_eq, beq_iff_eq] at hb
    exact hk (Prod.ext hb.1.symm hb.2.symm)
   rw [hb]
   unfold pairV at ih
   simp only [Result.andThen_ok, Bool.false_eq_true, if_false, ih, List.findIdx_cons, hk, decide_false, cond_false, List.getElem?_cons_succ]
   cases es[l.findIdx (· = k)]? with
   | none => rfl
   | some x =>
    simp only [Option.map_some]
    rw [show i + 1 + l.findIdx (· = k) = i + (l.findIdx (· = k) + 1) by omega]
theorem pair_find0 (k : Int × Int) (es : List MapEntry) (l : List (Int × Int)) (w : World) (h : es.map (·.key) = l.map pairV) : (Instr.findKey 99 (pairV k) es).run Try.prog w = .ok ((es[l.findIdx (· = k)]?).map fun e => (l.findIdx (· = k), e.val)) w := by
 cases es with
 | nil =>
  cases l with
  | nil => simp [Instr.findKey, run_underlying Try.underlying99, Instr.findNow]
  | cons a l => simp at h
 | cons e es =>
  have hf := pair_find k (e :: es) l 0 w h
  have hn : Instr.findNow (.array 2 3) (pairV k) (e :: es) 0 = none := by
   unfold Instr.findNow
   rfl
  simp only [Instr.findKey, Sem.run_bind, run_underlying Try.underlying99, Result.andThen_ok, hn]
  rw [hf]
  simp
theorem keyOk_pair : KeyOk Try.prog 99 pairV where
 inj := fun a b h => by
  unfold pairV at h
  simp only [Value.agg.injEq, Array.mk.injEq, List.cons.injEq, Value.int.injEq, true_and, and_true] at h
  exact Prod.ext h.1 h.2
 check := fun b k w => pair_check b k w
 find := fun k es l w h => pair_find0 k es l w h
 stays := fun k w => by simp [Instr.keyThatStays, Instr.sameBits, pairV]
end Go.Proofs.Ytjffhhalmicodaa.X
end

section
set_option linter.unusedVariables false
set_option linter.unusedSimpArgs false
namespace Go.Proofs.Ytjffhhalmicodaa.X
open Go.RowKit Go.Proofs.G.PrintWords Go.Proofs.G.PrintLast Go.Proofs.G.PrintMore
def numTo (key : Nat → Int × Int) : Nat → List ((Int × Int) × Int) × List Int
  | 0 => ([], [])
  | k + 1 => match findL (numTo key k).1 (key k) with
    | some v => ((numTo key k).1, (numTo key k).2 ++ [v])
    | none => (putL (numTo key k).1 (key k) ((numTo key k).1.length : Int), (numTo key k).2 ++ [((numTo key k).1.length : Int)])
theorem numTo_len (key : Nat → Int × Int) : ∀ k, (numTo key k).2.length = k
  | 0 => rfl
  | k + 1 => by
    have := numTo_len key k
    rw [numTo]
    split <;> simp [this]
def cls (key : Nat → Int × Int) (i : Nat) : Int := (findL (numTo key i).1 (key i)).getD ((numTo key i).1.length : Int)
def cnt (key : Nat → Int × Int) (i : Nat) : Nat := (numTo key i).1.length
theorem num_succ (key : Nat → Int × Int) (k : Nat) : (numTo key (k + 1)).2 = (numTo key k).2 ++ [cls key k] := by
  unfold cls
  rw [numTo]
  split
  · rename_i v h; simp [h]
  · rename_i h; simp [h]
theorem rd_num (key : Nat → Int × Int) (n i : Nat) (h : i < n) : rd (numTo key n).2 (i : Int) = cls key i := by
 induction n with
 | zero => omega
 | succ n ih =>
  have hl := numTo_len key n
  rw [num_succ]
  unfold rd at ih ⊢
  rw [Int.toNat_natCast] at ih ⊢
  rw [List.getD_eq_getElem?_getD] at ih ⊢
  by_cases hi : i < n
  ·rw [List.getElem?_append_left (by omega)]
   exact ih hi
  ·obtain rfl : i = n := by omega
   rw [List.getElem?_append_right (by omega), hl]
   simp
theorem num_map (key : Nat → Int × Int) (n : Nat) :
    (∀ i, i < n → findL (numTo key n).1 (key i) = some (cls key i)) ∧ (∀ k v, findL (numTo key n).1 k = some v → ∃ i, i < n ∧ key i = k ∧ cls key i = v ∧ 0 ≤ v ∧ v < cnt key n ∧ ∀ j, j < i → key j ≠ key i) := by
  induction n with
  | zero => exact ⟨fun i h => by omega, fun k v h => by simp [numTo, findL] at h⟩
  | succ n ih =>
    obtain ⟨h1, h2⟩ := ih
    cases hf : findL (numTo key n).1 (key n) with
    | some v =>
      have e : (numTo key (n + 1)).1 = (numTo key n).1 := by rw [numTo, hf]
      have hc : cls key n = v := by unfold cls; rw [hf]; rfl
      unfold cnt
      rw [e]
      refine ⟨fun i hi => ?_, fun k u h => ?_⟩
      · by_cases hin : i < n
        · exact h1 i hin
        · obtain rfl : i = n := by omega
          rw [hf, hc]
      · obtain ⟨i, a, b⟩ := h2 k u h
        exact ⟨i, by omega, b⟩
    | none =>
      have e : (numTo key (n + 1)).1 = (numTo key n).1 ++ [(key n, ((numTo key n).1.length : Int))] := by rw [numTo, hf]; exact putL_none hf
      have e' : (numTo key (n + 1)).1 = putL (numTo key n).1 (key n) ((numTo key n).1.length : Int) := by rw [numTo, hf]
      have hc : cls key n = ((numTo key n).1.length : Int) := by unfold cls; rw [hf]; rfl
      have hne : ∀ j, j < n → key j ≠ key n := fun j hj he => by
        have := h1 j hj
        rw [he, hf] at this
        cases this
      have hcn : cnt key (n + 1) = cnt key n + 1 := by unfold cnt; rw [e]; simp
      refine ⟨fun i hi => ?_, fun k u h => ?_⟩
      · rw [e', findL_putL]
        by_cases hin : i < n
        · rw [if_neg (fun q => hne i hin q.symm)]
          exact h1 i hin
        · obtain rfl : i = n := by omega
          rw [if_pos rfl, hc]
      · rw [e', findL_putL] at h
        by_cases hk : key n = k
        · rw [if_pos hk] at h
          injection h with h
          refine ⟨n, by omega, hk, by rw [hc, h], by omega, ?_, hne⟩
          rw [hcn]
          unfold cnt
          omega
        · rw [if_neg hk] at h
          obtain ⟨i, a, b, c, d, f, g⟩ := h2 k u h
          exact ⟨i, by omega, b, c, d, by omega, g⟩
theorem cnt_le (key : Nat → Int × Int) : ∀ n, cnt key n ≤ n
 | 0 => Nat.le_refl _
 | n + 1 => by
  have := cnt_le key n
  unfold cnt at this ⊢
  rw [numTo]
  split
  ·simp; omega
  ·rename_i h
   simp only [putL_none h, List.length_append, List.length_singleton]
   omega
theorem cnt_step (key : Nat → Int × Int) (n : Nat) : (cnt key (n + 1) = cnt key n ∧ ∃ j, j < n ∧ key j = key n) ∨ (cnt key (n + 1) = cnt key n + 1 ∧ cls key n = cnt key n ∧ ∀ j, j < n → key j ≠ key n) := by
 cases hf : findL (numTo key n).1 (key n) with
 | some v =>
  left
  obtain ⟨i, a, b, _⟩ := (num_map key n).2 _ _ hf
  refine ⟨?_, i, a, b⟩
  unfold cnt
  rw [numTo, hf]
 | none =>
  right
  refine ⟨?_, by unfold cls cnt; rw [hf]; rfl, fun j hj he => ?_⟩
  ·unfold cnt
   rw [numTo, hf]
   simp [putL_none hf]
  ·have := (num_map key n).1 j hj
   rw [he, hf] at this
   cases this
theorem cnt_mono (key : Nat → Int × Int) {m n : Nat} (h : m ≤ n) : cnt key m ≤ cnt key n := by
  induction n with
  | zero => obtain rfl : m = 0 := by omega
            exact Nat.le_refl _
  | succ n ih =>
    by_cases e : m = n + 1
    · rw [e]; exact Nat.le_refl _
    · have := ih (by omega)
      rcases cnt_step key n with h | h <;> omega
theorem cls_range (key : Nat → Int × Int) {i n : Nat} (h : i < n) : 0 ≤ cls key i ∧ cls key i < cnt key n := by
  obtain ⟨j, a, b, c, d, e, f⟩ := (num_map key n).2 _ _ ((num_map key n).1 i h)
  exact ⟨d, e⟩
theorem cls_eq (key : Nat → Int × Int) (i j : Nat) : cls key i = cls key j ↔ key i = key j := by
 have hi := (num_map key (i + j + 1)).1 i (by omega)
 have hj := (num_map key (i + j + 1)).1 j (by omega)
 constructor
 ·intro h
  obtain ⟨a, a1, a2, a3, _, _, a4⟩ := (num_map key (i + j + 1)).2 _ _ hi
  obtain ⟨b, b1, b2, b3, _, _, b4⟩ := (num_map key (i + j + 1)).2 _ _ hj
  have new : ∀ a, (∀ j, j < a → key j ≠ key a) → cls key a = cnt key a ∧ cnt key (a + 1) = cnt key a + 1 := fun a ha => by
   rcases cnt_step key a with ⟨_, j, hj, e⟩ | ⟨e1, e2, _⟩
   ·exact absurd e (ha j hj)
   ·exact ⟨e2, e1⟩
  have na := new a a4
  have nb := new b b4
  rcases Nat.lt_trichotomy a b with hab | rfl | hab
  ·have := cnt_mono key (show a + 1 ≤ b by omega)
   omega
  ·rw [← a2, ← b2]
  ·have := cnt_mono key (show b + 1 ≤ a by omega)
   omega
 ·intro h
  rw [h, hj] at hi
  injection hi with hi
  exact hi.symm
theorem cls_congr {key key' : Nat → Int × Int} {n : Nat} (h : ∀ i j, i < n → j < n → (key i = key j ↔ key' i = key' j)) : ∀ i, i < n → cls key i = cls key' i ∧ cnt key i = cnt key' i := by
 have hc : ∀ m, m ≤ n → cnt key m = cnt key' m := by
  intro m
  induction m with
  | zero => intro _; rfl
  | succ m ih =>
   intro hm
   have := ih (by omega)
   rcases cnt_step key m with ⟨e, j, hj, hk⟩ | ⟨e, e2, e3⟩ <;> rcases cnt_step key' m with ⟨f, j', hj', hk'⟩ | ⟨f, f2, f3⟩
   ·omega
   ·exact absurd ((h j m (by omega) (by omega)).1 hk) (f3 j hj)
   ·exact absurd ((h j' m (by omega) (by omega)).2 hk') (e3 j' hj')
   ·omega
 intro i
 induction i using Nat.strongRecOn with
 | ind i ih =>
  intro hi
  refine ⟨?_, hc i (by omega)⟩
  rcases cnt_step key i with ⟨e, j, hj, hk⟩ | ⟨e, e2, e3⟩
  ·rw [← (cls_eq key j i).2 hk, ← (cls_eq key' j i).2 ((h j i (by omega) hi).1 hk)]
   exact (ih j hj (by omega)).1
  ·rcases cnt_step key' i with ⟨f, j', hj', hk'⟩ | ⟨f, f2, f3⟩
   ·exact absurd ((h j' i (by omega) hi).2 hk') (e3 j' hj')
   ·rw [e2, f2, hc i (by omega)]
theorem num_congr {key key' : Nat → Int × Int} {n : Nat} (h : ∀ i j, i < n → j < n → (key i = key j ↔ key' i = key' j)) : (numTo key n).2 = (numTo key' n).2 ∧ cnt key n = cnt key' n := by
 have hx := cls_congr h
 constructor
 ·have : ∀ m, m ≤ n → (numTo key m).2 = (numTo key' m).2 := by
   intro m
   induction m with
   | zero => intro _; rfl
   | succ m ih =>
    intro hm
    rw [num_succ, num_succ, ih (by omega), (hx m (by omega)).1]
  exact this n (Nat.le_refl _)
 ·cases n with
  | zero => rfl
  | succ m =>
   have h1 := (hx m (by omega)).2
   rcases cnt_step key m with ⟨e, j, hj, hk⟩ | ⟨e, e2, e3⟩ <;> rcases cnt_step key' m with ⟨f, j', hj', hk'⟩ | ⟨f, f2, f3⟩
   ·omega
   ·exact absurd ((h j m (by omega) (by omega)).1 hk) (f3 j hj)
   ·exact absurd ((h j' m (by omega) (by omega)).2 hk') (e3 j' hj')
   ·omega
def markKey (mk : List Int) (s : Nat) : Int × Int := (rd mk s, 0)
def setTo (nx last : List Int) (s : Nat) : Nat → Int
  | 0 => 0
  | t + 1 => if bits .and .i64 (shr .i64 (rd nx s) (t : Int)) 1 = 1 then bits .or .i64 (setTo nx last s t) (shl .i64 1 (rd last (t : Int))) else setTo nx last s t
def setKey (nx last : List Int) (s : Nat) : Int × Int := (rd last s, setTo nx last s last.length)
end Go.Proofs.Ytjffhhalmicodaa.X
end

section
set_option linter.unusedVariables false
set_option linter.unusedSimpArgs false
namespace Go.Proofs.Ytjffhhalmicodaa.X
open Go.RowKit Go.Proofs.G.PrintWords Go.Proofs.G.PrintLast Go.Proofs.G.PrintMore
theorem R_notmap {α : Type} {d : Kd α} {e : TypeId} {w : World} {base : Nat} {ok : Nat → Prop} {v : Value} {xs : List α} (h : d.R e w base ok v xs) {r : Nat} {es : Array MapEntry} {c : Nat} (hb : w.heap[r]? = some (.map es c)) : d.R e w base (fun k => ok k ∧ k ≠ r) v xs :=
  Kd.R_mono (Kd.R_bound h) (fun k hk => ⟨hk.1, by
    obtain ⟨_, _, _, q, hq, cells', hc⟩ := hk
    rintro rfl
    rw [hc] at hb
    cases hb⟩)
def KeyFn (w : World) (g : Nat) (lb : Array Value) (n : Nat) (key : Nat → Int × Int) : Prop :=
  ∀ (W : World) (s : Nat), s < n → Below w.heap.size w W → Calls Try.prog g (#[.int .i64 s] ++ lb) W fun e w' => e = .returned (pairV (key s)) ∧ Below W.heap.size W w'
structure NS (w : World) (gw r : Nat) (cells : Array Value) (key : Nat → Int × Int) (k : Nat) (sl : Value) (wr : World) : Prop where
 below : Below w.heap.size w wr
 box : wr.heap[gw]? = some (.cells cells 28 (0, 0))
 newb : w.heap.size ≤ gw
 map : IsM pairV (Value.int .i64) wr r (numTo key k).1
 newm : w.heap.size ≤ r
 own : Kd.R (Kd.int .i64) 3 wr w.heap.size (fun _ => True) sl (numTo key k).2
theorem NS.step {w : World} {gw r : Nat} {cells : Array Value} {key : Nat → Int × Int} {k : Nat} {sl : Value} {wr w2 : World} (h : NS w gw r cells key k sl wr) (hb : Below wr.heap.size wr w2) : NS w gw r cells key k sl w2 :=
  ⟨h.below.trans (hb.mono h.below.size), (hb.block gw (Array.getElem?_eq_some_iff.1 h.box).1).trans h.box, h.newb, h.map.below hb, h.newm, Kd.R_below h.own hb⟩
theorem info3' : (Try.prog.info? 3).map (fun i => (i.zero, i.size, i.bytes)) = some (some (.int .i64 0), 1, 8) := by kernel_rfl
theorem NS.push {w : World} {gw r : Nat} {cells : Array Value} {key : Nat → Int × Int} {k : Nat} {sl v1 : Value} {w2 w1 : World} {x : Int} (hbl : Below w.heap.size w w2) (hbox : w2.heap[gw]? = some (.cells cells 28 (0, 0))) (hnb : w.heap.size ≤ gw) (hnm : w.heap.size ≤ r) {mp : List ((Int × Int) × Int)} (hmap : IsM pairV (Value.int .i64) w2 r mp) {xs : List Int} (hown : Kd.R (Kd.int .i64) 3 w2 w.heap.size (fun _ => True) sl xs)
    (hnum : numTo key (k + 1) = (mp, xs ++ [x])) (hv : Kd.R (Kd.int .i64) 3 w1 w.heap.size (fun _ => True) v1 (xs ++ [x])) (hb : Below w.heap.size w w1) (hg : w2.grownBy w1 sl.ownBlock) : NS w gw r cells key (k + 1) v1 w1 := by
  refine ⟨hb, blk_grown hbox hg (Kd.R_ne hown hbox (by decide)), hnb, ?_, hnm, ?_⟩
  · rw [hnum]
    refine hmap.of_heap (hg.block r hmap.lt ?_)
    intro e
    obtain ⟨es, clock, hblk, _⟩ := hmap
    have h2 := R_notmap hown hblk
    exact (h2.1 r e.symm).2 rfl
  · rw [hnum]
    exact hv
theorem map_len_event {P : Program} {ops : Array Oper} {rest : List Oper} {o : Oper} {a : Act} {Q : Exit → Act → World → Prop} {W : World} {α β : Type} [DecidableEq α] {enc : α → Value} {encv : β → Value} (hgd : o.guard = none) (m : Operand) (t : TypeId) (ho : o.op = Op.call { callee := Callee.builtin Builtin.len, args := #[m], argTypes := #[t] }) {K E : TypeId} (hu : P.underlying t = some (.map K E)) {r : Nat} {l : List (α × β)}
    (hm : a.eval m = .map (some r)) (hM : IsM enc encv W r l)
    (h : wpList P ops Q rest (a.put o.dst (.int .i64 (l.length : Int))) W) : wpList P ops Q (o :: rest) a W := by
  obtain ⟨es, clock, hb, hl⟩ := hM
  have hlen : es.size = l.length := by
    have := congrArg List.length hl
    simpa using this
  refine Kd.event_run hgd ?_ h
  have h1 : (Builtin.len_ #[t] o.type #[.map (some r)]).run P W = .ok (.int .i64 (l.length : Int)) W := by
    simp [Builtin.len_, run_underlying hu, MapKept.run_getObj_map hb, goInt, Result.andThen, hlen]
  simp [execOp, ho, resolve, invoke, builtin, hm, h1, Result.andThen]
structure NP (w : World) (gw r : Nat) (cells : Array Value) (mp : List ((Int × Int) × Int)) (xs : List Int) (sl : Value) (wr : World) : Prop where
 below : Below w.heap.size w wr
 box : wr.heap[gw]? = some (.cells cells 28 (0, 0))
 newb : w.heap.size ≤ gw
 map : IsM pairV (Value.int .i64) wr r mp
 newm : w.heap.size ≤ r
 own : Kd.R (Kd.int .i64) 3 wr w.heap.size (fun _ => True) sl xs
theorem NS.put {w : World} {gw r : Nat} {cells : Array Value} {key : Nat → Int × Int} {k : Nat} {sl : Value} {wr w1 : World} (h : NS w gw r cells key k sl wr) {mp : List ((Int × Int) × Int)} (hm : IsM pairV (Value.int .i64) w1 r mp) (hk : KeepBut wr w1 r none) (hb : ∀ B u, Below B u wr → B ≤ r → Below B u w1) : NP w gw r cells mp (numTo key k).2 sl w1 := by
 have hne : gw ≠ r := by
  obtain ⟨es, clock, hblk, _⟩ := h.map
  intro e
  have := h.box
  rw [e, hblk] at this
  cases this
 refine ⟨hb _ _ h.below h.newm, hk.blk h.box hne (by simp), h.newb, hm, h.newm, ?_⟩
 obtain ⟨es, clock, hblk, _⟩ := h.map
 exact Kd.R_mono (Kd.R_keep (R_notmap h.own hblk) hk (fun _ hk => hk.2)) (fun _ hk => hk.1)
set_option maxRecDepth 100000 in
set_option maxHeartbeats 2000000 in
theorem numbered_calls (g : Nat) (lb : Array Value) (eg : ∀ args w, (callFunc g args).run Try.prog w = .ok (.enter g args) w) (key : Nat → Int × Int) (A0 : Option Addr) (n c0 : Nat) (A1 : Option Addr) (m c1 : Nat) (w : World) (hn : n ≤ 1000) (hp : KeyFn w g lb n key) :
    Calls Try.prog 81 #[.agg #[.slice A0 n c0, .slice A1 m c1], .func (.func g) #[] lb] w fun e w' => ∃ v, e = .returned v ∧ Kd.R (Kd.int .i64) 3 w' w.heap.size (fun _ => True) v (numTo key n).2 ∧ Below w.heap.size w w' := by
  have hu := Try.underlying28
  have hz0 : ∀ w, (zeroValue 3).run Try.prog w = .ok (.int .i64 0) w := fun _ => by kernel_rfl
  have HZ := Lib.hid hz0
  have HP := Lib.hid hp
  clear hz0 hp
  go_enter Try.func81, Try.ntmps81
  go_wp2_with (first | ((with_reducible refine gate_dst (N := 2) rfl ?_); refine box_event ?hg (N := 2) ?hd (cs := #[.slice A0 n c0, .slice A1 m c1]) (t := 28) ?hr ?_; (case hd => rfl); (case hg => rfl); (case hr => first | (go_simp; done) | (go_simp; rfl)); intro gw hgw wb hbw hbb; have HBX := Lib.hid hbw; have HGW := Lib.hid (Nat.le_of_eq hgw.symm); have HB0 := Lib.hid (bst (Below.refl w.heap.size w) hbb); have hw0 : wb.cell? ⟨gw, 0, none⟩ = some (.slice A0 n c0) := (blk_cell hbw 0).trans rfl; clear hgw hbw hbb) | ((with_reducible refine gate_op (op := .makeMap 108 none) rfl ?_); refine map_make_event rfl 108 rfl ?_; intro r wm hr hm hb; have HNS := Lib.hid (show NS w gw r #[.slice A0 n c0, .slice A1 m c1] key 0 (.slice none 0 0) wm from ⟨HB0.out.trans (hb.mono HB0.out.size), (hb.block gw (Array.getElem?_eq_some_iff.1 HBX.out).1).trans HBX.out, HGW.out, IsM.mk' (enc := pairV) (encv := Value.int .i64) (l := []) hm rfl, by rw [hr]; exact HB0.out.size, Kd.R_nil _ _ _ _ _⟩); have j0_ := pwc hb hw0; clear hw0 hm hb hr; have hw0 := j0_; clear j0_) | fail)
  clear HBX HB0 HGW
  go_wp2_with fail
  go_loopw [6, 14] (fun v i wr => ∃ (k : Nat) (sl : Value), k ≤ n ∧ i = .int .i64 k ∧ v = sl ∧ Hid (NS w gw r #[.slice A0 n c0, .slice A1 m c1] key k sl wr)) (fun _ i _ => n - (intOf i).toNat)
  case atStart => exact ⟨0, _, by omega, rfl, rfl, HNS⟩
  case round =>
    clear HNS
    obtain ⟨k, sl, hk, rfl, rfl, HNS⟩ := hrel
    by_cases hlt : k < n
    · have hcall := HP.out wr k hlt HNS.out.below
      have HC := Lib.hid hcall
      clear hcall
      cases hf : findL (numTo key k).1 (key k) with
      | some x =>
        have HF := Lib.hid hf
        have HN := Lib.hid (show numTo key (k + 1) = ((numTo key k).1, (numTo key k).2 ++ [x]) by rw [numTo, hf])
        clear hf
        go_wp2_with fail
        refine HC.out.mono ?_
        rintro e w2 ⟨rfl, hb⟩
        have HNS2 := Lib.hid (HNS.out.step hb)
        have hxs : ((numTo key k).2.length + 1) * 8 ≤ 140737488355328 := by rw [numTo_len]; omega
        have HXS := Lib.hid hxs
        clear hb hxs HNS HC
        obtain ⟨A, cp, rfl⟩ := Kd.R_slice HNS2.out.own
        go_wp2_with (first | ((with_reducible refine gate_dst (N := 22) rfl ?_); refine map_get_event rfl 108 (.tmp 18) (.tmp 21) true rfl Try.underlying108 (enc := pairV) (encv := Value.int .i64) HZ.out keyOk_pair (key k) rfl rfl HNS2.out.map ?_; rw [HF.out]; simp only [if_true, Option.getD_some, Option.isSome_some]) | (at_builtin; refine Kd.R_append (Kd.int .i64) (w0 := w) w.heap.size rfl (.tmp 34) (.tmp 36) 22 3 (.int .i64 0) 8 rfl Try.underlying22 info3' rfl (by decide) (by decide) (.slice A (numTo key k).2.length cp) (numTo key k).2 x [.int .i64 x] (fun _ => True) (fun _ => False) rfl rfl rfl (fun _ h => h.elim) (fun _ _ => trivial) HNS2.out.own HNS2.out.below HNS2.out.below.size HXS.out ?_; intro v1 w1 hv hb hg hat; have HNS3 := Lib.hid (NS.push HNS2.out.below HNS2.out.box HNS2.out.newb HNS2.out.newm HNS2.out.map HNS2.out.own HN.out hv hb hg); clear hv hb hg hat) | fail)
        go_roundw
        case rel => exact ⟨k + 1, _, by omega, by go_num, rfl, HNS3⟩
        case measure => simp [intOf]; omega
      | none =>
        have HF := Lib.hid hf
        have HN := Lib.hid (show numTo key (k + 1) = (putL (numTo key k).1 (key k) ((numTo key k).1.length : Int), (numTo key k).2 ++ [((numTo key k).1.length : Int)]) by rw [numTo, hf])
        clear hf
        go_wp2_with fail
        refine HC.out.mono ?_
        rintro e w2 ⟨rfl, hb⟩
        have HNS2 := Lib.hid (HNS.out.step hb)
        have hxs : ((numTo key k).2.length + 1) * 8 ≤ 140737488355328 := by rw [numTo_len]; omega
        have HXS := Lib.hid hxs
        clear hb hxs HNS HC
        obtain ⟨A, cp, rfl⟩ := Kd.R_slice HNS2.out.own
        have hcall2 := HP.out w2 k hlt HNS2.out.below
        have HC2 := Lib.hid hcall2
        clear hcall2
        go_wp2_with (first | ((with_reducible refine gate_dst (N := 22) rfl ?_); refine map_get_event rfl 108 (.tmp 18) (.tmp 21) true rfl Try.underlying108 (enc := pairV) (encv := Value.int .i64) HZ.out keyOk_pair (key k) rfl rfl HNS2.out.map ?_; rw [HF.out]; simp only [if_true, Option.getD_none, Option.isSome_none]) | ((with_reducible refine gate_dst (N := 28) rfl ?_); refine map_len_event rfl (.tmp 27) 108 rfl Try.underlying108 (enc := pairV) (encv := Value.int .i64) rfl HNS2.out.map ?_) | fail)
        refine HC2.out.mono ?_
        rintro e w3 ⟨rfl, hb3⟩
        have HNS3 := Lib.hid (HNS2.out.step hb3)
        clear hb3 HNS2 HC2
        go_wp2_with (first | ((with_reducible refine gate_op (op := .mapUpdate 108 (.tmp 29) (.tmp 32) (.tmp 33)) rfl ?_); refine map_put_event rfl 108 (.tmp 29) (.tmp 32) (.tmp 33) (Or.inr rfl) Try.underlying108 keyOk_pair (enc := pairV) (encv := Value.int .i64) (key k) ((numTo key k).1.length : Int) rfl rfl rfl HNS3.out.map ?_; intro wn hmm hkm hlm; have HNP := Lib.hid (NS.put HNS3.out hmm hkm hlm); clear hmm hkm hlm HNS3) | (at_builtin; refine Kd.R_append (Kd.int .i64) (w0 := w) w.heap.size rfl (.tmp 34) (.tmp 36) 22 3 (.int .i64 0) 8 rfl Try.underlying22 info3' rfl (by decide) (by decide) (.slice A (numTo key k).2.length cp) (numTo key k).2 ((numTo key k).1.length : Int) [.int .i64 ((numTo key k).1.length : Int)] (fun _ => True) (fun _ => False) rfl rfl rfl (fun _ h => h.elim) (fun _ _ => trivial) HNP.out.own HNP.out.below HNP.out.below.size HXS.out ?_; intro v1 w1 hv hb hg hat; have HNS4 := Lib.hid (NS.push HNP.out.below HNP.out.box HNP.out.newb HNP.out.newm HNP.out.map HNP.out.own HN.out hv hb hg); clear hv hb hg hat) | fail)
        go_roundw
        case rel => exact ⟨k + 1, _, by omega, by go_num, rfl, HNS4⟩
        case measure => simp [intOf]; omega
    · obtain rfl : k = n := by omega
      go_wp2
      go_ret
      exact ⟨_, rfl, HNS.out.own, HNS.out.below⟩
end Go.Proofs.Ytjffhhalmicodaa.X
end

section
set_option linter.unusedVariables false
set_option linter.unusedSimpArgs false
namespace Go.Proofs.Ytjffhhalmicodaa.X
open Go.RowKit Go.Proofs.G.PrintWords Go.Proofs.G.PrintLast Go.Proofs.G.PrintMore
theorem setCells_blk {g : Nat} {e : TypeId} : ∀ (vs : List Value) (o : Nat) (w : World) (cur : Array Value), w.heap[g]? = some (.cells cur e (0, 0)) → o + vs.length ≤ cur.size →
    ∃ cur', (w.setCells g o vs).heap[g]? = some (.cells cur' e (0, 0)) ∧ cur'.toList = cur.toList.take o ++ vs ++ cur.toList.drop (o + vs.length)
  | [], o, w, cur, h, _ => ⟨cur, h, by simp⟩
  | v :: vs, o, w, cur, h, hl => by
    obtain ⟨cur', h1, h2⟩ := setCells_blk vs (o + 1) (w.setCell ⟨g, o, none⟩ v) (cur.setIfInBounds o v) (blk_set h o v) (by simp at hl ⊢; omega)
    refine ⟨cur', h1, ?_⟩
    have hlt : o < cur.toList.length := by simp at hl ⊢; omega
    rw [h2, Array.toList_setIfInBounds, List.length_cons]
    have e1 : (cur.toList.set o v).take (o + 1) = cur.toList.take o ++ [v] := by
      rw [List.take_succ_eq_append_getElem (by simpa using hlt), List.take_set_of_le (Nat.le_refl _)]
      simp
    have e2 : (cur.toList.set o v).drop (o + 1 + vs.length) = cur.toList.drop (o + (vs.length + 1)) := by
      rw [List.drop_set_of_lt (by omega)]
      congr 1
      omega
    rw [e1, e2]
    simp
theorem setCells_other {g : Nat} : ∀ (vs : List Value) (o : Nat) (w : World), (w.setCells g o vs).os = w.os ∧ (w.setCells g o vs).tape = w.tape ∧ (w.setCells g o vs).output = w.output ∧ (w.setCells g o vs).heap.size = w.heap.size ∧ ∀ k, k ≠ g → (w.setCells g o vs).heap[k]? = w.heap[k]?
  | [], o, w => ⟨rfl, rfl, rfl, rfl, fun _ _ => rfl⟩
  | v :: vs, o, w => by
    obtain ⟨h1, h2, h3, h4, h5⟩ := setCells_other (g := g) vs (o + 1) (w.setCell ⟨g, o, none⟩ v)
    refine ⟨h1.trans rfl, h2.trans rfl, h3.trans rfl, h4.trans (by simp [World.setCell]), fun k hk => (h5 k hk).trans (Below.heap_setCell w ⟨g, o, none⟩ v k hk)⟩
section
variable {P : Program} {ops : Array Oper} {rest : List Oper} {o : Oper} {a : Act} {Q : Exit → Act → World → Prop} {W : World}
theorem whole_store_event (hN : o.dst = none) (hgd : o.guard = none) (t : TypeId) (p x : Operand) (ho : o.op = .store t p x) {g : Nat} {e : TypeId} {cur : Array Value} (u : Value) (seg : List Value) (haddr : a.eval p = .pointer (some ⟨g, 0, none⟩)) (hx : a.eval x = u) (hu : u.cells.toList = seg) (ht : (P.info? t).map (·.size) = some seg.length) (hsz : cur.size = seg.length) (h1 : ∀ q ∈ seg, q.oneCell' = true) (hh : W.heap[g]? = some (.cells cur e (0, 0)))
    (h : ∀ w1, w1.heap[g]? = some (.cells seg.toArray e (0, 0)) → KeepBut W w1 g none → (∀ B u, Below B u W → B ≤ g → Below B u w1) → wpList P ops Q rest a w1) : wpList P ops Q (o :: rest) a W := by
  obtain ⟨i, hi, hs⟩ := Option.map_eq_some_iff.1 ht
  have hc : u.cells.size = i.size := by rw [hs, ← hu, Array.length_toList]
  have hst := run_storeCells_cells (P := P) g 0 seg 0 W (fun j hj => by rw [cell_of_row W g _ cur e (0, 0) hh]; simp; omega) (fun j _ => blk_frozen hh _) h1
  simp only [Nat.add_zero] at hst
  obtain ⟨cur', k1, k2⟩ := setCells_blk seg 0 W cur hh (by omega)
  obtain ⟨s1, s2, s3, s4, s5⟩ := setCells_other (g := g) seg 0 W
  have hcur : cur' = seg.toArray := by
    apply Array.toList_inj.1
    rw [k2]
    simp [hsz]
  subst hcur
  refine wpList_plain hgd fun K hK => ?_
  have hrun : (execOp a.eval o).run P W = .ok .skip (W.setCells g 0 seg) := by
    unfold execOp
    simp [ho, haddr, hx, Instr.storeAt, Instr.sureAddr, storeVar, sizeOf, typeInfo, hi, hc, hu, hst, Result.andThen]
  unfold Oper.wp
  rw [hrun]
  show K (a.put o.dst undef) (W.setCells g 0 seg)
  rw [hN]
  exact hK _ _ (h _ k1 ⟨by rw [s4]; exact Nat.le_refl _, fun i _ hne _ => s5 i hne⟩ (fun B u hb hB => hb.trans ⟨s1, s2, s3, by rw [s4]; exact Nat.le_refl _, fun k hk => s5 k (by omega)⟩))
end
end Go.Proofs.Ytjffhhalmicodaa.X
end

section
set_option linter.unusedVariables false
set_option linter.unusedSimpArgs false
namespace Go.Proofs.Ytjffhhalmicodaa.X
open Go.RowKit Go.Proofs.G.PrintWords Go.Proofs.G.PrintLast Go.Proofs.G.PrintMore
theorem info99 : (Try.prog.info? 99).map (·.size) = some 2 := by kernel_rfl
theorem pair_cells (a b : Int) : (pairV (a, b)).cells.toList = [.int .i64 a, .int .i64 b] := rfl
theorem pair_one (a b : Int) : ∀ q ∈ [Value.int .i64 a, .int .i64 b], q.oneCell' = true := by simp [Value.oneCell']
set_option maxRecDepth 100000 in
set_option maxHeartbeats 1000000 in
theorem mark_calls (bw b off m c1 s : Nat) (x : Int) (W : World) (hw : W.cell? ⟨bw, 1, none⟩ = some (.slice (some ⟨b, off, none⟩) m c1))
    (hsn : s < m) (_hn : m ≤ 9223372036854775807) (hx : W.cell? ⟨b, off + s, none⟩ = some (.int .i64 x)) :
    Calls Try.prog 82 #[.int .i64 s, .pointer (some ⟨bw, 0, none⟩)] W fun e w' => e = .returned (pairV (x, 0)) ∧ Below W.heap.size W w' := by
  have hu := Try.underlying28
  have h1 : (s : Int) < (m : Int) := by omega
  have hz : ∀ w, (zeroValue 99).run Try.prog w = .ok (.agg #[.int .i64 0, .int .i64 0]) w := fun _ => by kernel_rfl
  go_enter Try.func82, Try.ntmps82
  go_wp2_with (first | ((with_reducible refine gate_dst (N := 3) rfl ?_); refine box_event ?hg (N := 3) ?hd (cs := #[.int .i64 0, .int .i64 0]) (t := 99) ?hr ?_; (case hd => rfl); (case hg => rfl); (case hr => kernel_rfl); intro gw hgw wb hbw hbb; have k0_ := pwc hbb hw; have k1_ := pwc hbb hx; clear hw hx; have hw := k0_; have hx := k1_; clear k0_ k1_; have HGW := Lib.hid (Nat.le_of_eq hgw.symm); have HB := Lib.hid hbb; have HBW := Lib.hid hbw; clear hbb hbw hgw) | ((with_reducible refine gate_op (op := .store 99 (.tmp 3) (.tmp 9)) rfl ?_); refine whole_store_event rfl rfl 99 (.tmp 3) (.tmp 9) rfl (g := gw) (cur := #[.int .i64 0, .int .i64 0]) (pairV (x, 0)) [.int .i64 x, .int .i64 0] rfl rfl (pair_cells x 0) info99 rfl (pair_one x 0) HBW.out ?_; intro w1 hw1 hk1 hb1; have HB1 := Lib.hid (hb1 _ _ HB.out HGW.out); have g0 : w1.cell? ⟨gw, 0, none⟩ = some (.int .i64 x) := (blk_cell hw1 0).trans rfl; have g1 : w1.cell? ⟨gw, 1, none⟩ = some (.int .i64 0) := (blk_cell hw1 1).trans rfl; clear hw1 hk1 hb1 HB HBW) | fail)
  exact bodyPost_ret (v := pairV (x, 0)) (by simp [results, Try.results82, go_sem, pairV, g0, g1, Result.andThen]) rfl ⟨rfl, HB1.out⟩
theorem shr_at (x : Int) {t : Nat} (h : t ≤ 64) : shr .i64 x (t : Int) = x / 2 ^ t := by
  unfold shr
  rw [Int.toNat_natCast, show min t IntKind.i64.bits = t from Nat.min_eq_left h]
theorem shl_at {y : Int} (h0 : 0 ≤ y) (h : y ≤ 64) : shl .i64 1 y = wrap64 (2 ^ y.toNat) := by
  unfold shl
  rw [show min y.toNat IntKind.i64.bits = y.toNat from Nat.min_eq_left (show y.toNat ≤ 64 by omega), Int.one_mul, IntKind.wrap_i64]
  unfold wrap64
  omega
set_option maxRecDepth 100000 in
set_option maxHeartbeats 2000000 in
theorem next_calls (bw b off n c0 s bl b2 off2 c2 : Nat) (nx last : List Int) (hl : last.length = nx.length) (hn : n = nx.length) (W : World) (hw : W.cell? ⟨bw, 0, none⟩ = some (.slice (some ⟨b, off, none⟩) n c0)) (hlc : W.cell? ⟨bl, 0, none⟩ = some (.slice (some ⟨b2, off2, none⟩) n c2))
    (hsn : s < n) (_hn : n ≤ 61) (hx : W.cell? ⟨b, off + s, none⟩ = some (.int .i64 (rd nx s))) (hy : ∀ i : Nat, i < n → W.cell? ⟨b2, off2 + i, none⟩ = some (.int .i64 (rd last i))) (hr : ∀ i : Nat, i < n → 0 ≤ rd last i ∧ rd last i < n) :
    Calls Try.prog 83 #[.int .i64 s, .pointer (some ⟨bl, 0, none⟩), .pointer (some ⟨bw, 0, none⟩)] W fun e w' => e = .returned (pairV (setKey nx last s)) ∧ Below W.heap.size W w' := by
  have hu := Try.underlying28
  have h1 : (s : Int) < (n : Int) := by omega
  have HY := Lib.hid hy
  have HR := Lib.hid hr
  have HN := Lib.hid hn
  have HL := Lib.hid hl
  have hys := hy s hsn
  clear hy hr hn hl
  go_enter Try.func83, Try.ntmps83
  go_wp2_with (first | ((with_reducible refine gate_dst (N := 4) rfl ?_); refine box_event ?hg (N := 4) ?hd (cs := #[.int .i64 0, .int .i64 0]) (t := 99) ?hr ?_; (case hd => rfl); (case hg => rfl); (case hr => kernel_rfl); intro gw hgw wb hbw hbb; have k0_ := pwc hbb hw; have k1_ := pwc hbb hx; have k2_ := pwc hbb hlc; have k3_ := pwc hbb hys; have HY2 := Lib.hid (show ∀ i : Nat, i < n → wb.cell? ⟨b2, off2 + i, none⟩ = some (.int .i64 (rd last i)) from fun i hi => pwc hbb (HY.out i hi)); clear hw hx hlc hys; have hw := k0_; have hx := k1_; have hlc := k2_; have hys := k3_; clear k0_ k1_ k2_ k3_; have HGW := Lib.hid (Nat.le_of_eq hgw.symm); have HB := Lib.hid hbb; have HBW := Lib.hid hbw; clear hbb hbw hgw HY) | fail)
  go_loop [5, 10] (fun v i => ∃ t : Nat, t ≤ n ∧ i = .int .i64 t ∧ v = .int .i64 (setTo nx last s t)) (fun _ i => n - (intOf i).toNat)
  case atStart => exact ⟨0, by omega, rfl, rfl⟩
  case round =>
    obtain ⟨t, ht, rfl, rfl⟩ := hrel
    by_cases hlt : t < n
    · have hy := HY2.out t hlt
      have hr := HR.out t hlt
      have hsh : ((t : Int)) < 64 := by omega
      by_cases hb : bits .and .i64 (shr .i64 (rd nx s) (t : Int)) 1 = 1
      · have HB3 := Lib.hid (show bits .or .i64 (setTo nx last s t) (wrap64 (2 ^ (rd last (t : Int)).toNat)) = setTo nx last s (t + 1) by rw [setTo, if_pos hb, shl_at hr.1 (by omega)])
        have hbb : (bits .and .i64 (rd nx s / 2 ^ t) 1 == 1) = true := by rw [← shr_at _ (show t ≤ 64 by omega)]; exact beq_iff_eq.2 hb
        clear hb
        go_wp2
        go_round
        case rel => exact ⟨t + 1, by omega, by go_num, by rw [← HB3.out]⟩
        case measure => simp [intOf]; omega
      · have HB3 := Lib.hid (show setTo nx last s t = setTo nx last s (t + 1) by rw [setTo, if_neg hb])
        have hbb : (bits .and .i64 (rd nx s / 2 ^ t) 1 == 1) = false := by rw [← shr_at _ (show t ≤ 64 by omega)]; exact beq_eq_false_iff_ne.2 hb
        clear hb
        go_wp2
        go_round
        case rel => exact ⟨t + 1, by omega, by go_num, by rw [← HB3.out]⟩
        case measure => simp [intOf]; omega
    · obtain rfl : t = n := by omega
      go_wp2_with (first | ((with_reducible refine gate_op (op := .store 99 (.tmp 4) (.tmp 34)) rfl ?_); refine whole_store_event rfl rfl 99 (.tmp 4) (.tmp 34) rfl (g := gw) (cur := #[.int .i64 0, .int .i64 0]) (pairV (rd last s, setTo nx last s t)) [.int .i64 (rd last s), .int .i64 (setTo nx last s t)] rfl rfl (pair_cells _ _) info99 rfl (pair_one _ _) HBW.out ?_; intro w1 hw1 hk1 hb1; have HB1 := Lib.hid (hb1 _ _ HB.out HGW.out); have g0 : w1.cell? ⟨gw, 0, none⟩ = some (.int .i64 (rd last s)) := (blk_cell hw1 0).trans rfl; have g1 : w1.cell? ⟨gw, 1, none⟩ = some (.int .i64 (setTo nx last s t)) := (blk_cell hw1 1).trans rfl; clear hw1 hk1 hb1 HB HBW) | fail)
      exact bodyPost_ret (v := pairV (rd last s, setTo nx last s t)) (by simp [results, Try.results83, go_sem, pairV, g0, g1, Result.andThen]) rfl ⟨by unfold setKey; rw [HL.out, ← HN.out], HB1.out⟩
end Go.Proofs.Ytjffhhalmicodaa.X
end

section
namespace Go.Proofs.Ytjffhhalmicodaa.PB
open Go.RowKit Go.Proofs.G.PrintWords Go.Proofs.G.PrintLast Go.Proofs.G.PrintMore
attribute [local go_sem] max2_int min2_int max_two min_two max_three min_three max_four min_four
set_option linter.unusedVariables false
set_option linter.unusedSimpArgs false
def errW : Option Int → Value
  | none => .nilIface
  | some c => .iface 0 (.int .i64 c)
theorem errW_none : errW none = .nilIface := rfl
theorem errW_some (c : Int) : errW (some c) = .iface 0 (.int .i64 c) := rfl
theorem info3 : (Try.prog.info? 3).map (fun i => (i.zero, i.size, i.bytes)) = some (some (.int .i64 0), 1, 8) := by kernel_rfl
end Go.Proofs.Ytjffhhalmicodaa.PB
end
