import Derived.Test.YtjffhhalmicodaaXs
set_option linter.unusedVariables false
set_option linter.unusedSimpArgs false
namespace Go.Proofs.Ytjffhhalmicodaa.X
open Go.RowKit Go.Proofs.YtjffhhalmicodaaW.PrintWords Go.Proofs.YtjffhhalmicodaaW.PrintLast Go.Proofs.YtjffhhalmicodaaW.PrintMore

theorem allOf_eq (nx : List Int) : allOf nx = wrap64 (wrap64 (2 ^ min nx.length 64) - 1) := by
  unfold allOf shl
  rw [i64_w, Int.one_mul]
  rfl

theorem cell_drawn {w w' : World} (h : Drawn0 w w') {a : Addr} {v : Value} (hc : w.cell? a = some v) : w'.cell? a = some v := by
  obtain ⟨⟨q, rfl⟩⟩ := h
  exact hc
theorem below_drawn {B : Nat} {w W W' : World} (h : Below B w W) (hd : Drawn0 W W') : Below B w W' := by
  obtain ⟨⟨q, rfl⟩⟩ := hd
  exact ⟨h.os, h.tape, h.output, h.size, h.block⟩

theorem drop_at {s : ByteArray} {i c : Nat} {l : List Nat} (h : (cs s).drop i = c :: l) : i < s.size ∧ (∀ hh : i < s.size, ((s[i]'hh).toNat : Int) = (c : Int)) ∧ (cs s).drop (i + 1) = l := by
  have hlt : i < s.size := by
    rcases Nat.lt_or_ge i s.size with h1 | h1
    · exact h1
    · rw [List.drop_eq_nil_of_le (by rw [cs_length]; exact h1)] at h
      cases h
  refine ⟨hlt, fun hh => ?_, ?_⟩
  · have h1 : (cs s)[i]? = some c := by
      have := congrArg (fun l => l[0]?) h
      simpa using this
    unfold cs at h1
    rw [List.getElem?_map] at h1
    have h2 : s.data.toList[i]? = some (s[i]'hh) := by
      rw [Array.getElem?_toList]
      exact Array.getElem?_eq_getElem (xs := s.data) hh
    rw [h2] at h1
    simp only [Option.map_some, Option.some.injEq] at h1
    omega
  · have := congrArg List.tail h
    simpa using this

set_option maxRecDepth 100000 in
set_option maxHeartbeats 4000000 in
theorem rh_t (A0 : Option Addr) (c0 : Nat) (nx : List Int) (A1 : Option Addr) (c1 : Nat) (mk : List Int) (s : ByteArray) (i : Nat) (x y z : Int) (w : World) (hr0 : Kd.C (Kd.int .i64) w A0 nx.length nx) (hc0 : nx.length ≤ c0) (hr1 : Kd.C (Kd.int .i64) w A1 mk.length mk) (hc1 : mk.length ≤ c1) (hsz : s.size ≤ 1000000000) (l : List Nat) (hd : (cs s).drop i = 116 :: l) :
    Calls Try.prog 51 #[.agg #[.slice A0 nx.length c0, .slice A1 mk.length c1], .string s, .int .i64 i, .agg #[.int .i64 x, .int .i64 y, .int .i64 z]] w fun e w' => e = .returned (.tuple #[.int .i64 (allOf nx), .int .i64 ((i : Int) + 1)]) ∧ Below w.heap.size w w' := by
  obtain ⟨hi, hch, hrest⟩ := drop_at hd
  have hi2 : (i : Int) < (s.size : Int) := by omega
  have HD := Lib.hid hrest
  clear hrest hd
  have hu := Try.underlying24
  have hu2 := Try.underlying71
  have HR0 := Lib.hid hr0
  have HR1 := Lib.hid hr1
  have hle := hr0.2.1
  have hle1 := hr1.2.1
  clear hr0 hr1
  go_enter Try.func51, Try.ntmps51
  go_wp2_with (first | ((with_reducible refine gate_dst (N := 4) rfl ?_); refine box_event ?hg (N := 4) ?hd (cs := #[.slice A0 nx.length c0, .slice A1 mk.length c1]) (t := 24) ?hr ?_; (case hd => rfl); (case hg => rfl); (case hr => first | (go_simp; done) | (go_simp; rfl)); intro gw hgw wb hbw hbb; have HGW := Lib.hid hbw; have HBW := Lib.hid (below_step (Below.refl w.heap.size w) hbb); have HGE := Lib.hid (Nat.le_of_eq hgw.symm); clear hgw hbw hbb) | ((with_reducible refine gate_dst (N := 7) rfl ?_); refine box_event ?hg (N := 7) ?hd (cs := #[.int .i64 x, .int .i64 y, .int .i64 z]) (t := 71) ?hr ?_; (case hd => rfl); (case hg => rfl); (case hr => first | (go_simp; done) | (go_simp; rfl)); intro gs hgs wc hbs hbb; have k0_ := Lib.hid (blk_below HGW.out hbb); have k1_ := Lib.hid (below_step HBW.out hbb); have HSE := Lib.hid (And.intro (Nat.le_trans HBW.out.size (Nat.le_of_eq hgs.symm)) (show gw ≠ gs from fun e => by have h1 := blk_lt HGW.out; omega)); clear HGW HBW; have HGW := k0_; have HBW := k1_; clear k0_ k1_; have HGS := Lib.hid hbs; have hw0 : wc.cell? ⟨gw, 0, none⟩ = some (.slice A0 nx.length c0) := (blk_cell HGW.out 0).trans rfl; have hw1 : wc.cell? ⟨gw, 1, none⟩ = some (.slice A1 mk.length c1) := (blk_cell HGW.out 1).trans rfl; have hs0 : wc.cell? ⟨gs, 0, none⟩ = some (.int .i64 x) := (blk_cell HGS.out 0).trans rfl; have hs1 : wc.cell? ⟨gs, 1, none⟩ = some (.int .i64 y) := (blk_cell HGS.out 1).trans rfl; have hs2 : wc.cell? ⟨gs, 2, none⟩ = some (.int .i64 z) := (blk_cell HGS.out 2).trans rfl; clear hgs hbs hbb) | fail)
  go_ret2
  exact ⟨by first | rfl | (rw [allOf_eq]; rfl), HBW.out⟩

set_option maxRecDepth 100000 in
set_option maxHeartbeats 4000000 in
theorem rh_f (A0 : Option Addr) (c0 : Nat) (nx : List Int) (A1 : Option Addr) (c1 : Nat) (mk : List Int) (s : ByteArray) (i : Nat) (x y z : Int) (w : World) (hr0 : Kd.C (Kd.int .i64) w A0 nx.length nx) (hc0 : nx.length ≤ c0) (hr1 : Kd.C (Kd.int .i64) w A1 mk.length mk) (hc1 : mk.length ≤ c1) (hsz : s.size ≤ 1000000000) (l : List Nat) (hd : (cs s).drop i = 102 :: l) :
    Calls Try.prog 51 #[.agg #[.slice A0 nx.length c0, .slice A1 mk.length c1], .string s, .int .i64 i, .agg #[.int .i64 x, .int .i64 y, .int .i64 z]] w fun e w' => e = .returned (.tuple #[.int .i64 (0), .int .i64 ((i : Int) + 1)]) ∧ Below w.heap.size w w' := by
  obtain ⟨hi, hch, hrest⟩ := drop_at hd
  have hi2 : (i : Int) < (s.size : Int) := by omega
  have HD := Lib.hid hrest
  clear hrest hd
  have hu := Try.underlying24
  have hu2 := Try.underlying71
  have HR0 := Lib.hid hr0
  have HR1 := Lib.hid hr1
  have hle := hr0.2.1
  have hle1 := hr1.2.1
  clear hr0 hr1
  go_enter Try.func51, Try.ntmps51
  go_wp2_with (first | ((with_reducible refine gate_dst (N := 4) rfl ?_); refine box_event ?hg (N := 4) ?hd (cs := #[.slice A0 nx.length c0, .slice A1 mk.length c1]) (t := 24) ?hr ?_; (case hd => rfl); (case hg => rfl); (case hr => first | (go_simp; done) | (go_simp; rfl)); intro gw hgw wb hbw hbb; have HGW := Lib.hid hbw; have HBW := Lib.hid (below_step (Below.refl w.heap.size w) hbb); have HGE := Lib.hid (Nat.le_of_eq hgw.symm); clear hgw hbw hbb) | ((with_reducible refine gate_dst (N := 7) rfl ?_); refine box_event ?hg (N := 7) ?hd (cs := #[.int .i64 x, .int .i64 y, .int .i64 z]) (t := 71) ?hr ?_; (case hd => rfl); (case hg => rfl); (case hr => first | (go_simp; done) | (go_simp; rfl)); intro gs hgs wc hbs hbb; have k0_ := Lib.hid (blk_below HGW.out hbb); have k1_ := Lib.hid (below_step HBW.out hbb); have HSE := Lib.hid (And.intro (Nat.le_trans HBW.out.size (Nat.le_of_eq hgs.symm)) (show gw ≠ gs from fun e => by have h1 := blk_lt HGW.out; omega)); clear HGW HBW; have HGW := k0_; have HBW := k1_; clear k0_ k1_; have HGS := Lib.hid hbs; have hw0 : wc.cell? ⟨gw, 0, none⟩ = some (.slice A0 nx.length c0) := (blk_cell HGW.out 0).trans rfl; have hw1 : wc.cell? ⟨gw, 1, none⟩ = some (.slice A1 mk.length c1) := (blk_cell HGW.out 1).trans rfl; have hs0 : wc.cell? ⟨gs, 0, none⟩ = some (.int .i64 x) := (blk_cell HGS.out 0).trans rfl; have hs1 : wc.cell? ⟨gs, 1, none⟩ = some (.int .i64 y) := (blk_cell HGS.out 1).trans rfl; have hs2 : wc.cell? ⟨gs, 2, none⟩ = some (.int .i64 z) := (blk_cell HGS.out 2).trans rfl; clear hgs hbs hbb) | fail)
  go_ret2
  exact ⟨by first | rfl | (rw [allOf_eq]; rfl), HBW.out⟩

/-- the states with a mark -/
def rmarkTo (mk : List Int) (j : Nat) : Nat → Int
  | 0 => 0
  | n + 1 => bits .or .i64 (rmarkTo mk j n) (wrap64 (bits .and .i64 (rd mk n / 2 ^ j) 1 * 2 ^ min n 64))

set_option maxRecDepth 100000 in
set_option maxHeartbeats 4000000 in
theorem rh_mark (A0 : Option Addr) (c0 : Nat) (nx : List Int) (A1 : Option Addr) (c1 : Nat) (mk : List Int) (s : ByteArray) (i : Nat) (x y z : Int) (w : World) (hr0 : Kd.C (Kd.int .i64) w A0 nx.length nx) (hc0 : nx.length ≤ c0) (hr1 : Kd.C (Kd.int .i64) w A1 mk.length mk) (hc1 : mk.length ≤ c1) (hsz : s.size ≤ 1000000000) (j : Nat) (hj : j ≤ 3) (l : List Nat) (hd : (cs s).drop i = (48 + j) :: l) :
    Calls Try.prog 51 #[.agg #[.slice A0 nx.length c0, .slice A1 mk.length c1], .string s, .int .i64 i, .agg #[.int .i64 x, .int .i64 y, .int .i64 z]] w fun e w' => e = .returned (.tuple #[.int .i64 (rmarkTo mk j mk.length), .int .i64 ((i : Int) + 1)]) ∧ Below w.heap.size w w' := by
  obtain ⟨c, hcj⟩ : ∃ c, c = 48 + j := ⟨_, rfl⟩
  rw [← hcj] at hd
  have hc1 : 48 ≤ c := by omega
  have hc2 : c ≤ 51 := by omega
  have HJ := Lib.hid hcj
  clear hcj
  obtain ⟨hi, hch, hrest⟩ := drop_at hd
  have hi2 : (i : Int) < (s.size : Int) := by omega
  have HD := Lib.hid hrest
  clear hrest hd
  have hu := Try.underlying24
  have hu2 := Try.underlying71
  have HR0 := Lib.hid hr0
  have HR1 := Lib.hid hr1
  have hle := hr0.2.1
  have hle1 := hr1.2.1
  clear hr0 hr1
  go_enter Try.func51, Try.ntmps51
  go_wp2_with (first | ((with_reducible refine gate_dst (N := 4) rfl ?_); refine box_event ?hg (N := 4) ?hd (cs := #[.slice A0 nx.length c0, .slice A1 mk.length c1]) (t := 24) ?hr ?_; (case hd => rfl); (case hg => rfl); (case hr => first | (go_simp; done) | (go_simp; rfl)); intro gw hgw wb hbw hbb; have HGW := Lib.hid hbw; have HBW := Lib.hid (below_step (Below.refl w.heap.size w) hbb); have HGE := Lib.hid (Nat.le_of_eq hgw.symm); clear hgw hbw hbb) | ((with_reducible refine gate_dst (N := 7) rfl ?_); refine box_event ?hg (N := 7) ?hd (cs := #[.int .i64 x, .int .i64 y, .int .i64 z]) (t := 71) ?hr ?_; (case hd => rfl); (case hg => rfl); (case hr => first | (go_simp; done) | (go_simp; rfl)); intro gs hgs wc hbs hbb; have k0_ := Lib.hid (blk_below HGW.out hbb); have k1_ := Lib.hid (below_step HBW.out hbb); have HSE := Lib.hid (And.intro (Nat.le_trans HBW.out.size (Nat.le_of_eq hgs.symm)) (show gw ≠ gs from fun e => by have h1 := blk_lt HGW.out; omega)); clear HGW HBW; have HGW := k0_; have HBW := k1_; clear k0_ k1_; have HGS := Lib.hid hbs; have hw0 : wc.cell? ⟨gw, 0, none⟩ = some (.slice A0 nx.length c0) := (blk_cell HGW.out 0).trans rfl; have hw1 : wc.cell? ⟨gw, 1, none⟩ = some (.slice A1 mk.length c1) := (blk_cell HGW.out 1).trans rfl; have hs0 : wc.cell? ⟨gs, 0, none⟩ = some (.int .i64 x) := (blk_cell HGS.out 0).trans rfl; have hs1 : wc.cell? ⟨gs, 1, none⟩ = some (.int .i64 y) := (blk_cell HGS.out 1).trans rfl; have hs2 : wc.cell? ⟨gs, 2, none⟩ = some (.int .i64 z) := (blk_cell HGS.out 2).trans rfl; clear hgs hbs hbb) | fail)
  refine (PA.comfitref08_digit.calls (c : Int) (j : Int) _ (by have := HJ.out; unfold PA.comfitref08_digit.f; rw [if_pos (by omega), if_pos (by omega)]; congr 1; omega)).mono ?_
  rintro e wd ⟨rfl, hd⟩
  have j0_ := cell_drawn hd hw0
  have j1_ := cell_drawn hd hw1
  have j2_ := cell_drawn hd hs0
  have j3_ := cell_drawn hd hs1
  have j4_ := cell_drawn hd hs2
  have n0_ := Lib.hid (below_drawn HBW.out hd)
  clear hw0 hw1 hs0 hs1 hs2 HBW hd
  have hw0 := j0_
  have hw1 := j1_
  have hs0 := j2_
  have hs1 := j3_
  have hs2 := j4_
  have HBW := n0_
  clear j0_ j1_ j2_ j3_ j4_ n0_
  go_wp2_with fail
  refine (PA.comfitref08_digit.calls (c : Int) (j : Int) _ (by have := HJ.out; unfold PA.comfitref08_digit.f; rw [if_pos (by omega), if_pos (by omega)]; congr 1; omega)).mono ?_
  rintro e wd ⟨rfl, hd⟩
  have j0_ := cell_drawn hd hw0
  have j1_ := cell_drawn hd hw1
  have j2_ := cell_drawn hd hs0
  have j3_ := cell_drawn hd hs1
  have j4_ := cell_drawn hd hs2
  have n0_ := Lib.hid (below_drawn HBW.out hd)
  clear hw0 hw1 hs0 hs1 hs2 HBW hd
  have hw0 := j0_
  have hw1 := j1_
  have hs0 := j2_
  have hs1 := j3_
  have hs2 := j4_
  have HBW := n0_
  clear j0_ j1_ j2_ j3_ j4_ n0_
  go_wp2_with fail
  go_loop [13, 69] (fun v i => ∃ k : Nat, k ≤ mk.length ∧ i = .int .i64 k ∧ v = .int .i64 (rmarkTo mk j k)) (fun _ i => mk.length - (intOf i).toNat)
  case atStart => exact ⟨0, by omega, rfl, rfl⟩
  case round =>
    obtain ⟨k, hk, rfl, rfl⟩ := hrel
    by_cases hlt : k < mk.length
    · obtain ⟨b, off, hA, hbl, hc⟩ := ints_at (Kd.C_below HR1.out HBW.out) (by omega)
      subst hA
      have hx := hc k hlt
      clear hc
      go_wp2
      go_round
      case rel => exact ⟨k + 1, by omega, by go_num, by first | rfl | simp [rmarkTo]⟩
      case measure => simp [intOf]; omega
    · obtain rfl : k = mk.length := by omega
      go_wp2
      go_ret2
      exact ⟨by first | rfl | (rw [allOf_eq]; rfl), HBW.out⟩

set_option maxRecDepth 100000 in
set_option maxHeartbeats 4000000 in
theorem rh_neg (A0 : Option Addr) (c0 : Nat) (nx : List Int) (A1 : Option Addr) (c1 : Nat) (mk : List Int) (s : ByteArray) (i : Nat) (x y z : Int) (w : World) (hr0 : Kd.C (Kd.int .i64) w A0 nx.length nx) (hc0 : nx.length ≤ c0) (hr1 : Kd.C (Kd.int .i64) w A1 mk.length mk) (hc1 : mk.length ≤ c1) (hsz : s.size ≤ 1000000000) (j : Nat) (hj : j ≤ 3) (l : List Nat) (hd : (cs s).drop i = 45 :: (48 + j) :: l) :
    Calls Try.prog 51 #[.agg #[.slice A0 nx.length c0, .slice A1 mk.length c1], .string s, .int .i64 i, .agg #[.int .i64 x, .int .i64 y, .int .i64 z]] w fun e w' => e = .returned (.tuple #[.int .i64 (bits .andNot .i64 (allOf nx) (rmarkTo mk j mk.length)), .int .i64 ((i : Int) + 2)]) ∧ Below w.heap.size w w' := by
  obtain ⟨c, hcj⟩ : ∃ c, c = 48 + j := ⟨_, rfl⟩
  rw [← hcj] at hd
  have hc1 : 48 ≤ c := by omega
  have hc2 : c ≤ 51 := by omega
  have HJ := Lib.hid hcj
  clear hcj
  obtain ⟨hi, hch, hrest⟩ := drop_at hd
  have hi2 : (i : Int) < (s.size : Int) := by omega
  have HD := Lib.hid hrest
  clear hrest hd
  obtain ⟨hi3, hch2, hrest2⟩ := drop_at HD.out
  have hi4 : (i : Int) + 1 < (s.size : Int) := by omega
  clear HD hrest2
  have hu := Try.underlying24
  have hu2 := Try.underlying71
  have HR0 := Lib.hid hr0
  have HR1 := Lib.hid hr1
  have hle := hr0.2.1
  have hle1 := hr1.2.1
  clear hr0 hr1
  go_enter Try.func51, Try.ntmps51
  go_wp2_with (first | ((with_reducible refine gate_dst (N := 4) rfl ?_); refine box_event ?hg (N := 4) ?hd (cs := #[.slice A0 nx.length c0, .slice A1 mk.length c1]) (t := 24) ?hr ?_; (case hd => rfl); (case hg => rfl); (case hr => first | (go_simp; done) | (go_simp; rfl)); intro gw hgw wb hbw hbb; have HGW := Lib.hid hbw; have HBW := Lib.hid (below_step (Below.refl w.heap.size w) hbb); have HGE := Lib.hid (Nat.le_of_eq hgw.symm); clear hgw hbw hbb) | ((with_reducible refine gate_dst (N := 7) rfl ?_); refine box_event ?hg (N := 7) ?hd (cs := #[.int .i64 x, .int .i64 y, .int .i64 z]) (t := 71) ?hr ?_; (case hd => rfl); (case hg => rfl); (case hr => first | (go_simp; done) | (go_simp; rfl)); intro gs hgs wc hbs hbb; have k0_ := Lib.hid (blk_below HGW.out hbb); have k1_ := Lib.hid (below_step HBW.out hbb); have HSE := Lib.hid (And.intro (Nat.le_trans HBW.out.size (Nat.le_of_eq hgs.symm)) (show gw ≠ gs from fun e => by have h1 := blk_lt HGW.out; omega)); clear HGW HBW; have HGW := k0_; have HBW := k1_; clear k0_ k1_; have HGS := Lib.hid hbs; have hw0 : wc.cell? ⟨gw, 0, none⟩ = some (.slice A0 nx.length c0) := (blk_cell HGW.out 0).trans rfl; have hw1 : wc.cell? ⟨gw, 1, none⟩ = some (.slice A1 mk.length c1) := (blk_cell HGW.out 1).trans rfl; have hs0 : wc.cell? ⟨gs, 0, none⟩ = some (.int .i64 x) := (blk_cell HGS.out 0).trans rfl; have hs1 : wc.cell? ⟨gs, 1, none⟩ = some (.int .i64 y) := (blk_cell HGS.out 1).trans rfl; have hs2 : wc.cell? ⟨gs, 2, none⟩ = some (.int .i64 z) := (blk_cell HGS.out 2).trans rfl; clear hgs hbs hbb) | fail)
  refine (PA.comfitref08_digit.calls ((45 : Nat) : Int) (-1) _ rfl).mono ?_
  rintro e wd ⟨rfl, hd⟩
  have j0_ := cell_drawn hd hw0
  have j1_ := cell_drawn hd hw1
  have j2_ := cell_drawn hd hs0
  have j3_ := cell_drawn hd hs1
  have j4_ := cell_drawn hd hs2
  have n0_ := Lib.hid (below_drawn HBW.out hd)
  clear hw0 hw1 hs0 hs1 hs2 HBW hd
  have hw0 := j0_
  have hw1 := j1_
  have hs0 := j2_
  have hs1 := j3_
  have hs2 := j4_
  have HBW := n0_
  clear j0_ j1_ j2_ j3_ j4_ n0_
  go_wp2_with fail
  refine (PA.comfitref08_digit.calls ((45 : Nat) : Int) (-1) _ rfl).mono ?_
  rintro e wd ⟨rfl, hd⟩
  have j0_ := cell_drawn hd hw0
  have j1_ := cell_drawn hd hw1
  have j2_ := cell_drawn hd hs0
  have j3_ := cell_drawn hd hs1
  have j4_ := cell_drawn hd hs2
  have n0_ := Lib.hid (below_drawn HBW.out hd)
  clear hw0 hw1 hs0 hs1 hs2 HBW hd
  have hw0 := j0_
  have hw1 := j1_
  have hs0 := j2_
  have hs1 := j3_
  have hs2 := j4_
  have HBW := n0_
  clear j0_ j1_ j2_ j3_ j4_ n0_
  go_wp2_with fail
  refine (PA.comfitref08_digit.calls (c : Int) (j : Int) _ (by have := HJ.out; unfold PA.comfitref08_digit.f; rw [if_pos (by omega), if_pos (by omega)]; congr 1; omega)).mono ?_
  rintro e wd ⟨rfl, hd⟩
  have j0_ := cell_drawn hd hw0
  have j1_ := cell_drawn hd hw1
  have j2_ := cell_drawn hd hs0
  have j3_ := cell_drawn hd hs1
  have j4_ := cell_drawn hd hs2
  have n0_ := Lib.hid (below_drawn HBW.out hd)
  clear hw0 hw1 hs0 hs1 hs2 HBW hd
  have hw0 := j0_
  have hw1 := j1_
  have hs0 := j2_
  have hs1 := j3_
  have hs2 := j4_
  have HBW := n0_
  clear j0_ j1_ j2_ j3_ j4_ n0_
  go_wp2_with fail
  go_loop [13, 69] (fun v i => ∃ k : Nat, k ≤ mk.length ∧ i = .int .i64 k ∧ v = .int .i64 (rmarkTo mk j k)) (fun _ i => mk.length - (intOf i).toNat)
  case atStart => exact ⟨0, by omega, rfl, rfl⟩
  case round =>
    obtain ⟨k, hk, rfl, rfl⟩ := hrel
    by_cases hlt : k < mk.length
    · obtain ⟨b, off, hA, hbl, hc⟩ := ints_at (Kd.C_below HR1.out HBW.out) (by omega)
      subst hA
      have hx := hc k hlt
      clear hc
      go_wp2
      go_round
      case rel => exact ⟨k + 1, by omega, by go_num, by first | rfl | simp [rmarkTo]⟩
      case measure => simp [intOf]; omega
    · obtain rfl : k = mk.length := by omega
      go_wp2
      go_ret2
      exact ⟨by first | rfl | (rw [allOf_eq]; rfl), HBW.out⟩

set_option maxRecDepth 100000 in
set_option maxHeartbeats 4000000 in
theorem rh_var120 (A0 : Option Addr) (c0 : Nat) (nx : List Int) (A1 : Option Addr) (c1 : Nat) (mk : List Int) (s : ByteArray) (i : Nat) (x y z : Int) (w : World) (hr0 : Kd.C (Kd.int .i64) w A0 nx.length nx) (hc0 : nx.length ≤ c0) (hr1 : Kd.C (Kd.int .i64) w A1 mk.length mk) (hc1 : mk.length ≤ c1) (hsz : s.size ≤ 1000000000) (l : List Nat) (hd : (cs s).drop i = 120 :: l) :
    Calls Try.prog 51 #[.agg #[.slice A0 nx.length c0, .slice A1 mk.length c1], .string s, .int .i64 i, .agg #[.int .i64 x, .int .i64 y, .int .i64 z]] w fun e w' => e = .returned (.tuple #[.int .i64 (x), .int .i64 ((i : Int) + 1)]) ∧ Below w.heap.size w w' := by
  obtain ⟨hi, hch, hrest⟩ := drop_at hd
  have hi2 : (i : Int) < (s.size : Int) := by omega
  have HD := Lib.hid hrest
  clear hrest hd
  have hu := Try.underlying24
  have hu2 := Try.underlying71
  have HR0 := Lib.hid hr0
  have HR1 := Lib.hid hr1
  have hle := hr0.2.1
  have hle1 := hr1.2.1
  clear hr0 hr1
  go_enter Try.func51, Try.ntmps51
  go_wp2_with (first | ((with_reducible refine gate_dst (N := 4) rfl ?_); refine box_event ?hg (N := 4) ?hd (cs := #[.slice A0 nx.length c0, .slice A1 mk.length c1]) (t := 24) ?hr ?_; (case hd => rfl); (case hg => rfl); (case hr => first | (go_simp; done) | (go_simp; rfl)); intro gw hgw wb hbw hbb; have HGW := Lib.hid hbw; have HBW := Lib.hid (below_step (Below.refl w.heap.size w) hbb); have HGE := Lib.hid (Nat.le_of_eq hgw.symm); clear hgw hbw hbb) | ((with_reducible refine gate_dst (N := 7) rfl ?_); refine box_event ?hg (N := 7) ?hd (cs := #[.int .i64 x, .int .i64 y, .int .i64 z]) (t := 71) ?hr ?_; (case hd => rfl); (case hg => rfl); (case hr => first | (go_simp; done) | (go_simp; rfl)); intro gs hgs wc hbs hbb; have k0_ := Lib.hid (blk_below HGW.out hbb); have k1_ := Lib.hid (below_step HBW.out hbb); have HSE := Lib.hid (And.intro (Nat.le_trans HBW.out.size (Nat.le_of_eq hgs.symm)) (show gw ≠ gs from fun e => by have h1 := blk_lt HGW.out; omega)); clear HGW HBW; have HGW := k0_; have HBW := k1_; clear k0_ k1_; have HGS := Lib.hid hbs; have hw0 : wc.cell? ⟨gw, 0, none⟩ = some (.slice A0 nx.length c0) := (blk_cell HGW.out 0).trans rfl; have hw1 : wc.cell? ⟨gw, 1, none⟩ = some (.slice A1 mk.length c1) := (blk_cell HGW.out 1).trans rfl; have hs0 : wc.cell? ⟨gs, 0, none⟩ = some (.int .i64 x) := (blk_cell HGS.out 0).trans rfl; have hs1 : wc.cell? ⟨gs, 1, none⟩ = some (.int .i64 y) := (blk_cell HGS.out 1).trans rfl; have hs2 : wc.cell? ⟨gs, 2, none⟩ = some (.int .i64 z) := (blk_cell HGS.out 2).trans rfl; clear hgs hbs hbb) | fail)
  refine (PA.comfitref08_digit.calls ((120 : Nat) : Int) (-1) _ rfl).mono ?_
  rintro e wd ⟨rfl, hd⟩
  have j0_ := cell_drawn hd hw0
  have j1_ := cell_drawn hd hw1
  have j2_ := cell_drawn hd hs0
  have j3_ := cell_drawn hd hs1
  have j4_ := cell_drawn hd hs2
  have n0_ := Lib.hid (below_drawn HBW.out hd)
  clear hw0 hw1 hs0 hs1 hs2 HBW hd
  have hw0 := j0_
  have hw1 := j1_
  have hs0 := j2_
  have hs1 := j3_
  have hs2 := j4_
  have HBW := n0_
  clear j0_ j1_ j2_ j3_ j4_ n0_
  go_wp2_with fail
  refine (PA.comfitref08_letter.calls ((120 : Nat) : Int) 0 _ rfl).mono ?_
  rintro e wd ⟨rfl, hd⟩
  have j0_ := cell_drawn hd hw0
  have j1_ := cell_drawn hd hw1
  have j2_ := cell_drawn hd hs0
  have j3_ := cell_drawn hd hs1
  have j4_ := cell_drawn hd hs2
  have n0_ := Lib.hid (below_drawn HBW.out hd)
  clear hw0 hw1 hs0 hs1 hs2 HBW hd
  have hw0 := j0_
  have hw1 := j1_
  have hs0 := j2_
  have hs1 := j3_
  have hs2 := j4_
  have HBW := n0_
  clear j0_ j1_ j2_ j3_ j4_ n0_
  go_wp2_with fail
  refine (PA.comfitref08_letter.calls ((120 : Nat) : Int) 0 _ rfl).mono ?_
  rintro e wd ⟨rfl, hd⟩
  have j0_ := cell_drawn hd hw0
  have j1_ := cell_drawn hd hw1
  have j2_ := cell_drawn hd hs0
  have j3_ := cell_drawn hd hs1
  have j4_ := cell_drawn hd hs2
  have n0_ := Lib.hid (below_drawn HBW.out hd)
  clear hw0 hw1 hs0 hs1 hs2 HBW hd
  have hw0 := j0_
  have hw1 := j1_
  have hs0 := j2_
  have hs1 := j3_
  have hs2 := j4_
  have HBW := n0_
  clear j0_ j1_ j2_ j3_ j4_ n0_
  go_wp2
  go_ret2
  exact ⟨rfl, HBW.out⟩

set_option maxRecDepth 100000 in
set_option maxHeartbeats 4000000 in
theorem rh_var121 (A0 : Option Addr) (c0 : Nat) (nx : List Int) (A1 : Option Addr) (c1 : Nat) (mk : List Int) (s : ByteArray) (i : Nat) (x y z : Int) (w : World) (hr0 : Kd.C (Kd.int .i64) w A0 nx.length nx) (hc0 : nx.length ≤ c0) (hr1 : Kd.C (Kd.int .i64) w A1 mk.length mk) (hc1 : mk.length ≤ c1) (hsz : s.size ≤ 1000000000) (l : List Nat) (hd : (cs s).drop i = 121 :: l) :
    Calls Try.prog 51 #[.agg #[.slice A0 nx.length c0, .slice A1 mk.length c1], .string s, .int .i64 i, .agg #[.int .i64 x, .int .i64 y, .int .i64 z]] w fun e w' => e = .returned (.tuple #[.int .i64 (y), .int .i64 ((i : Int) + 1)]) ∧ Below w.heap.size w w' := by
  obtain ⟨hi, hch, hrest⟩ := drop_at hd
  have hi2 : (i : Int) < (s.size : Int) := by omega
  have HD := Lib.hid hrest
  clear hrest hd
  have hu := Try.underlying24
  have hu2 := Try.underlying71
  have HR0 := Lib.hid hr0
  have HR1 := Lib.hid hr1
  have hle := hr0.2.1
  have hle1 := hr1.2.1
  clear hr0 hr1
  go_enter Try.func51, Try.ntmps51
  go_wp2_with (first | ((with_reducible refine gate_dst (N := 4) rfl ?_); refine box_event ?hg (N := 4) ?hd (cs := #[.slice A0 nx.length c0, .slice A1 mk.length c1]) (t := 24) ?hr ?_; (case hd => rfl); (case hg => rfl); (case hr => first | (go_simp; done) | (go_simp; rfl)); intro gw hgw wb hbw hbb; have HGW := Lib.hid hbw; have HBW := Lib.hid (below_step (Below.refl w.heap.size w) hbb); have HGE := Lib.hid (Nat.le_of_eq hgw.symm); clear hgw hbw hbb) | ((with_reducible refine gate_dst (N := 7) rfl ?_); refine box_event ?hg (N := 7) ?hd (cs := #[.int .i64 x, .int .i64 y, .int .i64 z]) (t := 71) ?hr ?_; (case hd => rfl); (case hg => rfl); (case hr => first | (go_simp; done) | (go_simp; rfl)); intro gs hgs wc hbs hbb; have k0_ := Lib.hid (blk_below HGW.out hbb); have k1_ := Lib.hid (below_step HBW.out hbb); have HSE := Lib.hid (And.intro (Nat.le_trans HBW.out.size (Nat.le_of_eq hgs.symm)) (show gw ≠ gs from fun e => by have h1 := blk_lt HGW.out; omega)); clear HGW HBW; have HGW := k0_; have HBW := k1_; clear k0_ k1_; have HGS := Lib.hid hbs; have hw0 : wc.cell? ⟨gw, 0, none⟩ = some (.slice A0 nx.length c0) := (blk_cell HGW.out 0).trans rfl; have hw1 : wc.cell? ⟨gw, 1, none⟩ = some (.slice A1 mk.length c1) := (blk_cell HGW.out 1).trans rfl; have hs0 : wc.cell? ⟨gs, 0, none⟩ = some (.int .i64 x) := (blk_cell HGS.out 0).trans rfl; have hs1 : wc.cell? ⟨gs, 1, none⟩ = some (.int .i64 y) := (blk_cell HGS.out 1).trans rfl; have hs2 : wc.cell? ⟨gs, 2, none⟩ = some (.int .i64 z) := (blk_cell HGS.out 2).trans rfl; clear hgs hbs hbb) | fail)
  refine (PA.comfitref08_digit.calls ((121 : Nat) : Int) (-1) _ rfl).mono ?_
  rintro e wd ⟨rfl, hd⟩
  have j0_ := cell_drawn hd hw0
  have j1_ := cell_drawn hd hw1
  have j2_ := cell_drawn hd hs0
  have j3_ := cell_drawn hd hs1
  have j4_ := cell_drawn hd hs2
  have n0_ := Lib.hid (below_drawn HBW.out hd)
  clear hw0 hw1 hs0 hs1 hs2 HBW hd
  have hw0 := j0_
  have hw1 := j1_
  have hs0 := j2_
  have hs1 := j3_
  have hs2 := j4_
  have HBW := n0_
  clear j0_ j1_ j2_ j3_ j4_ n0_
  go_wp2_with fail
  refine (PA.comfitref08_letter.calls ((121 : Nat) : Int) 1 _ rfl).mono ?_
  rintro e wd ⟨rfl, hd⟩
  have j0_ := cell_drawn hd hw0
  have j1_ := cell_drawn hd hw1
  have j2_ := cell_drawn hd hs0
  have j3_ := cell_drawn hd hs1
  have j4_ := cell_drawn hd hs2
  have n0_ := Lib.hid (below_drawn HBW.out hd)
  clear hw0 hw1 hs0 hs1 hs2 HBW hd
  have hw0 := j0_
  have hw1 := j1_
  have hs0 := j2_
  have hs1 := j3_
  have hs2 := j4_
  have HBW := n0_
  clear j0_ j1_ j2_ j3_ j4_ n0_
  go_wp2_with fail
  refine (PA.comfitref08_letter.calls ((121 : Nat) : Int) 1 _ rfl).mono ?_
  rintro e wd ⟨rfl, hd⟩
  have j0_ := cell_drawn hd hw0
  have j1_ := cell_drawn hd hw1
  have j2_ := cell_drawn hd hs0
  have j3_ := cell_drawn hd hs1
  have j4_ := cell_drawn hd hs2
  have n0_ := Lib.hid (below_drawn HBW.out hd)
  clear hw0 hw1 hs0 hs1 hs2 HBW hd
  have hw0 := j0_
  have hw1 := j1_
  have hs0 := j2_
  have hs1 := j3_
  have hs2 := j4_
  have HBW := n0_
  clear j0_ j1_ j2_ j3_ j4_ n0_
  go_wp2
  go_ret2
  exact ⟨rfl, HBW.out⟩

set_option maxRecDepth 100000 in
set_option maxHeartbeats 4000000 in
theorem rh_var122 (A0 : Option Addr) (c0 : Nat) (nx : List Int) (A1 : Option Addr) (c1 : Nat) (mk : List Int) (s : ByteArray) (i : Nat) (x y z : Int) (w : World) (hr0 : Kd.C (Kd.int .i64) w A0 nx.length nx) (hc0 : nx.length ≤ c0) (hr1 : Kd.C (Kd.int .i64) w A1 mk.length mk) (hc1 : mk.length ≤ c1) (hsz : s.size ≤ 1000000000) (l : List Nat) (hd : (cs s).drop i = 122 :: l) :
    Calls Try.prog 51 #[.agg #[.slice A0 nx.length c0, .slice A1 mk.length c1], .string s, .int .i64 i, .agg #[.int .i64 x, .int .i64 y, .int .i64 z]] w fun e w' => e = .returned (.tuple #[.int .i64 (z), .int .i64 ((i : Int) + 1)]) ∧ Below w.heap.size w w' := by
  obtain ⟨hi, hch, hrest⟩ := drop_at hd
  have hi2 : (i : Int) < (s.size : Int) := by omega
  have HD := Lib.hid hrest
  clear hrest hd
  have hu := Try.underlying24
  have hu2 := Try.underlying71
  have HR0 := Lib.hid hr0
  have HR1 := Lib.hid hr1
  have hle := hr0.2.1
  have hle1 := hr1.2.1
  clear hr0 hr1
  go_enter Try.func51, Try.ntmps51
  go_wp2_with (first | ((with_reducible refine gate_dst (N := 4) rfl ?_); refine box_event ?hg (N := 4) ?hd (cs := #[.slice A0 nx.length c0, .slice A1 mk.length c1]) (t := 24) ?hr ?_; (case hd => rfl); (case hg => rfl); (case hr => first | (go_simp; done) | (go_simp; rfl)); intro gw hgw wb hbw hbb; have HGW := Lib.hid hbw; have HBW := Lib.hid (below_step (Below.refl w.heap.size w) hbb); have HGE := Lib.hid (Nat.le_of_eq hgw.symm); clear hgw hbw hbb) | ((with_reducible refine gate_dst (N := 7) rfl ?_); refine box_event ?hg (N := 7) ?hd (cs := #[.int .i64 x, .int .i64 y, .int .i64 z]) (t := 71) ?hr ?_; (case hd => rfl); (case hg => rfl); (case hr => first | (go_simp; done) | (go_simp; rfl)); intro gs hgs wc hbs hbb; have k0_ := Lib.hid (blk_below HGW.out hbb); have k1_ := Lib.hid (below_step HBW.out hbb); have HSE := Lib.hid (And.intro (Nat.le_trans HBW.out.size (Nat.le_of_eq hgs.symm)) (show gw ≠ gs from fun e => by have h1 := blk_lt HGW.out; omega)); clear HGW HBW; have HGW := k0_; have HBW := k1_; clear k0_ k1_; have HGS := Lib.hid hbs; have hw0 : wc.cell? ⟨gw, 0, none⟩ = some (.slice A0 nx.length c0) := (blk_cell HGW.out 0).trans rfl; have hw1 : wc.cell? ⟨gw, 1, none⟩ = some (.slice A1 mk.length c1) := (blk_cell HGW.out 1).trans rfl; have hs0 : wc.cell? ⟨gs, 0, none⟩ = some (.int .i64 x) := (blk_cell HGS.out 0).trans rfl; have hs1 : wc.cell? ⟨gs, 1, none⟩ = some (.int .i64 y) := (blk_cell HGS.out 1).trans rfl; have hs2 : wc.cell? ⟨gs, 2, none⟩ = some (.int .i64 z) := (blk_cell HGS.out 2).trans rfl; clear hgs hbs hbb) | fail)
  refine (PA.comfitref08_digit.calls ((122 : Nat) : Int) (-1) _ rfl).mono ?_
  rintro e wd ⟨rfl, hd⟩
  have j0_ := cell_drawn hd hw0
  have j1_ := cell_drawn hd hw1
  have j2_ := cell_drawn hd hs0
  have j3_ := cell_drawn hd hs1
  have j4_ := cell_drawn hd hs2
  have n0_ := Lib.hid (below_drawn HBW.out hd)
  clear hw0 hw1 hs0 hs1 hs2 HBW hd
  have hw0 := j0_
  have hw1 := j1_
  have hs0 := j2_
  have hs1 := j3_
  have hs2 := j4_
  have HBW := n0_
  clear j0_ j1_ j2_ j3_ j4_ n0_
  go_wp2_with fail
  refine (PA.comfitref08_letter.calls ((122 : Nat) : Int) 2 _ rfl).mono ?_
  rintro e wd ⟨rfl, hd⟩
  have j0_ := cell_drawn hd hw0
  have j1_ := cell_drawn hd hw1
  have j2_ := cell_drawn hd hs0
  have j3_ := cell_drawn hd hs1
  have j4_ := cell_drawn hd hs2
  have n0_ := Lib.hid (below_drawn HBW.out hd)
  clear hw0 hw1 hs0 hs1 hs2 HBW hd
  have hw0 := j0_
  have hw1 := j1_
  have hs0 := j2_
  have hs1 := j3_
  have hs2 := j4_
  have HBW := n0_
  clear j0_ j1_ j2_ j3_ j4_ n0_
  go_wp2_with fail
  refine (PA.comfitref08_letter.calls ((122 : Nat) : Int) 2 _ rfl).mono ?_
  rintro e wd ⟨rfl, hd⟩
  have j0_ := cell_drawn hd hw0
  have j1_ := cell_drawn hd hw1
  have j2_ := cell_drawn hd hs0
  have j3_ := cell_drawn hd hs1
  have j4_ := cell_drawn hd hs2
  have n0_ := Lib.hid (below_drawn HBW.out hd)
  clear hw0 hw1 hs0 hs1 hs2 HBW hd
  have hw0 := j0_
  have hw1 := j1_
  have hs0 := j2_
  have hs1 := j3_
  have hs2 := j4_
  have HBW := n0_
  clear j0_ j1_ j2_ j3_ j4_ n0_
  go_wp2
  go_ret2
  exact ⟨rfl, HBW.out⟩

end Go.Proofs.Ytjffhhalmicodaa.X
