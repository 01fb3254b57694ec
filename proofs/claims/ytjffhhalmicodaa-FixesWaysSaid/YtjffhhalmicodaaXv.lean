import Derived.Test.YtjffhhalmicodaaXu
set_option linter.unusedVariables false
set_option linter.unusedSimpArgs false
namespace Go.Proofs.Ytjffhhalmicodaa.X
open Go.RowKit Go.Proofs.YtjffhhalmicodaaW.PrintWords Go.Proofs.YtjffhhalmicodaaW.PrintLast Go.Proofs.YtjffhhalmicodaaW.PrintMore

/-- the sets of x, y and z -/
abbrev Sets := Int × Int × Int
def setL (x : Nat) (v : Int) (s : Sets) : Sets := if x = 120 then (v, s.2.1, s.2.2) else if x = 121 then (s.1, v, s.2.2) else (s.1, s.2.1, v)
def getL (x : Nat) (s : Sets) : Int := if x = 120 then s.1 else if x = 121 then s.2.1 else s.2.2

mutual
/-- where a formula holds, as the reference reckons it, within a number of rounds -/
def rholdF (nx mk : List Int) : Nat → Fm → Sets → Option Int
  | 0, _, _ => none
  | k + 1, .mark neg j, _ => some (if neg = true then bits .andNot .i64 (allOf nx) (rmarkTo mk j mk.length) else rmarkTo mk j mk.length)
  | k + 1, .con c, _ => some (if c = 116 then allOf nx else 0)
  | k + 1, .var c, s => some (getL c s)
  | k + 1, .two c a b, s => (rholdF nx mk k a s).bind fun p => (rholdF nx mk k b s).bind fun q => some (if c = 38 then bits .and .i64 p q else bits .or .i64 p q)
  | k + 1, .one c a, s => (rholdF nx mk k a s).bind fun p => some (if c = 60 then stepTo nx p else boxTo nx p)
  | k + 1, .fix c x a, s => (rloopF nx mk k x a (if c = 103 then allOf nx else 0) 1 s).bind fun p => some p.1
def rloopF (nx mk : List Int) : Nat → Nat → Fm → Int → Int → Sets → Option (Int × Int)
  | 0, _, _, _, _, _ => none
  | k + 1, x, a, set, cnt, s => (rholdF nx mk k a (setL x set s)).bind fun p => if p = set then some (set, cnt) else rloopF nx mk k x a p (wrap64 (cnt + 1)) (setL x set s)
end

theorem blk_drawn {w w' : World} (h : Drawn0 w w') {g : Nat} {o : Obj} (hb : w.heap[g]? = some o) : w'.heap[g]? = some o := by
  obtain ⟨⟨q, rfl⟩⟩ := h
  exact hb
theorem ret3_int {k1 k2 k3 : IntKind} {a b c d e f : Int} (h : a = b) (h' : c = d) (h2 : e = f) : Ending.returned (.tuple #[.int k1 a, .int k2 c, .int k3 e]) = .returned (.tuple #[.int k1 b, .int k2 d, .int k3 f]) := by rw [h, h', h2]

set_option maxRecDepth 100000 in
set_option maxHeartbeats 4000000 in
theorem rfix103_120 (A0 : Option Addr) (c0 : Nat) (nx : List Int) (A1 : Option Addr) (c1 : Nat) (mk : List Int) (s : ByteArray) (i : Nat) (x y z : Int) (w : World) (hr0 : Kd.C (Kd.int .i64) w A0 nx.length nx) (hc0 : nx.length ≤ c0) (hr1 : Kd.C (Kd.int .i64) w A1 mk.length mk) (hc1 : mk.length ≤ c1) (hsz : s.size ≤ 1000000000) (a : Fm) (k : Nat) (set cnt : Int) (l : List Nat) (hd : (cs s).drop i = 103 :: 120 :: (str a ++ l)) (ih : ∀ j, j < k → ∀ x y z res, rholdF nx mk j a (x, y, z) = some res → RHoldsC nx mk a x y z res) (hf : rloopF nx mk k 120 a (allOf nx) 1 (x, y, z) = some (set, cnt)) :
    Calls Try.prog 53 #[.agg #[.slice A0 nx.length c0, .slice A1 mk.length c1], .string s, .int .i64 i, .agg #[.int .i64 x, .int .i64 y, .int .i64 z]] w fun e w' => e = .returned (.tuple #[.int .i64 set, .int .i64 ((i : Int) + (((str a).length + 2 : Nat) : Int)), .int .i64 cnt]) ∧ Below w.heap.size w w' := by
  have IH := Lib.hid ih
  have HF := Lib.hid hf
  clear ih hf
  obtain ⟨hi, hch, hrest⟩ := drop_at hd
  have hi2 : (i : Int) < (s.size : Int) := by omega
  have HD := Lib.hid hrest
  clear hrest hd
  obtain ⟨hi3, hch2, hrest2⟩ := drop_at HD.out
  have HD2 := Lib.hid hrest2
  have hi4 : (i : Int) + 1 < (s.size : Int) := by omega
  have hla := app_len HD2.out (by omega)
  clear HD hrest2
  have hu := Try.underlying24
  have hu2 := Try.underlying71
  have HR0 := Lib.hid hr0
  have HR1 := Lib.hid hr1
  have hle := hr0.2.1
  have hle1 := hr1.2.1
  clear hr0 hr1
  go_enter Try.func53, Try.ntmps53
  go_wp2_with (first | ((with_reducible refine gate_dst (N := 4) rfl ?_); refine box_event ?hg (N := 4) ?hd (cs := #[.slice A0 nx.length c0, .slice A1 mk.length c1]) (t := 24) ?hr ?_; (case hd => rfl); (case hg => rfl); (case hr => first | (go_simp; done) | (go_simp; rfl)); intro gw hgw wb hbw hbb; have HGW := Lib.hid hbw; have HBW := Lib.hid (below_step (Below.refl w.heap.size w) hbb); have HGE := Lib.hid (Nat.le_of_eq hgw.symm); clear hgw hbw hbb) | ((with_reducible refine gate_dst (N := 7) rfl ?_); refine box_event ?hg (N := 7) ?hd (cs := #[.int .i64 x, .int .i64 y, .int .i64 z]) (t := 71) ?hr ?_; (case hd => rfl); (case hg => rfl); (case hr => first | (go_simp; done) | (go_simp; rfl)); intro gs hgs wc hbs hbb; have k0_ := Lib.hid (blk_below HGW.out hbb); have k1_ := Lib.hid (below_step HBW.out hbb); have HSE := Lib.hid (And.intro (Nat.le_trans HBW.out.size (Nat.le_of_eq hgs.symm)) (show gw ≠ gs from fun e => by have h1 := blk_lt HGW.out; omega)); clear HGW HBW; have HGW := k0_; have HBW := k1_; clear k0_ k1_; have HGS := Lib.hid hbs; have hw0 : wc.cell? ⟨gw, 0, none⟩ = some (.slice A0 nx.length c0) := (blk_cell HGW.out 0).trans rfl; have hw1 : wc.cell? ⟨gw, 1, none⟩ = some (.slice A1 mk.length c1) := (blk_cell HGW.out 1).trans rfl; have hs0 : wc.cell? ⟨gs, 0, none⟩ = some (.int .i64 x) := (blk_cell HGS.out 0).trans rfl; have hs1 : wc.cell? ⟨gs, 1, none⟩ = some (.int .i64 y) := (blk_cell HGS.out 1).trans rfl; have hs2 : wc.cell? ⟨gs, 2, none⟩ = some (.int .i64 z) := (blk_cell HGS.out 2).trans rfl; clear hgs hbs hbb) | fail)
  clear hs0 hs1 hs2
  go_loopg [11, 12] k (fun kq v11 v12 wr => ∃ (st ct x1 y1 z1 : Int), v11 = .int .i64 st ∧ v12 = .int .i64 ct ∧ Hid (kq ≤ k) ∧ Hid (rloopF nx mk kq 120 a st ct (x1, y1, z1) = some (set, cnt)) ∧ wr.cell? ⟨gw, 0, none⟩ = some (.slice A0 nx.length c0) ∧ wr.cell? ⟨gw, 1, none⟩ = some (.slice A1 mk.length c1) ∧ Hid (wr.heap[gs]? = some (.cells #[.int .i64 x1, .int .i64 y1, .int .i64 z1] 71 (0, 0))) ∧ Hid (Below w.heap.size w wr))
  case atStart => exact ⟨_, _, x, y, z, by first | rfl | (rw [allOf_eq]), rfl, Nat.le_refl _, HF.out, hw0, hw1, HGS.out, HBW.out⟩
  case round =>
    clear hw0 hw1 HGS HBW HF HGW
    obtain ⟨st, ct, x1, y1, z1, rfl, rfl, HK, HF, hw0, hw1, HGS, HBW⟩ := hrel
    cases gk with
    | zero => exact absurd HF.out (by simp [rloopF])
    | succ kq =>
      have hf := HF.out
      simp only [rloopF, setL] at hf
      obtain ⟨nxt, hp, hf⟩ := Option.bind_eq_some_iff.mp hf
      have HPP := Lib.hid hp
      have HF1 := Lib.hid hf
      clear hp hf HF
      go_wp2_with fail
      refine (PA.comfitref08_letter.calls ((120 : Nat) : Int) 0 _ rfl).mono ?_
      rintro e wd ⟨rfl, hd⟩
      have j0_ := cell_drawn hd hw0
      have j1_ := cell_drawn hd hw1
      have n0_ := Lib.hid (below_drawn HBW.out hd)
      have n1_ := Lib.hid (blk_drawn hd HGS.out)
      clear hw0 hw1 HBW HGS hd
      have hw0 := j0_
      have hw1 := j1_
      have HBW := n0_
      have HGS := n1_
      clear j0_ j1_ n0_ n1_
      have hs0 : wd.cell? ⟨gs, 0, none⟩ = some (.int .i64 x1) := (blk_cell HGS.out 0).trans rfl
      have hs1 : wd.cell? ⟨gs, 1, none⟩ = some (.int .i64 y1) := (blk_cell HGS.out 1).trans rfl
      have hs2 : wd.cell? ⟨gs, 2, none⟩ = some (.int .i64 z1) := (blk_cell HGS.out 2).trans rfl
      have hfr := blk_frozen HGS.out 0
      have HSET := Lib.hid (show (wd.setCell ⟨gs, 0, none⟩ (.int .i64 st)).heap[gs]? = some (.cells #[.int .i64 st, .int .i64 y1, .int .i64 z1] 71 (0, 0)) from by simpa using blk_set HGS.out 0 (.int .i64 st))
      have HBS := Lib.hid (HBW.out.setCell (p := ⟨gs, 0, none⟩) HSE.out.1 (.int .i64 st))
      have g0 : (wd.setCell ⟨gs, 0, none⟩ (.int .i64 st)).cell? ⟨gw, 0, none⟩ = some (.slice A0 nx.length c0) := (cell_set_other _ HSE.out.2).trans hw0
      have g1 : (wd.setCell ⟨gs, 0, none⟩ (.int .i64 st)).cell? ⟨gw, 1, none⟩ = some (.slice A1 mk.length c1) := (cell_set_other _ HSE.out.2).trans hw1
      have t0 : (wd.setCell ⟨gs, 0, none⟩ (.int .i64 st)).cell? ⟨gs, 0, none⟩ = some (.int .i64 st) := (blk_cell HSET.out 0).trans rfl
      have t1 : (wd.setCell ⟨gs, 0, none⟩ (.int .i64 st)).cell? ⟨gs, 1, none⟩ = some (.int .i64 y1) := (blk_cell HSET.out 1).trans rfl
      have t2 : (wd.setCell ⟨gs, 0, none⟩ (.int .i64 st)).cell? ⟨gs, 2, none⟩ = some (.int .i64 z1) := (blk_cell HSET.out 2).trans rfl
      go_wp2_with fail
      refine (IH.out kq (by have := HK.out; omega) st y1 z1 nxt HPP.out A0 c0 A1 c1 s ((i : Int) + 2) (i + 2) l _ (Kd.C_below HR0.out HBS.out) hc0 (Kd.C_below HR1.out HBS.out) hc1 hsz (by omega) HD2.out).mono ?_
      rintro e w1 ⟨rfl, hb⟩
      have j0_ := pw_cell_below hb g0
      have j1_ := pw_cell_below hb g1
      have n0_ := Lib.hid (below_step HBS.out hb)
      have n1_ := Lib.hid (blk_below HSET.out hb)
      clear hw0 hw1 hs0 hs1 hs2 hfr HBW HGS hb HSET HBS g0 g1 t0 t1 t2
      by_cases he : nxt = st
      · have e1 : (nxt == st) = true := beq_iff_eq.2 he
        have HE := Lib.hid he
        clear he
        go_wp2
        go_ret3
        have hf := HF1.out
        rw [if_pos HE.out] at hf
        simp only [Option.some.injEq, Prod.mk.injEq] at hf
        obtain ⟨h1, h2⟩ := hf
        exact ⟨ret3_int h1 (by omega) h2, n0_.out⟩
      · have e1 : (nxt == st) = false := beq_eq_false_iff_ne.2 he
        have HE := Lib.hid he
        clear he
        go_wp2
        go_roundg kq
        case measure => omega
        case rel =>
          have hf := HF1.out
          rw [if_neg HE.out] at hf
          exact ⟨_, _, _, _, _, rfl, rfl, by have := HK.out; exact (by omega : kq ≤ k), hf, j0_, j1_, n1_, n0_⟩

set_option maxRecDepth 100000 in
set_option maxHeartbeats 4000000 in
theorem rfix103_121 (A0 : Option Addr) (c0 : Nat) (nx : List Int) (A1 : Option Addr) (c1 : Nat) (mk : List Int) (s : ByteArray) (i : Nat) (x y z : Int) (w : World) (hr0 : Kd.C (Kd.int .i64) w A0 nx.length nx) (hc0 : nx.length ≤ c0) (hr1 : Kd.C (Kd.int .i64) w A1 mk.length mk) (hc1 : mk.length ≤ c1) (hsz : s.size ≤ 1000000000) (a : Fm) (k : Nat) (set cnt : Int) (l : List Nat) (hd : (cs s).drop i = 103 :: 121 :: (str a ++ l)) (ih : ∀ j, j < k → ∀ x y z res, rholdF nx mk j a (x, y, z) = some res → RHoldsC nx mk a x y z res) (hf : rloopF nx mk k 121 a (allOf nx) 1 (x, y, z) = some (set, cnt)) :
    Calls Try.prog 53 #[.agg #[.slice A0 nx.length c0, .slice A1 mk.length c1], .string s, .int .i64 i, .agg #[.int .i64 x, .int .i64 y, .int .i64 z]] w fun e w' => e = .returned (.tuple #[.int .i64 set, .int .i64 ((i : Int) + (((str a).length + 2 : Nat) : Int)), .int .i64 cnt]) ∧ Below w.heap.size w w' := by
  have IH := Lib.hid ih
  have HF := Lib.hid hf
  clear ih hf
  obtain ⟨hi, hch, hrest⟩ := drop_at hd
  have hi2 : (i : Int) < (s.size : Int) := by omega
  have HD := Lib.hid hrest
  clear hrest hd
  obtain ⟨hi3, hch2, hrest2⟩ := drop_at HD.out
  have HD2 := Lib.hid hrest2
  have hi4 : (i : Int) + 1 < (s.size : Int) := by omega
  have hla := app_len HD2.out (by omega)
  clear HD hrest2
  have hu := Try.underlying24
  have hu2 := Try.underlying71
  have HR0 := Lib.hid hr0
  have HR1 := Lib.hid hr1
  have hle := hr0.2.1
  have hle1 := hr1.2.1
  clear hr0 hr1
  go_enter Try.func53, Try.ntmps53
  go_wp2_with (first | ((with_reducible refine gate_dst (N := 4) rfl ?_); refine box_event ?hg (N := 4) ?hd (cs := #[.slice A0 nx.length c0, .slice A1 mk.length c1]) (t := 24) ?hr ?_; (case hd => rfl); (case hg => rfl); (case hr => first | (go_simp; done) | (go_simp; rfl)); intro gw hgw wb hbw hbb; have HGW := Lib.hid hbw; have HBW := Lib.hid (below_step (Below.refl w.heap.size w) hbb); have HGE := Lib.hid (Nat.le_of_eq hgw.symm); clear hgw hbw hbb) | ((with_reducible refine gate_dst (N := 7) rfl ?_); refine box_event ?hg (N := 7) ?hd (cs := #[.int .i64 x, .int .i64 y, .int .i64 z]) (t := 71) ?hr ?_; (case hd => rfl); (case hg => rfl); (case hr => first | (go_simp; done) | (go_simp; rfl)); intro gs hgs wc hbs hbb; have k0_ := Lib.hid (blk_below HGW.out hbb); have k1_ := Lib.hid (below_step HBW.out hbb); have HSE := Lib.hid (And.intro (Nat.le_trans HBW.out.size (Nat.le_of_eq hgs.symm)) (show gw ≠ gs from fun e => by have h1 := blk_lt HGW.out; omega)); clear HGW HBW; have HGW := k0_; have HBW := k1_; clear k0_ k1_; have HGS := Lib.hid hbs; have hw0 : wc.cell? ⟨gw, 0, none⟩ = some (.slice A0 nx.length c0) := (blk_cell HGW.out 0).trans rfl; have hw1 : wc.cell? ⟨gw, 1, none⟩ = some (.slice A1 mk.length c1) := (blk_cell HGW.out 1).trans rfl; have hs0 : wc.cell? ⟨gs, 0, none⟩ = some (.int .i64 x) := (blk_cell HGS.out 0).trans rfl; have hs1 : wc.cell? ⟨gs, 1, none⟩ = some (.int .i64 y) := (blk_cell HGS.out 1).trans rfl; have hs2 : wc.cell? ⟨gs, 2, none⟩ = some (.int .i64 z) := (blk_cell HGS.out 2).trans rfl; clear hgs hbs hbb) | fail)
  clear hs0 hs1 hs2
  go_loopg [11, 12] k (fun kq v11 v12 wr => ∃ (st ct x1 y1 z1 : Int), v11 = .int .i64 st ∧ v12 = .int .i64 ct ∧ Hid (kq ≤ k) ∧ Hid (rloopF nx mk kq 121 a st ct (x1, y1, z1) = some (set, cnt)) ∧ wr.cell? ⟨gw, 0, none⟩ = some (.slice A0 nx.length c0) ∧ wr.cell? ⟨gw, 1, none⟩ = some (.slice A1 mk.length c1) ∧ Hid (wr.heap[gs]? = some (.cells #[.int .i64 x1, .int .i64 y1, .int .i64 z1] 71 (0, 0))) ∧ Hid (Below w.heap.size w wr))
  case atStart => exact ⟨_, _, x, y, z, by first | rfl | (rw [allOf_eq]), rfl, Nat.le_refl _, HF.out, hw0, hw1, HGS.out, HBW.out⟩
  case round =>
    clear hw0 hw1 HGS HBW HF HGW
    obtain ⟨st, ct, x1, y1, z1, rfl, rfl, HK, HF, hw0, hw1, HGS, HBW⟩ := hrel
    cases gk with
    | zero => exact absurd HF.out (by simp [rloopF])
    | succ kq =>
      have hf := HF.out
      simp only [rloopF, setL] at hf
      obtain ⟨nxt, hp, hf⟩ := Option.bind_eq_some_iff.mp hf
      have HPP := Lib.hid hp
      have HF1 := Lib.hid hf
      clear hp hf HF
      go_wp2_with fail
      refine (PA.comfitref08_letter.calls ((121 : Nat) : Int) 1 _ rfl).mono ?_
      rintro e wd ⟨rfl, hd⟩
      have j0_ := cell_drawn hd hw0
      have j1_ := cell_drawn hd hw1
      have n0_ := Lib.hid (below_drawn HBW.out hd)
      have n1_ := Lib.hid (blk_drawn hd HGS.out)
      clear hw0 hw1 HBW HGS hd
      have hw0 := j0_
      have hw1 := j1_
      have HBW := n0_
      have HGS := n1_
      clear j0_ j1_ n0_ n1_
      have hs0 : wd.cell? ⟨gs, 0, none⟩ = some (.int .i64 x1) := (blk_cell HGS.out 0).trans rfl
      have hs1 : wd.cell? ⟨gs, 1, none⟩ = some (.int .i64 y1) := (blk_cell HGS.out 1).trans rfl
      have hs2 : wd.cell? ⟨gs, 2, none⟩ = some (.int .i64 z1) := (blk_cell HGS.out 2).trans rfl
      have hfr := blk_frozen HGS.out 1
      have HSET := Lib.hid (show (wd.setCell ⟨gs, 1, none⟩ (.int .i64 st)).heap[gs]? = some (.cells #[.int .i64 x1, .int .i64 st, .int .i64 z1] 71 (0, 0)) from by simpa using blk_set HGS.out 1 (.int .i64 st))
      have HBS := Lib.hid (HBW.out.setCell (p := ⟨gs, 1, none⟩) HSE.out.1 (.int .i64 st))
      have g0 : (wd.setCell ⟨gs, 1, none⟩ (.int .i64 st)).cell? ⟨gw, 0, none⟩ = some (.slice A0 nx.length c0) := (cell_set_other _ HSE.out.2).trans hw0
      have g1 : (wd.setCell ⟨gs, 1, none⟩ (.int .i64 st)).cell? ⟨gw, 1, none⟩ = some (.slice A1 mk.length c1) := (cell_set_other _ HSE.out.2).trans hw1
      have t0 : (wd.setCell ⟨gs, 1, none⟩ (.int .i64 st)).cell? ⟨gs, 0, none⟩ = some (.int .i64 x1) := (blk_cell HSET.out 0).trans rfl
      have t1 : (wd.setCell ⟨gs, 1, none⟩ (.int .i64 st)).cell? ⟨gs, 1, none⟩ = some (.int .i64 st) := (blk_cell HSET.out 1).trans rfl
      have t2 : (wd.setCell ⟨gs, 1, none⟩ (.int .i64 st)).cell? ⟨gs, 2, none⟩ = some (.int .i64 z1) := (blk_cell HSET.out 2).trans rfl
      go_wp2_with fail
      refine (IH.out kq (by have := HK.out; omega) x1 st z1 nxt HPP.out A0 c0 A1 c1 s ((i : Int) + 2) (i + 2) l _ (Kd.C_below HR0.out HBS.out) hc0 (Kd.C_below HR1.out HBS.out) hc1 hsz (by omega) HD2.out).mono ?_
      rintro e w1 ⟨rfl, hb⟩
      have j0_ := pw_cell_below hb g0
      have j1_ := pw_cell_below hb g1
      have n0_ := Lib.hid (below_step HBS.out hb)
      have n1_ := Lib.hid (blk_below HSET.out hb)
      clear hw0 hw1 hs0 hs1 hs2 hfr HBW HGS hb HSET HBS g0 g1 t0 t1 t2
      by_cases he : nxt = st
      · have e1 : (nxt == st) = true := beq_iff_eq.2 he
        have HE := Lib.hid he
        clear he
        go_wp2
        go_ret3
        have hf := HF1.out
        rw [if_pos HE.out] at hf
        simp only [Option.some.injEq, Prod.mk.injEq] at hf
        obtain ⟨h1, h2⟩ := hf
        exact ⟨ret3_int h1 (by omega) h2, n0_.out⟩
      · have e1 : (nxt == st) = false := beq_eq_false_iff_ne.2 he
        have HE := Lib.hid he
        clear he
        go_wp2
        go_roundg kq
        case measure => omega
        case rel =>
          have hf := HF1.out
          rw [if_neg HE.out] at hf
          exact ⟨_, _, _, _, _, rfl, rfl, by have := HK.out; exact (by omega : kq ≤ k), hf, j0_, j1_, n1_, n0_⟩

set_option maxRecDepth 100000 in
set_option maxHeartbeats 4000000 in
theorem rfix103_122 (A0 : Option Addr) (c0 : Nat) (nx : List Int) (A1 : Option Addr) (c1 : Nat) (mk : List Int) (s : ByteArray) (i : Nat) (x y z : Int) (w : World) (hr0 : Kd.C (Kd.int .i64) w A0 nx.length nx) (hc0 : nx.length ≤ c0) (hr1 : Kd.C (Kd.int .i64) w A1 mk.length mk) (hc1 : mk.length ≤ c1) (hsz : s.size ≤ 1000000000) (a : Fm) (k : Nat) (set cnt : Int) (l : List Nat) (hd : (cs s).drop i = 103 :: 122 :: (str a ++ l)) (ih : ∀ j, j < k → ∀ x y z res, rholdF nx mk j a (x, y, z) = some res → RHoldsC nx mk a x y z res) (hf : rloopF nx mk k 122 a (allOf nx) 1 (x, y, z) = some (set, cnt)) :
    Calls Try.prog 53 #[.agg #[.slice A0 nx.length c0, .slice A1 mk.length c1], .string s, .int .i64 i, .agg #[.int .i64 x, .int .i64 y, .int .i64 z]] w fun e w' => e = .returned (.tuple #[.int .i64 set, .int .i64 ((i : Int) + (((str a).length + 2 : Nat) : Int)), .int .i64 cnt]) ∧ Below w.heap.size w w' := by
  have IH := Lib.hid ih
  have HF := Lib.hid hf
  clear ih hf
  obtain ⟨hi, hch, hrest⟩ := drop_at hd
  have hi2 : (i : Int) < (s.size : Int) := by omega
  have HD := Lib.hid hrest
  clear hrest hd
  obtain ⟨hi3, hch2, hrest2⟩ := drop_at HD.out
  have HD2 := Lib.hid hrest2
  have hi4 : (i : Int) + 1 < (s.size : Int) := by omega
  have hla := app_len HD2.out (by omega)
  clear HD hrest2
  have hu := Try.underlying24
  have hu2 := Try.underlying71
  have HR0 := Lib.hid hr0
  have HR1 := Lib.hid hr1
  have hle := hr0.2.1
  have hle1 := hr1.2.1
  clear hr0 hr1
  go_enter Try.func53, Try.ntmps53
  go_wp2_with (first | ((with_reducible refine gate_dst (N := 4) rfl ?_); refine box_event ?hg (N := 4) ?hd (cs := #[.slice A0 nx.length c0, .slice A1 mk.length c1]) (t := 24) ?hr ?_; (case hd => rfl); (case hg => rfl); (case hr => first | (go_simp; done) | (go_simp; rfl)); intro gw hgw wb hbw hbb; have HGW := Lib.hid hbw; have HBW := Lib.hid (below_step (Below.refl w.heap.size w) hbb); have HGE := Lib.hid (Nat.le_of_eq hgw.symm); clear hgw hbw hbb) | ((with_reducible refine gate_dst (N := 7) rfl ?_); refine box_event ?hg (N := 7) ?hd (cs := #[.int .i64 x, .int .i64 y, .int .i64 z]) (t := 71) ?hr ?_; (case hd => rfl); (case hg => rfl); (case hr => first | (go_simp; done) | (go_simp; rfl)); intro gs hgs wc hbs hbb; have k0_ := Lib.hid (blk_below HGW.out hbb); have k1_ := Lib.hid (below_step HBW.out hbb); have HSE := Lib.hid (And.intro (Nat.le_trans HBW.out.size (Nat.le_of_eq hgs.symm)) (show gw ≠ gs from fun e => by have h1 := blk_lt HGW.out; omega)); clear HGW HBW; have HGW := k0_; have HBW := k1_; clear k0_ k1_; have HGS := Lib.hid hbs; have hw0 : wc.cell? ⟨gw, 0, none⟩ = some (.slice A0 nx.length c0) := (blk_cell HGW.out 0).trans rfl; have hw1 : wc.cell? ⟨gw, 1, none⟩ = some (.slice A1 mk.length c1) := (blk_cell HGW.out 1).trans rfl; have hs0 : wc.cell? ⟨gs, 0, none⟩ = some (.int .i64 x) := (blk_cell HGS.out 0).trans rfl; have hs1 : wc.cell? ⟨gs, 1, none⟩ = some (.int .i64 y) := (blk_cell HGS.out 1).trans rfl; have hs2 : wc.cell? ⟨gs, 2, none⟩ = some (.int .i64 z) := (blk_cell HGS.out 2).trans rfl; clear hgs hbs hbb) | fail)
  clear hs0 hs1 hs2
  go_loopg [11, 12] k (fun kq v11 v12 wr => ∃ (st ct x1 y1 z1 : Int), v11 = .int .i64 st ∧ v12 = .int .i64 ct ∧ Hid (kq ≤ k) ∧ Hid (rloopF nx mk kq 122 a st ct (x1, y1, z1) = some (set, cnt)) ∧ wr.cell? ⟨gw, 0, none⟩ = some (.slice A0 nx.length c0) ∧ wr.cell? ⟨gw, 1, none⟩ = some (.slice A1 mk.length c1) ∧ Hid (wr.heap[gs]? = some (.cells #[.int .i64 x1, .int .i64 y1, .int .i64 z1] 71 (0, 0))) ∧ Hid (Below w.heap.size w wr))
  case atStart => exact ⟨_, _, x, y, z, by first | rfl | (rw [allOf_eq]), rfl, Nat.le_refl _, HF.out, hw0, hw1, HGS.out, HBW.out⟩
  case round =>
    clear hw0 hw1 HGS HBW HF HGW
    obtain ⟨st, ct, x1, y1, z1, rfl, rfl, HK, HF, hw0, hw1, HGS, HBW⟩ := hrel
    cases gk with
    | zero => exact absurd HF.out (by simp [rloopF])
    | succ kq =>
      have hf := HF.out
      simp only [rloopF, setL] at hf
      obtain ⟨nxt, hp, hf⟩ := Option.bind_eq_some_iff.mp hf
      have HPP := Lib.hid hp
      have HF1 := Lib.hid hf
      clear hp hf HF
      go_wp2_with fail
      refine (PA.comfitref08_letter.calls ((122 : Nat) : Int) 2 _ rfl).mono ?_
      rintro e wd ⟨rfl, hd⟩
      have j0_ := cell_drawn hd hw0
      have j1_ := cell_drawn hd hw1
      have n0_ := Lib.hid (below_drawn HBW.out hd)
      have n1_ := Lib.hid (blk_drawn hd HGS.out)
      clear hw0 hw1 HBW HGS hd
      have hw0 := j0_
      have hw1 := j1_
      have HBW := n0_
      have HGS := n1_
      clear j0_ j1_ n0_ n1_
      have hs0 : wd.cell? ⟨gs, 0, none⟩ = some (.int .i64 x1) := (blk_cell HGS.out 0).trans rfl
      have hs1 : wd.cell? ⟨gs, 1, none⟩ = some (.int .i64 y1) := (blk_cell HGS.out 1).trans rfl
      have hs2 : wd.cell? ⟨gs, 2, none⟩ = some (.int .i64 z1) := (blk_cell HGS.out 2).trans rfl
      have hfr := blk_frozen HGS.out 2
      have HSET := Lib.hid (show (wd.setCell ⟨gs, 2, none⟩ (.int .i64 st)).heap[gs]? = some (.cells #[.int .i64 x1, .int .i64 y1, .int .i64 st] 71 (0, 0)) from by simpa using blk_set HGS.out 2 (.int .i64 st))
      have HBS := Lib.hid (HBW.out.setCell (p := ⟨gs, 2, none⟩) HSE.out.1 (.int .i64 st))
      have g0 : (wd.setCell ⟨gs, 2, none⟩ (.int .i64 st)).cell? ⟨gw, 0, none⟩ = some (.slice A0 nx.length c0) := (cell_set_other _ HSE.out.2).trans hw0
      have g1 : (wd.setCell ⟨gs, 2, none⟩ (.int .i64 st)).cell? ⟨gw, 1, none⟩ = some (.slice A1 mk.length c1) := (cell_set_other _ HSE.out.2).trans hw1
      have t0 : (wd.setCell ⟨gs, 2, none⟩ (.int .i64 st)).cell? ⟨gs, 0, none⟩ = some (.int .i64 x1) := (blk_cell HSET.out 0).trans rfl
      have t1 : (wd.setCell ⟨gs, 2, none⟩ (.int .i64 st)).cell? ⟨gs, 1, none⟩ = some (.int .i64 y1) := (blk_cell HSET.out 1).trans rfl
      have t2 : (wd.setCell ⟨gs, 2, none⟩ (.int .i64 st)).cell? ⟨gs, 2, none⟩ = some (.int .i64 st) := (blk_cell HSET.out 2).trans rfl
      go_wp2_with fail
      refine (IH.out kq (by have := HK.out; omega) x1 y1 st nxt HPP.out A0 c0 A1 c1 s ((i : Int) + 2) (i + 2) l _ (Kd.C_below HR0.out HBS.out) hc0 (Kd.C_below HR1.out HBS.out) hc1 hsz (by omega) HD2.out).mono ?_
      rintro e w1 ⟨rfl, hb⟩
      have j0_ := pw_cell_below hb g0
      have j1_ := pw_cell_below hb g1
      have n0_ := Lib.hid (below_step HBS.out hb)
      have n1_ := Lib.hid (blk_below HSET.out hb)
      clear hw0 hw1 hs0 hs1 hs2 hfr HBW HGS hb HSET HBS g0 g1 t0 t1 t2
      by_cases he : nxt = st
      · have e1 : (nxt == st) = true := beq_iff_eq.2 he
        have HE := Lib.hid he
        clear he
        go_wp2
        go_ret3
        have hf := HF1.out
        rw [if_pos HE.out] at hf
        simp only [Option.some.injEq, Prod.mk.injEq] at hf
        obtain ⟨h1, h2⟩ := hf
        exact ⟨ret3_int h1 (by omega) h2, n0_.out⟩
      · have e1 : (nxt == st) = false := beq_eq_false_iff_ne.2 he
        have HE := Lib.hid he
        clear he
        go_wp2
        go_roundg kq
        case measure => omega
        case rel =>
          have hf := HF1.out
          rw [if_neg HE.out] at hf
          exact ⟨_, _, _, _, _, rfl, rfl, by have := HK.out; exact (by omega : kq ≤ k), hf, j0_, j1_, n1_, n0_⟩

set_option maxRecDepth 100000 in
set_option maxHeartbeats 4000000 in
theorem rfix109_120 (A0 : Option Addr) (c0 : Nat) (nx : List Int) (A1 : Option Addr) (c1 : Nat) (mk : List Int) (s : ByteArray) (i : Nat) (x y z : Int) (w : World) (hr0 : Kd.C (Kd.int .i64) w A0 nx.length nx) (hc0 : nx.length ≤ c0) (hr1 : Kd.C (Kd.int .i64) w A1 mk.length mk) (hc1 : mk.length ≤ c1) (hsz : s.size ≤ 1000000000) (a : Fm) (k : Nat) (set cnt : Int) (l : List Nat) (hd : (cs s).drop i = 109 :: 120 :: (str a ++ l)) (ih : ∀ j, j < k → ∀ x y z res, rholdF nx mk j a (x, y, z) = some res → RHoldsC nx mk a x y z res) (hf : rloopF nx mk k 120 a 0 1 (x, y, z) = some (set, cnt)) :
    Calls Try.prog 53 #[.agg #[.slice A0 nx.length c0, .slice A1 mk.length c1], .string s, .int .i64 i, .agg #[.int .i64 x, .int .i64 y, .int .i64 z]] w fun e w' => e = .returned (.tuple #[.int .i64 set, .int .i64 ((i : Int) + (((str a).length + 2 : Nat) : Int)), .int .i64 cnt]) ∧ Below w.heap.size w w' := by
  have IH := Lib.hid ih
  have HF := Lib.hid hf
  clear ih hf
  obtain ⟨hi, hch, hrest⟩ := drop_at hd
  have hi2 : (i : Int) < (s.size : Int) := by omega
  have HD := Lib.hid hrest
  clear hrest hd
  obtain ⟨hi3, hch2, hrest2⟩ := drop_at HD.out
  have HD2 := Lib.hid hrest2
  have hi4 : (i : Int) + 1 < (s.size : Int) := by omega
  have hla := app_len HD2.out (by omega)
  clear HD hrest2
  have hu := Try.underlying24
  have hu2 := Try.underlying71
  have HR0 := Lib.hid hr0
  have HR1 := Lib.hid hr1
  have hle := hr0.2.1
  have hle1 := hr1.2.1
  clear hr0 hr1
  go_enter Try.func53, Try.ntmps53
  go_wp2_with (first | ((with_reducible refine gate_dst (N := 4) rfl ?_); refine box_event ?hg (N := 4) ?hd (cs := #[.slice A0 nx.length c0, .slice A1 mk.length c1]) (t := 24) ?hr ?_; (case hd => rfl); (case hg => rfl); (case hr => first | (go_simp; done) | (go_simp; rfl)); intro gw hgw wb hbw hbb; have HGW := Lib.hid hbw; have HBW := Lib.hid (below_step (Below.refl w.heap.size w) hbb); have HGE := Lib.hid (Nat.le_of_eq hgw.symm); clear hgw hbw hbb) | ((with_reducible refine gate_dst (N := 7) rfl ?_); refine box_event ?hg (N := 7) ?hd (cs := #[.int .i64 x, .int .i64 y, .int .i64 z]) (t := 71) ?hr ?_; (case hd => rfl); (case hg => rfl); (case hr => first | (go_simp; done) | (go_simp; rfl)); intro gs hgs wc hbs hbb; have k0_ := Lib.hid (blk_below HGW.out hbb); have k1_ := Lib.hid (below_step HBW.out hbb); have HSE := Lib.hid (And.intro (Nat.le_trans HBW.out.size (Nat.le_of_eq hgs.symm)) (show gw ≠ gs from fun e => by have h1 := blk_lt HGW.out; omega)); clear HGW HBW; have HGW := k0_; have HBW := k1_; clear k0_ k1_; have HGS := Lib.hid hbs; have hw0 : wc.cell? ⟨gw, 0, none⟩ = some (.slice A0 nx.length c0) := (blk_cell HGW.out 0).trans rfl; have hw1 : wc.cell? ⟨gw, 1, none⟩ = some (.slice A1 mk.length c1) := (blk_cell HGW.out 1).trans rfl; have hs0 : wc.cell? ⟨gs, 0, none⟩ = some (.int .i64 x) := (blk_cell HGS.out 0).trans rfl; have hs1 : wc.cell? ⟨gs, 1, none⟩ = some (.int .i64 y) := (blk_cell HGS.out 1).trans rfl; have hs2 : wc.cell? ⟨gs, 2, none⟩ = some (.int .i64 z) := (blk_cell HGS.out 2).trans rfl; clear hgs hbs hbb) | fail)
  clear hs0 hs1 hs2
  go_loopg [11, 12] k (fun kq v11 v12 wr => ∃ (st ct x1 y1 z1 : Int), v11 = .int .i64 st ∧ v12 = .int .i64 ct ∧ Hid (kq ≤ k) ∧ Hid (rloopF nx mk kq 120 a st ct (x1, y1, z1) = some (set, cnt)) ∧ wr.cell? ⟨gw, 0, none⟩ = some (.slice A0 nx.length c0) ∧ wr.cell? ⟨gw, 1, none⟩ = some (.slice A1 mk.length c1) ∧ Hid (wr.heap[gs]? = some (.cells #[.int .i64 x1, .int .i64 y1, .int .i64 z1] 71 (0, 0))) ∧ Hid (Below w.heap.size w wr))
  case atStart => exact ⟨_, _, x, y, z, by first | rfl | (rw [allOf_eq]), rfl, Nat.le_refl _, HF.out, hw0, hw1, HGS.out, HBW.out⟩
  case round =>
    clear hw0 hw1 HGS HBW HF HGW
    obtain ⟨st, ct, x1, y1, z1, rfl, rfl, HK, HF, hw0, hw1, HGS, HBW⟩ := hrel
    cases gk with
    | zero => exact absurd HF.out (by simp [rloopF])
    | succ kq =>
      have hf := HF.out
      simp only [rloopF, setL] at hf
      obtain ⟨nxt, hp, hf⟩ := Option.bind_eq_some_iff.mp hf
      have HPP := Lib.hid hp
      have HF1 := Lib.hid hf
      clear hp hf HF
      go_wp2_with fail
      refine (PA.comfitref08_letter.calls ((120 : Nat) : Int) 0 _ rfl).mono ?_
      rintro e wd ⟨rfl, hd⟩
      have j0_ := cell_drawn hd hw0
      have j1_ := cell_drawn hd hw1
      have n0_ := Lib.hid (below_drawn HBW.out hd)
      have n1_ := Lib.hid (blk_drawn hd HGS.out)
      clear hw0 hw1 HBW HGS hd
      have hw0 := j0_
      have hw1 := j1_
      have HBW := n0_
      have HGS := n1_
      clear j0_ j1_ n0_ n1_
      have hs0 : wd.cell? ⟨gs, 0, none⟩ = some (.int .i64 x1) := (blk_cell HGS.out 0).trans rfl
      have hs1 : wd.cell? ⟨gs, 1, none⟩ = some (.int .i64 y1) := (blk_cell HGS.out 1).trans rfl
      have hs2 : wd.cell? ⟨gs, 2, none⟩ = some (.int .i64 z1) := (blk_cell HGS.out 2).trans rfl
      have hfr := blk_frozen HGS.out 0
      have HSET := Lib.hid (show (wd.setCell ⟨gs, 0, none⟩ (.int .i64 st)).heap[gs]? = some (.cells #[.int .i64 st, .int .i64 y1, .int .i64 z1] 71 (0, 0)) from by simpa using blk_set HGS.out 0 (.int .i64 st))
      have HBS := Lib.hid (HBW.out.setCell (p := ⟨gs, 0, none⟩) HSE.out.1 (.int .i64 st))
      have g0 : (wd.setCell ⟨gs, 0, none⟩ (.int .i64 st)).cell? ⟨gw, 0, none⟩ = some (.slice A0 nx.length c0) := (cell_set_other _ HSE.out.2).trans hw0
      have g1 : (wd.setCell ⟨gs, 0, none⟩ (.int .i64 st)).cell? ⟨gw, 1, none⟩ = some (.slice A1 mk.length c1) := (cell_set_other _ HSE.out.2).trans hw1
      have t0 : (wd.setCell ⟨gs, 0, none⟩ (.int .i64 st)).cell? ⟨gs, 0, none⟩ = some (.int .i64 st) := (blk_cell HSET.out 0).trans rfl
      have t1 : (wd.setCell ⟨gs, 0, none⟩ (.int .i64 st)).cell? ⟨gs, 1, none⟩ = some (.int .i64 y1) := (blk_cell HSET.out 1).trans rfl
      have t2 : (wd.setCell ⟨gs, 0, none⟩ (.int .i64 st)).cell? ⟨gs, 2, none⟩ = some (.int .i64 z1) := (blk_cell HSET.out 2).trans rfl
      go_wp2_with fail
      refine (IH.out kq (by have := HK.out; omega) st y1 z1 nxt HPP.out A0 c0 A1 c1 s ((i : Int) + 2) (i + 2) l _ (Kd.C_below HR0.out HBS.out) hc0 (Kd.C_below HR1.out HBS.out) hc1 hsz (by omega) HD2.out).mono ?_
      rintro e w1 ⟨rfl, hb⟩
      have j0_ := pw_cell_below hb g0
      have j1_ := pw_cell_below hb g1
      have n0_ := Lib.hid (below_step HBS.out hb)
      have n1_ := Lib.hid (blk_below HSET.out hb)
      clear hw0 hw1 hs0 hs1 hs2 hfr HBW HGS hb HSET HBS g0 g1 t0 t1 t2
      by_cases he : nxt = st
      · have e1 : (nxt == st) = true := beq_iff_eq.2 he
        have HE := Lib.hid he
        clear he
        go_wp2
        go_ret3
        have hf := HF1.out
        rw [if_pos HE.out] at hf
        simp only [Option.some.injEq, Prod.mk.injEq] at hf
        obtain ⟨h1, h2⟩ := hf
        exact ⟨ret3_int h1 (by omega) h2, n0_.out⟩
      · have e1 : (nxt == st) = false := beq_eq_false_iff_ne.2 he
        have HE := Lib.hid he
        clear he
        go_wp2
        go_roundg kq
        case measure => omega
        case rel =>
          have hf := HF1.out
          rw [if_neg HE.out] at hf
          exact ⟨_, _, _, _, _, rfl, rfl, by have := HK.out; exact (by omega : kq ≤ k), hf, j0_, j1_, n1_, n0_⟩

set_option maxRecDepth 100000 in
set_option maxHeartbeats 4000000 in
theorem rfix109_121 (A0 : Option Addr) (c0 : Nat) (nx : List Int) (A1 : Option Addr) (c1 : Nat) (mk : List Int) (s : ByteArray) (i : Nat) (x y z : Int) (w : World) (hr0 : Kd.C (Kd.int .i64) w A0 nx.length nx) (hc0 : nx.length ≤ c0) (hr1 : Kd.C (Kd.int .i64) w A1 mk.length mk) (hc1 : mk.length ≤ c1) (hsz : s.size ≤ 1000000000) (a : Fm) (k : Nat) (set cnt : Int) (l : List Nat) (hd : (cs s).drop i = 109 :: 121 :: (str a ++ l)) (ih : ∀ j, j < k → ∀ x y z res, rholdF nx mk j a (x, y, z) = some res → RHoldsC nx mk a x y z res) (hf : rloopF nx mk k 121 a 0 1 (x, y, z) = some (set, cnt)) :
    Calls Try.prog 53 #[.agg #[.slice A0 nx.length c0, .slice A1 mk.length c1], .string s, .int .i64 i, .agg #[.int .i64 x, .int .i64 y, .int .i64 z]] w fun e w' => e = .returned (.tuple #[.int .i64 set, .int .i64 ((i : Int) + (((str a).length + 2 : Nat) : Int)), .int .i64 cnt]) ∧ Below w.heap.size w w' := by
  have IH := Lib.hid ih
  have HF := Lib.hid hf
  clear ih hf
  obtain ⟨hi, hch, hrest⟩ := drop_at hd
  have hi2 : (i : Int) < (s.size : Int) := by omega
  have HD := Lib.hid hrest
  clear hrest hd
  obtain ⟨hi3, hch2, hrest2⟩ := drop_at HD.out
  have HD2 := Lib.hid hrest2
  have hi4 : (i : Int) + 1 < (s.size : Int) := by omega
  have hla := app_len HD2.out (by omega)
  clear HD hrest2
  have hu := Try.underlying24
  have hu2 := Try.underlying71
  have HR0 := Lib.hid hr0
  have HR1 := Lib.hid hr1
  have hle := hr0.2.1
  have hle1 := hr1.2.1
  clear hr0 hr1
  go_enter Try.func53, Try.ntmps53
  go_wp2_with (first | ((with_reducible refine gate_dst (N := 4) rfl ?_); refine box_event ?hg (N := 4) ?hd (cs := #[.slice A0 nx.length c0, .slice A1 mk.length c1]) (t := 24) ?hr ?_; (case hd => rfl); (case hg => rfl); (case hr => first | (go_simp; done) | (go_simp; rfl)); intro gw hgw wb hbw hbb; have HGW := Lib.hid hbw; have HBW := Lib.hid (below_step (Below.refl w.heap.size w) hbb); have HGE := Lib.hid (Nat.le_of_eq hgw.symm); clear hgw hbw hbb) | ((with_reducible refine gate_dst (N := 7) rfl ?_); refine box_event ?hg (N := 7) ?hd (cs := #[.int .i64 x, .int .i64 y, .int .i64 z]) (t := 71) ?hr ?_; (case hd => rfl); (case hg => rfl); (case hr => first | (go_simp; done) | (go_simp; rfl)); intro gs hgs wc hbs hbb; have k0_ := Lib.hid (blk_below HGW.out hbb); have k1_ := Lib.hid (below_step HBW.out hbb); have HSE := Lib.hid (And.intro (Nat.le_trans HBW.out.size (Nat.le_of_eq hgs.symm)) (show gw ≠ gs from fun e => by have h1 := blk_lt HGW.out; omega)); clear HGW HBW; have HGW := k0_; have HBW := k1_; clear k0_ k1_; have HGS := Lib.hid hbs; have hw0 : wc.cell? ⟨gw, 0, none⟩ = some (.slice A0 nx.length c0) := (blk_cell HGW.out 0).trans rfl; have hw1 : wc.cell? ⟨gw, 1, none⟩ = some (.slice A1 mk.length c1) := (blk_cell HGW.out 1).trans rfl; have hs0 : wc.cell? ⟨gs, 0, none⟩ = some (.int .i64 x) := (blk_cell HGS.out 0).trans rfl; have hs1 : wc.cell? ⟨gs, 1, none⟩ = some (.int .i64 y) := (blk_cell HGS.out 1).trans rfl; have hs2 : wc.cell? ⟨gs, 2, none⟩ = some (.int .i64 z) := (blk_cell HGS.out 2).trans rfl; clear hgs hbs hbb) | fail)
  clear hs0 hs1 hs2
  go_loopg [11, 12] k (fun kq v11 v12 wr => ∃ (st ct x1 y1 z1 : Int), v11 = .int .i64 st ∧ v12 = .int .i64 ct ∧ Hid (kq ≤ k) ∧ Hid (rloopF nx mk kq 121 a st ct (x1, y1, z1) = some (set, cnt)) ∧ wr.cell? ⟨gw, 0, none⟩ = some (.slice A0 nx.length c0) ∧ wr.cell? ⟨gw, 1, none⟩ = some (.slice A1 mk.length c1) ∧ Hid (wr.heap[gs]? = some (.cells #[.int .i64 x1, .int .i64 y1, .int .i64 z1] 71 (0, 0))) ∧ Hid (Below w.heap.size w wr))
  case atStart => exact ⟨_, _, x, y, z, by first | rfl | (rw [allOf_eq]), rfl, Nat.le_refl _, HF.out, hw0, hw1, HGS.out, HBW.out⟩
  case round =>
    clear hw0 hw1 HGS HBW HF HGW
    obtain ⟨st, ct, x1, y1, z1, rfl, rfl, HK, HF, hw0, hw1, HGS, HBW⟩ := hrel
    cases gk with
    | zero => exact absurd HF.out (by simp [rloopF])
    | succ kq =>
      have hf := HF.out
      simp only [rloopF, setL] at hf
      obtain ⟨nxt, hp, hf⟩ := Option.bind_eq_some_iff.mp hf
      have HPP := Lib.hid hp
      have HF1 := Lib.hid hf
      clear hp hf HF
      go_wp2_with fail
      refine (PA.comfitref08_letter.calls ((121 : Nat) : Int) 1 _ rfl).mono ?_
      rintro e wd ⟨rfl, hd⟩
      have j0_ := cell_drawn hd hw0
      have j1_ := cell_drawn hd hw1
      have n0_ := Lib.hid (below_drawn HBW.out hd)
      have n1_ := Lib.hid (blk_drawn hd HGS.out)
      clear hw0 hw1 HBW HGS hd
      have hw0 := j0_
      have hw1 := j1_
      have HBW := n0_
      have HGS := n1_
      clear j0_ j1_ n0_ n1_
      have hs0 : wd.cell? ⟨gs, 0, none⟩ = some (.int .i64 x1) := (blk_cell HGS.out 0).trans rfl
      have hs1 : wd.cell? ⟨gs, 1, none⟩ = some (.int .i64 y1) := (blk_cell HGS.out 1).trans rfl
      have hs2 : wd.cell? ⟨gs, 2, none⟩ = some (.int .i64 z1) := (blk_cell HGS.out 2).trans rfl
      have hfr := blk_frozen HGS.out 1
      have HSET := Lib.hid (show (wd.setCell ⟨gs, 1, none⟩ (.int .i64 st)).heap[gs]? = some (.cells #[.int .i64 x1, .int .i64 st, .int .i64 z1] 71 (0, 0)) from by simpa using blk_set HGS.out 1 (.int .i64 st))
      have HBS := Lib.hid (HBW.out.setCell (p := ⟨gs, 1, none⟩) HSE.out.1 (.int .i64 st))
      have g0 : (wd.setCell ⟨gs, 1, none⟩ (.int .i64 st)).cell? ⟨gw, 0, none⟩ = some (.slice A0 nx.length c0) := (cell_set_other _ HSE.out.2).trans hw0
      have g1 : (wd.setCell ⟨gs, 1, none⟩ (.int .i64 st)).cell? ⟨gw, 1, none⟩ = some (.slice A1 mk.length c1) := (cell_set_other _ HSE.out.2).trans hw1
      have t0 : (wd.setCell ⟨gs, 1, none⟩ (.int .i64 st)).cell? ⟨gs, 0, none⟩ = some (.int .i64 x1) := (blk_cell HSET.out 0).trans rfl
      have t1 : (wd.setCell ⟨gs, 1, none⟩ (.int .i64 st)).cell? ⟨gs, 1, none⟩ = some (.int .i64 st) := (blk_cell HSET.out 1).trans rfl
      have t2 : (wd.setCell ⟨gs, 1, none⟩ (.int .i64 st)).cell? ⟨gs, 2, none⟩ = some (.int .i64 z1) := (blk_cell HSET.out 2).trans rfl
      go_wp2_with fail
      refine (IH.out kq (by have := HK.out; omega) x1 st z1 nxt HPP.out A0 c0 A1 c1 s ((i : Int) + 2) (i + 2) l _ (Kd.C_below HR0.out HBS.out) hc0 (Kd.C_below HR1.out HBS.out) hc1 hsz (by omega) HD2.out).mono ?_
      rintro e w1 ⟨rfl, hb⟩
      have j0_ := pw_cell_below hb g0
      have j1_ := pw_cell_below hb g1
      have n0_ := Lib.hid (below_step HBS.out hb)
      have n1_ := Lib.hid (blk_below HSET.out hb)
      clear hw0 hw1 hs0 hs1 hs2 hfr HBW HGS hb HSET HBS g0 g1 t0 t1 t2
      by_cases he : nxt = st
      · have e1 : (nxt == st) = true := beq_iff_eq.2 he
        have HE := Lib.hid he
        clear he
        go_wp2
        go_ret3
        have hf := HF1.out
        rw [if_pos HE.out] at hf
        simp only [Option.some.injEq, Prod.mk.injEq] at hf
        obtain ⟨h1, h2⟩ := hf
        exact ⟨ret3_int h1 (by omega) h2, n0_.out⟩
      · have e1 : (nxt == st) = false := beq_eq_false_iff_ne.2 he
        have HE := Lib.hid he
        clear he
        go_wp2
        go_roundg kq
        case measure => omega
        case rel =>
          have hf := HF1.out
          rw [if_neg HE.out] at hf
          exact ⟨_, _, _, _, _, rfl, rfl, by have := HK.out; exact (by omega : kq ≤ k), hf, j0_, j1_, n1_, n0_⟩

set_option maxRecDepth 100000 in
set_option maxHeartbeats 4000000 in
theorem rfix109_122 (A0 : Option Addr) (c0 : Nat) (nx : List Int) (A1 : Option Addr) (c1 : Nat) (mk : List Int) (s : ByteArray) (i : Nat) (x y z : Int) (w : World) (hr0 : Kd.C (Kd.int .i64) w A0 nx.length nx) (hc0 : nx.length ≤ c0) (hr1 : Kd.C (Kd.int .i64) w A1 mk.length mk) (hc1 : mk.length ≤ c1) (hsz : s.size ≤ 1000000000) (a : Fm) (k : Nat) (set cnt : Int) (l : List Nat) (hd : (cs s).drop i = 109 :: 122 :: (str a ++ l)) (ih : ∀ j, j < k → ∀ x y z res, rholdF nx mk j a (x, y, z) = some res → RHoldsC nx mk a x y z res) (hf : rloopF nx mk k 122 a 0 1 (x, y, z) = some (set, cnt)) :
    Calls Try.prog 53 #[.agg #[.slice A0 nx.length c0, .slice A1 mk.length c1], .string s, .int .i64 i, .agg #[.int .i64 x, .int .i64 y, .int .i64 z]] w fun e w' => e = .returned (.tuple #[.int .i64 set, .int .i64 ((i : Int) + (((str a).length + 2 : Nat) : Int)), .int .i64 cnt]) ∧ Below w.heap.size w w' := by
  have IH := Lib.hid ih
  have HF := Lib.hid hf
  clear ih hf
  obtain ⟨hi, hch, hrest⟩ := drop_at hd
  have hi2 : (i : Int) < (s.size : Int) := by omega
  have HD := Lib.hid hrest
  clear hrest hd
  obtain ⟨hi3, hch2, hrest2⟩ := drop_at HD.out
  have HD2 := Lib.hid hrest2
  have hi4 : (i : Int) + 1 < (s.size : Int) := by omega
  have hla := app_len HD2.out (by omega)
  clear HD hrest2
  have hu := Try.underlying24
  have hu2 := Try.underlying71
  have HR0 := Lib.hid hr0
  have HR1 := Lib.hid hr1
  have hle := hr0.2.1
  have hle1 := hr1.2.1
  clear hr0 hr1
  go_enter Try.func53, Try.ntmps53
  go_wp2_with (first | ((with_reducible refine gate_dst (N := 4) rfl ?_); refine box_event ?hg (N := 4) ?hd (cs := #[.slice A0 nx.length c0, .slice A1 mk.length c1]) (t := 24) ?hr ?_; (case hd => rfl); (case hg => rfl); (case hr => first | (go_simp; done) | (go_simp; rfl)); intro gw hgw wb hbw hbb; have HGW := Lib.hid hbw; have HBW := Lib.hid (below_step (Below.refl w.heap.size w) hbb); have HGE := Lib.hid (Nat.le_of_eq hgw.symm); clear hgw hbw hbb) | ((with_reducible refine gate_dst (N := 7) rfl ?_); refine box_event ?hg (N := 7) ?hd (cs := #[.int .i64 x, .int .i64 y, .int .i64 z]) (t := 71) ?hr ?_; (case hd => rfl); (case hg => rfl); (case hr => first | (go_simp; done) | (go_simp; rfl)); intro gs hgs wc hbs hbb; have k0_ := Lib.hid (blk_below HGW.out hbb); have k1_ := Lib.hid (below_step HBW.out hbb); have HSE := Lib.hid (And.intro (Nat.le_trans HBW.out.size (Nat.le_of_eq hgs.symm)) (show gw ≠ gs from fun e => by have h1 := blk_lt HGW.out; omega)); clear HGW HBW; have HGW := k0_; have HBW := k1_; clear k0_ k1_; have HGS := Lib.hid hbs; have hw0 : wc.cell? ⟨gw, 0, none⟩ = some (.slice A0 nx.length c0) := (blk_cell HGW.out 0).trans rfl; have hw1 : wc.cell? ⟨gw, 1, none⟩ = some (.slice A1 mk.length c1) := (blk_cell HGW.out 1).trans rfl; have hs0 : wc.cell? ⟨gs, 0, none⟩ = some (.int .i64 x) := (blk_cell HGS.out 0).trans rfl; have hs1 : wc.cell? ⟨gs, 1, none⟩ = some (.int .i64 y) := (blk_cell HGS.out 1).trans rfl; have hs2 : wc.cell? ⟨gs, 2, none⟩ = some (.int .i64 z) := (blk_cell HGS.out 2).trans rfl; clear hgs hbs hbb) | fail)
  clear hs0 hs1 hs2
  go_loopg [11, 12] k (fun kq v11 v12 wr => ∃ (st ct x1 y1 z1 : Int), v11 = .int .i64 st ∧ v12 = .int .i64 ct ∧ Hid (kq ≤ k) ∧ Hid (rloopF nx mk kq 122 a st ct (x1, y1, z1) = some (set, cnt)) ∧ wr.cell? ⟨gw, 0, none⟩ = some (.slice A0 nx.length c0) ∧ wr.cell? ⟨gw, 1, none⟩ = some (.slice A1 mk.length c1) ∧ Hid (wr.heap[gs]? = some (.cells #[.int .i64 x1, .int .i64 y1, .int .i64 z1] 71 (0, 0))) ∧ Hid (Below w.heap.size w wr))
  case atStart => exact ⟨_, _, x, y, z, by first | rfl | (rw [allOf_eq]), rfl, Nat.le_refl _, HF.out, hw0, hw1, HGS.out, HBW.out⟩
  case round =>
    clear hw0 hw1 HGS HBW HF HGW
    obtain ⟨st, ct, x1, y1, z1, rfl, rfl, HK, HF, hw0, hw1, HGS, HBW⟩ := hrel
    cases gk with
    | zero => exact absurd HF.out (by simp [rloopF])
    | succ kq =>
      have hf := HF.out
      simp only [rloopF, setL] at hf
      obtain ⟨nxt, hp, hf⟩ := Option.bind_eq_some_iff.mp hf
      have HPP := Lib.hid hp
      have HF1 := Lib.hid hf
      clear hp hf HF
      go_wp2_with fail
      refine (PA.comfitref08_letter.calls ((122 : Nat) : Int) 2 _ rfl).mono ?_
      rintro e wd ⟨rfl, hd⟩
      have j0_ := cell_drawn hd hw0
      have j1_ := cell_drawn hd hw1
      have n0_ := Lib.hid (below_drawn HBW.out hd)
      have n1_ := Lib.hid (blk_drawn hd HGS.out)
      clear hw0 hw1 HBW HGS hd
      have hw0 := j0_
      have hw1 := j1_
      have HBW := n0_
      have HGS := n1_
      clear j0_ j1_ n0_ n1_
      have hs0 : wd.cell? ⟨gs, 0, none⟩ = some (.int .i64 x1) := (blk_cell HGS.out 0).trans rfl
      have hs1 : wd.cell? ⟨gs, 1, none⟩ = some (.int .i64 y1) := (blk_cell HGS.out 1).trans rfl
      have hs2 : wd.cell? ⟨gs, 2, none⟩ = some (.int .i64 z1) := (blk_cell HGS.out 2).trans rfl
      have hfr := blk_frozen HGS.out 2
      have HSET := Lib.hid (show (wd.setCell ⟨gs, 2, none⟩ (.int .i64 st)).heap[gs]? = some (.cells #[.int .i64 x1, .int .i64 y1, .int .i64 st] 71 (0, 0)) from by simpa using blk_set HGS.out 2 (.int .i64 st))
      have HBS := Lib.hid (HBW.out.setCell (p := ⟨gs, 2, none⟩) HSE.out.1 (.int .i64 st))
      have g0 : (wd.setCell ⟨gs, 2, none⟩ (.int .i64 st)).cell? ⟨gw, 0, none⟩ = some (.slice A0 nx.length c0) := (cell_set_other _ HSE.out.2).trans hw0
      have g1 : (wd.setCell ⟨gs, 2, none⟩ (.int .i64 st)).cell? ⟨gw, 1, none⟩ = some (.slice A1 mk.length c1) := (cell_set_other _ HSE.out.2).trans hw1
      have t0 : (wd.setCell ⟨gs, 2, none⟩ (.int .i64 st)).cell? ⟨gs, 0, none⟩ = some (.int .i64 x1) := (blk_cell HSET.out 0).trans rfl
      have t1 : (wd.setCell ⟨gs, 2, none⟩ (.int .i64 st)).cell? ⟨gs, 1, none⟩ = some (.int .i64 y1) := (blk_cell HSET.out 1).trans rfl
      have t2 : (wd.setCell ⟨gs, 2, none⟩ (.int .i64 st)).cell? ⟨gs, 2, none⟩ = some (.int .i64 st) := (blk_cell HSET.out 2).trans rfl
      go_wp2_with fail
      refine (IH.out kq (by have := HK.out; omega) x1 y1 st nxt HPP.out A0 c0 A1 c1 s ((i : Int) + 2) (i + 2) l _ (Kd.C_below HR0.out HBS.out) hc0 (Kd.C_below HR1.out HBS.out) hc1 hsz (by omega) HD2.out).mono ?_
      rintro e w1 ⟨rfl, hb⟩
      have j0_ := pw_cell_below hb g0
      have j1_ := pw_cell_below hb g1
      have n0_ := Lib.hid (below_step HBS.out hb)
      have n1_ := Lib.hid (blk_below HSET.out hb)
      clear hw0 hw1 hs0 hs1 hs2 hfr HBW HGS hb HSET HBS g0 g1 t0 t1 t2
      by_cases he : nxt = st
      · have e1 : (nxt == st) = true := beq_iff_eq.2 he
        have HE := Lib.hid he
        clear he
        go_wp2
        go_ret3
        have hf := HF1.out
        rw [if_pos HE.out] at hf
        simp only [Option.some.injEq, Prod.mk.injEq] at hf
        obtain ⟨h1, h2⟩ := hf
        exact ⟨ret3_int h1 (by omega) h2, n0_.out⟩
      · have e1 : (nxt == st) = false := beq_eq_false_iff_ne.2 he
        have HE := Lib.hid he
        clear he
        go_wp2
        go_roundg kq
        case measure => omega
        case rel =>
          have hf := HF1.out
          rw [if_neg HE.out] at hf
          exact ⟨_, _, _, _, _, rfl, rfl, by have := HK.out; exact (by omega : kq ≤ k), hf, j0_, j1_, n1_, n0_⟩

end Go.Proofs.Ytjffhhalmicodaa.X
