-- Printed by wip/tools/xprint.py, a program of this repo, which runs the kit's printer over hand-written contracts.
import Derived.Test.YtjffhhalmicodaaPDx0
namespace Go.Proofs.Ytjffhhalmicodaa.PD
open Go.RowKit Go.Proofs.YtjffhhalmicodaaW.PrintWords Go.Proofs.YtjffhhalmicodaaW.PrintLast Go.Proofs.YtjffhhalmicodaaW.PrintMore
attribute [local go_sem] max2_int min2_int max_two min_two max_three min_three max_four min_four   -- for this text's walks alone
set_option linter.unusedVariables false
set_option linter.unusedSimpArgs false

-- NOT PRINTED: function 93 (bytealg_IndexByteString)

-- NOT PRINTED: function 92 (stringslite_IndexByte)

-- NOT PRINTED: function 88 (strings_IndexByte)

-- NOT PRINTED: function 89 (fixes_reader_fix)

-- NOT PRINTED: function 75 (fixes_reader_read)

-- NOT PRINTED: function 49 (fixes_parse)

-- NOT PRINTED: function 46 (fixes_read)

-- NOT PRINTED: function 52 (fixes_Works_fix)

-- NOT PRINTED: function 55 (fixes_Works_where)

-- NOT PRINTED: function 47 (fixes_Works_holds)

/-! ### comfitlaw08_FixesWays: function 7 -/
mutual
def comfitlaw08_FixesWays.j0 : Nat → Int → ByteArray → Int → Int → Bool → List Int → List Int → Option (Bool)
  | 0, _, _, _, _, _, _, _ => none
  | k + 1, x1, x5, x6, x7, x40, x102000, x102001 => if x40 = true then (if x7 = 2 then ((Go.Proofs.Ytjffhhalmicodaa.PB.comfitlaw08_awake.f k).bind fun t111 => (some t111)) else (some false)) else (comfitlaw08_FixesWays.l0 k x1 x5 x6 0 x102001 (x102001.length : Int) 0 x102000 x102001)
def comfitlaw08_FixesWays.l0 : Nat → Int → ByteArray → Int → Int → List Int → Int → Int → List Int → List Int → Option (Bool)
  | 0, _, _, _, _, _, _, _, _, _ => none
  | k + 1, x1, x5, x6, x8, x47, x48, x49, x102000, x102001 => if x49 < x48 then (if 0 ≤ x49 then (if x49 < (x47.length : Int) then (if 0 ≤ x1 then (comfitlaw08_FixesWays.l0 k x1 x5 x6 (Go.bits .or .i64 x8 (shl .i64 (Go.bits .and .i64 (shr .i64 (rd x47 x49) x1) 1) x49)) x47 x48 (wrap64 (x49 + 1)) x102000 x102001) else (none)) else (none)) else (none)) else ((Go.Proofs.Ytjffhhalmicodaa.PA.comfitlaw08_Of.f x102000 x102001).bind fun bt113 => ((Go.Proofs.Ytjffhhalmicodaa.X.fixes_Reach.f bt113.1 bt113.2 x6).bind fun bt119 => ((Go.Proofs.Ytjffhhalmicodaa.PA.comfitlaw08_Of.f x102000 x102001).bind fun bt121 => ((Go.Proofs.Ytjffhhalmicodaa.X.fixes_Always.f bt121.1 bt121.2 x6).bind fun bt127 => ((Go.Proofs.Ytjffhhalmicodaa.PA.comfitlaw08_Of.f x102000 x102001).bind fun bt129 => (if 3 + x5.size ≤ 9223372036854775807 then (if ((⟨#[109, 120, 124]⟩ : ByteArray) ++ x5).size + 2 ≤ 9223372036854775807 then ((Go.Proofs.Ytjffhhalmicodaa.X.fixes_Holds.f k bt129.1 bt129.2 (((⟨#[109, 120, 124]⟩ : ByteArray) ++ x5) ++ (⟨#[60, 120]⟩ : ByteArray))).bind fun bt135 => ((Go.Proofs.Ytjffhhalmicodaa.PA.comfitlaw08_Of.f x102000 x102001).bind fun bt137 => (if ((⟨#[103, 120, 38]⟩ : ByteArray) ++ x5).size + 2 ≤ 9223372036854775807 then ((Go.Proofs.Ytjffhhalmicodaa.X.fixes_Holds.f k bt137.1 bt137.2 (((⟨#[103, 120, 38]⟩ : ByteArray) ++ x5) ++ (⟨#[60, 120]⟩ : ByteArray))).bind fun bt143 => (if x6 = x8 then (if bt119.2 = 0 then (if bt127.2 = 0 then (if bt135.2 = 0 then (if bt143.2 = 0 then (if bt119.1 = bt135.1 then (if bt127.1 = bt143.1 then (if (Go.bits .andNot .i64 x6 bt119.1) = 0 then (if (Go.bits .andNot .i64 bt127.1 x6) = 0 then ((Go.Proofs.Ytjffhhalmicodaa.PB.comfitlaw08_awake.f k).bind fun t145 => (some t145)) else (some false)) else (some false)) else (some false)) else (some false)) else (some false)) else (some false)) else (some false)) else (some false)) else (some false))) else (none)))) else (none)) else (none)))))))
end
def comfitlaw08_FixesWays.f (k : Nat) (l0_0 : List Int) (l0_1 : List Int) (a1 : Int) : Option (Bool) := (Go.Proofs.Ytjffhhalmicodaa.PA.comfitlaw08_Of.f l0_0 l0_1).bind fun bt102 => ((Go.Proofs.Ytjffhhalmicodaa.X.fixes_Holds.f k bt102.1 bt102.2 (Go.Utf8.encode (wrap32 (wrap64 (48 + (wrap64 (Int.tmod (IntKind.u64.wrap (a1)) 4))))))).bind fun bt108 => (if bt108.2 = 0 then ((Go.Proofs.Ytjffhhalmicodaa.PB.comfitref08_Valid.f k l0_0 l0_1).bind fun t110 => (comfitlaw08_FixesWays.j0 k (wrap64 (Int.tmod (IntKind.u64.wrap (a1)) 4)) (Go.Utf8.encode (wrap32 (wrap64 (48 + (wrap64 (Int.tmod (IntKind.u64.wrap (a1)) 4)))))) bt108.1 bt108.2 (!t110) l0_0 l0_1)) else (comfitlaw08_FixesWays.j0 k (wrap64 (Int.tmod (IntKind.u64.wrap (a1)) 4)) (Go.Utf8.encode (wrap32 (wrap64 (48 + (wrap64 (Int.tmod (IntKind.u64.wrap (a1)) 4)))))) bt108.1 bt108.2 true l0_0 l0_1)))
theorem comfitlaw08_FixesWays.mono_l : ∀ k, (∀ y0 y1 y2 y3 y4 y5 y6, LeO (comfitlaw08_FixesWays.j0 k y0 y1 y2 y3 y4 y5 y6) (comfitlaw08_FixesWays.j0 (k + 1) y0 y1 y2 y3 y4 y5 y6)) ∧ (∀ y0 y1 y2 y3 y4 y5 y6 y7 y8, LeO (comfitlaw08_FixesWays.l0 k y0 y1 y2 y3 y4 y5 y6 y7 y8) (comfitlaw08_FixesWays.l0 (k + 1) y0 y1 y2 y3 y4 y5 y6 y7 y8))
  | 0 => ⟨fun _ _ _ _ _ _ _ r h => by simp [comfitlaw08_FixesWays.j0] at h, fun _ _ _ _ _ _ _ _ _ r h => by simp [comfitlaw08_FixesWays.l0] at h⟩
  | k + 1 => by
    obtain ⟨ih0, ih1⟩ := comfitlaw08_FixesWays.mono_l k
    refine ⟨?_, ?_⟩
    · intro y0 y1 y2 y3 y4 y5 y6
      unfold comfitlaw08_FixesWays.j0
      repeat' first
      | (with_reducible exact ih0 _ _ _ _ _ _ _)
      | (with_reducible exact ih1 _ _ _ _ _ _ _ _ _)
      | (with_reducible exact Go.Proofs.Ytjffhhalmicodaa.PB.comfitlaw08_awake.mono _)
      | (with_reducible exact Go.Proofs.Ytjffhhalmicodaa.PB.comfitref08_Valid.mono _ _ _)
      | (with_reducible exact Go.Proofs.Ytjffhhalmicodaa.X.fixes_Holds.mono _ _ _ _)
      | (with_reducible exact LeO.refl _)
      | (with_reducible exact LeO.none _)
      | (with_reducible refine LeO.ite ?_ ?_)
      | (with_reducible refine LeO.bind ?_ (fun _ => ?_))
      | exact ih0 _ _ _ _ _ _ _
      | exact ih1 _ _ _ _ _ _ _ _ _
      | exact Go.Proofs.Ytjffhhalmicodaa.PB.comfitlaw08_awake.mono _
      | exact Go.Proofs.Ytjffhhalmicodaa.PB.comfitref08_Valid.mono _ _ _
      | exact Go.Proofs.Ytjffhhalmicodaa.X.fixes_Holds.mono _ _ _ _
      | exact LeO.none _
      | refine LeO.ite ?_ ?_
      | refine LeO.bind ?_ (fun _ => ?_)
    · intro y0 y1 y2 y3 y4 y5 y6 y7 y8
      unfold comfitlaw08_FixesWays.l0
      repeat' first
      | (with_reducible exact ih0 _ _ _ _ _ _ _)
      | (with_reducible exact ih1 _ _ _ _ _ _ _ _ _)
      | (with_reducible exact Go.Proofs.Ytjffhhalmicodaa.PB.comfitlaw08_awake.mono _)
      | (with_reducible exact Go.Proofs.Ytjffhhalmicodaa.PB.comfitref08_Valid.mono _ _ _)
      | (with_reducible exact Go.Proofs.Ytjffhhalmicodaa.X.fixes_Holds.mono _ _ _ _)
      | (with_reducible exact LeO.refl _)
      | (with_reducible exact LeO.none _)
      | (with_reducible refine LeO.ite ?_ ?_)
      | (with_reducible refine LeO.bind ?_ (fun _ => ?_))
      | exact ih0 _ _ _ _ _ _ _
      | exact ih1 _ _ _ _ _ _ _ _ _
      | exact Go.Proofs.Ytjffhhalmicodaa.PB.comfitlaw08_awake.mono _
      | exact Go.Proofs.Ytjffhhalmicodaa.PB.comfitref08_Valid.mono _ _ _
      | exact Go.Proofs.Ytjffhhalmicodaa.X.fixes_Holds.mono _ _ _ _
      | exact LeO.none _
      | refine LeO.ite ?_ ?_
      | refine LeO.bind ?_ (fun _ => ?_)
theorem comfitlaw08_FixesWays.mono : ∀ a0 a1 a2 k, LeO (comfitlaw08_FixesWays.f k a0 a1 a2) (comfitlaw08_FixesWays.f (k + 1) a0 a1 a2) := by
  intro a0 a1 a2 k
  obtain ⟨ih0, ih1⟩ := comfitlaw08_FixesWays.mono_l k
  unfold comfitlaw08_FixesWays.f
  repeat' first
      | (with_reducible exact ih0 _ _ _ _ _ _ _)
      | (with_reducible exact ih1 _ _ _ _ _ _ _ _ _)
      | (with_reducible exact Go.Proofs.Ytjffhhalmicodaa.PB.comfitlaw08_awake.mono _)
      | (with_reducible exact Go.Proofs.Ytjffhhalmicodaa.PB.comfitref08_Valid.mono _ _ _)
      | (with_reducible exact Go.Proofs.Ytjffhhalmicodaa.X.fixes_Holds.mono _ _ _ _)
      | (with_reducible exact LeO.refl _)
      | (with_reducible exact LeO.none _)
      | (with_reducible refine LeO.ite ?_ ?_)
      | (with_reducible refine LeO.bind ?_ (fun _ => ?_))
      | exact ih0 _ _ _ _ _ _ _
      | exact ih1 _ _ _ _ _ _ _ _ _
      | exact Go.Proofs.Ytjffhhalmicodaa.PB.comfitlaw08_awake.mono _
      | exact Go.Proofs.Ytjffhhalmicodaa.PB.comfitref08_Valid.mono _ _ _
      | exact Go.Proofs.Ytjffhhalmicodaa.X.fixes_Holds.mono _ _ _ _
      | exact LeO.none _
      | refine LeO.ite ?_ ?_
      | refine LeO.bind ?_ (fun _ => ?_)
set_option maxHeartbeats 8000000 in
set_option maxRecDepth 100000 in
theorem comfitlaw08_FixesWays.calls (k : Nat) (A0_0 : Option Addr) (c0_0 : Nat) (l0_0 : List Int) (A0_1 : Option Addr) (c0_1 : Nat) (l0_1 : List Int) (a1 : Int) (r : Bool) (ht : r = true) (w : World) (hr0_0 : Kd.C (Kd.int .i64) w A0_0 l0_0.length l0_0) (hc0_0 : l0_0.length ≤ c0_0) (hr0_1 : Kd.C (Kd.int .i64) w A0_1 l0_1.length l0_1) (hc0_1 : l0_1.length ≤ c0_1) (h : comfitlaw08_FixesWays.f k l0_0 l0_1 a1 = some r) :
    Calls Try.prog 7 #[.agg #[.slice A0_0 l0_0.length c0_0, .slice A0_1 l0_1.length c0_1], .int .i64 a1] w fun e w' => e = .returned (.bool r) ∧ Below w.heap.size w w' := by
  have hu24 := Try.underlying24
  have HR0_0 := Aside0.mk hr0_0
  have HC0_0 := Aside0.mk hc0_0
  clear hr0_0 hc0_0
  have HR0_1 := Aside0.mk hr0_1
  have HC0_1 := Aside0.mk hc0_1
  clear hr0_1 hc0_1
  have HB := Aside0.mk (Below.refl w.heap.size w)
  have H : ((Go.Proofs.Ytjffhhalmicodaa.PA.comfitlaw08_Of.f l0_0 l0_1).bind fun bt102 => ((Go.Proofs.Ytjffhhalmicodaa.X.fixes_Holds.f k bt102.1 bt102.2 (Go.Utf8.encode (wrap32 (wrap64 (48 + (wrap64 (Int.tmod (IntKind.u64.wrap (a1)) 4))))))).bind fun bt108 => (if bt108.2 = 0 then ((Go.Proofs.Ytjffhhalmicodaa.PB.comfitref08_Valid.f k l0_0 l0_1).bind fun t110 => (comfitlaw08_FixesWays.j0 k (wrap64 (Int.tmod (IntKind.u64.wrap (a1)) 4)) (Go.Utf8.encode (wrap32 (wrap64 (48 + (wrap64 (Int.tmod (IntKind.u64.wrap (a1)) 4)))))) bt108.1 bt108.2 (!t110) l0_0 l0_1)) else (comfitlaw08_FixesWays.j0 k (wrap64 (Int.tmod (IntKind.u64.wrap (a1)) 4)) (Go.Utf8.encode (wrap32 (wrap64 (48 + (wrap64 (Int.tmod (IntKind.u64.wrap (a1)) 4)))))) bt108.1 bt108.2 true l0_0 l0_1)))) = some r := h
  clear h
  replace H := Option.bind_eq_some_iff.mp H
  obtain ⟨⟨t102, t105⟩, A30, H⟩ := H
  replace H : ((Go.Proofs.Ytjffhhalmicodaa.X.fixes_Holds.f k t102 t105 (Go.Utf8.encode (wrap32 (wrap64 (48 + (wrap64 (Int.tmod (IntKind.u64.wrap (a1)) 4))))))).bind fun bt108 => (if bt108.2 = 0 then ((Go.Proofs.Ytjffhhalmicodaa.PB.comfitref08_Valid.f k l0_0 l0_1).bind fun t110 => (comfitlaw08_FixesWays.j0 k (wrap64 (Int.tmod (IntKind.u64.wrap (a1)) 4)) (Go.Utf8.encode (wrap32 (wrap64 (48 + (wrap64 (Int.tmod (IntKind.u64.wrap (a1)) 4)))))) bt108.1 bt108.2 (!t110) l0_0 l0_1)) else (comfitlaw08_FixesWays.j0 k (wrap64 (Int.tmod (IntKind.u64.wrap (a1)) 4)) (Go.Utf8.encode (wrap32 (wrap64 (48 + (wrap64 (Int.tmod (IntKind.u64.wrap (a1)) 4)))))) bt108.1 bt108.2 true l0_0 l0_1))) = some r := H
  have A3 := Aside0.mk A30
  clear A30
  replace H := Option.bind_eq_some_iff.mp H
  obtain ⟨⟨t108, t109⟩, A40, H⟩ := H
  replace H : (if t109 = 0 then ((Go.Proofs.Ytjffhhalmicodaa.PB.comfitref08_Valid.f k l0_0 l0_1).bind fun t110 => (comfitlaw08_FixesWays.j0 k (wrap64 (Int.tmod (IntKind.u64.wrap (a1)) 4)) (Go.Utf8.encode (wrap32 (wrap64 (48 + (wrap64 (Int.tmod (IntKind.u64.wrap (a1)) 4)))))) t108 t109 (!t110) l0_0 l0_1)) else (comfitlaw08_FixesWays.j0 k (wrap64 (Int.tmod (IntKind.u64.wrap (a1)) 4)) (Go.Utf8.encode (wrap32 (wrap64 (48 + (wrap64 (Int.tmod (IntKind.u64.wrap (a1)) 4)))))) t108 t109 true l0_0 l0_1)) = some r := H
  have A4 := Aside0.mk A40
  clear A40
  have HC5 := Aside0.mk H
  clear H
  go_enter Try.func7, Try.ntmps7
  go_upto_region 4 with (first | ((with_reducible refine gate_dst (N := 2) rfl ?_); refine box_event ?hg (N := 2) ?hd (cs := #[.slice A0_0 l0_0.length c0_0, .slice A0_1 l0_1.length c0_1]) (t := 24) ?hr ?_; (case hd => rfl); (case hg => rfl); (case hr => first | (go_simp; done) | (go_simp; rfl)); intro gb101 hg w6 hbox hb; have n0_ := Aside0.mk (below_step (by repeat (first | (with_reducible first | exact HB.out | apply below_alloc | apply pw_below_drewN | apply below_drew1) | exact HB.out)) hb); have n1_ := Aside0.mk (hbox); have n2_ := Aside0.mk ((by rw [hg]; exact (below_size (by repeat (first | (with_reducible first | exact HB.out | apply below_alloc | apply pw_below_drewN | apply below_drew1) | exact HB.out))) : w.heap.size ≤ gb101)); have n3_ := Aside0.mk ((by rw [hg]; exact (below_size (by repeat (first | (with_reducible first | exact HB.out | apply below_alloc | apply pw_below_drewN | apply below_drew1) | exact HB.out))) : w.heap.size ≤ gb101)); clear HB; have HB := n0_; have BK101 := n1_; have GW101 := n2_; have GE101 := n3_; clear n0_ n1_ n2_ n3_; clear hb hbox hg; have hcz7_0 : w6.cell? ⟨gb101, 0, none⟩ = some (.slice A0_0 l0_0.length c0_0) := (blk_cell BK101.out 0).trans rfl; have hcz7_1 : w6.cell? ⟨gb101, 1, none⟩ = some (.slice A0_1 l0_1.length c0_1) := (blk_cell BK101.out 1).trans rfl; have hfz7_0 := blk_frozen BK101.out 0; have hfz7_1 := blk_frozen BK101.out 1) | ((with_reducible refine gate_callee (f := 17) rfl ?_); refine goesL_ (some 29) rfl rfl Try.func17 (by kernel_rfl) rfl #[.agg #[.slice A0_0 l0_0.length c0_0, .slice A0_1 l0_1.length c0_1]] rfl (by (try simp only [List.map_toArray, List.map_cons, List.map_nil]); first | done | rfl | (simp only [List.length_drop, List.length_take]; rfl)) ?_; (with_reducible refine (Go.Proofs.Ytjffhhalmicodaa.PA.comfitlaw08_Of.calls _ _ l0_0 _ _ l0_1 t102 t105 _ ?side1 ?side2 ?side3 ?side4 A3.out).mono ?_); (case side1 => repeat (first | exact (Kd.C_below HR0_0.out HB.out) | (with_reducible refine Kd.C_alloc ?_ _) | (with_reducible refine Kd.C_drewN ?_ _) | (with_reducible refine Kd.C_drew ?_))); (case side2 => exact HC0_0.out); (case side3 => repeat (first | exact (Kd.C_below HR0_1.out HB.out) | (with_reducible refine Kd.C_alloc ?_ _) | (with_reducible refine Kd.C_drewN ?_ _) | (with_reducible refine Kd.C_drew ?_))); (case side4 => exact HC0_1.out); rintro e w8 ⟨v103, v106, rfl, ho0, ho1, hb⟩; refine ⟨_, rfl, ?_⟩; have n0_ := Aside0.mk (Kd.R_lower ho0 (below_size (by repeat (first | (with_reducible first | exact HB.out | apply below_alloc | apply pw_below_drewN | apply below_drew1 | refine below_set ?_ GE101.out) | exact HB.out)))); have n1_ := Aside0.mk (Kd.R_lower ho1 (below_size (by repeat (first | (with_reducible first | exact HB.out | apply below_alloc | apply pw_below_drewN | apply below_drew1 | refine below_set ?_ GE101.out) | exact HB.out)))); have n2_ := Aside0.mk (blk_below (g := gb101) (o := .cells #[.slice A0_0 l0_0.length c0_0, .slice A0_1 l0_1.length c0_1] 24 (0, 0)) (by (with_reducible repeat (first | refine blk_drewN ?_ _ | refine blk_drew ?_ | refine blk_alloc ?_ _)); exact BK101.out) hb); have n3_ := Aside0.mk (below_step (by repeat (first | (with_reducible first | exact HB.out | apply below_alloc | apply pw_below_drewN | apply below_drew1 | refine below_set ?_ GE101.out) | exact HB.out)) hb); clear BK101; clear HB; have HO104 := n0_; have HO107 := n1_; have BK101 := n2_; have HB := n3_; clear n0_ n1_ n2_ n3_; (try clear hb); (try clear hb2); (try clear hk); (try clear hi); (try clear ho0); (try clear ho1); obtain ⟨Ao9, co9, eo9⟩ := Kd.R_slice HO104.out; subst eo9; obtain ⟨Ao10, co10, eo10⟩ := Kd.R_slice HO107.out; subst eo10) | ((with_reducible refine gate_callee (f := 16) rfl ?_); refine goesL_ (some 31) rfl rfl Try.func16 (by kernel_rfl) rfl #[.agg #[.slice Ao9 t102.length co9, .slice Ao10 t105.length co10], .string (Go.Utf8.encode (wrap32 (wrap64 (48 + (wrap64 (Int.tmod (IntKind.u64.wrap (a1)) 4))))))] rfl (by (try simp only [List.map_toArray, List.map_cons, List.map_nil]); first | done | rfl | (simp only [List.length_drop, List.length_take]; rfl)) ?_; (with_reducible refine (Go.Proofs.Ytjffhhalmicodaa.X.fixes_Holds.calls k _ _ t102 _ _ t105 (Go.Utf8.encode (wrap32 (wrap64 (48 + (wrap64 (Int.tmod (IntKind.u64.wrap (a1)) 4)))))) t108 t109 _ ?side1 ?side2 ?side3 ?side4 A4.out).mono ?_); (case side1 => repeat (first | exact (Kd.R_reads' HO104.out).2.2 | (with_reducible refine Kd.C_alloc ?_ _) | (with_reducible refine Kd.C_drewN ?_ _) | (with_reducible refine Kd.C_drew ?_))); (case side2 => exact (Kd.R_reads' HO104.out).2.1); (case side3 => repeat (first | exact (Kd.R_reads' HO107.out).2.2 | (with_reducible refine Kd.C_alloc ?_ _) | (with_reducible refine Kd.C_drewN ?_ _) | (with_reducible refine Kd.C_drew ?_))); (case side4 => exact (Kd.R_reads' HO107.out).2.1); rintro e w11 ⟨rfl, hb⟩; refine ⟨_, rfl, ?_⟩; have n0_ := Aside0.mk (Kd.R_below (by (with_reducible repeat (first | apply Kd.R_alloc | apply Kd.R_drewN | apply Kd.R_drew)); exact HO104.out) hb); have n1_ := Aside0.mk (Kd.R_below (by (with_reducible repeat (first | apply Kd.R_alloc | apply Kd.R_drewN | apply Kd.R_drew)); exact HO107.out) hb); have n2_ := Aside0.mk (blk_below (g := gb101) (o := .cells #[.slice A0_0 l0_0.length c0_0, .slice A0_1 l0_1.length c0_1] 24 (0, 0)) (by (with_reducible repeat (first | refine blk_drewN ?_ _ | refine blk_drew ?_ | refine blk_alloc ?_ _)); exact BK101.out) hb); have n3_ := Aside0.mk (below_step (by repeat (first | (with_reducible first | exact HB.out | apply below_alloc | apply pw_below_drewN | apply below_drew1 | refine below_set ?_ GE101.out) | exact HB.out)) hb); clear HO104; clear HO107; clear BK101; clear HB; have HO104 := n0_; have HO107 := n1_; have BK101 := n2_; have HB := n3_; clear n0_ n1_ n2_ n3_; (try clear hb); (try clear hb2); (try clear hk); (try clear hi)))
  (try simp only [Act.put, List.setIfInBounds_toArray, List.set_cons_zero, List.set_cons_succ])
  go_cut [40] (fun v40 wc => ∃ (kq : Nat) (x40_4 : Bool), v40 = .bool x40_4 ∧ Aside0 (comfitlaw08_FixesWays.j0 kq (wrap64 (Int.tmod (IntKind.u64.wrap (a1)) 4)) (Go.Utf8.encode (wrap32 (wrap64 (48 + (wrap64 (Int.tmod (IntKind.u64.wrap (a1)) 4)))))) t108 t109 x40_4 l0_0 l0_1 = some r) ∧ Aside0 (kq ≤ k) ∧ Aside0 (wc.heap[gb101]? = some (.cells #[(.slice A0_0 l0_0.length c0_0), (.slice A0_1 l0_1.length c0_1)] 24 (0, 0))) ∧ Aside0 (Below w.heap.size w wc))
  case first =>
    have H := HC5.out
    clear HC5
    by_cases c12 : t109 = 0
    · rw [if_pos c12] at H
      have c12b0 : (t109 == 0) = true := beq_iff_eq.mpr c12
      have c12b1 : (t109 != 0) = false := bne_eq_false_iff_eq.mpr c12
      clear c12
      (first | rw [c12b0] | (simp only [i64_w, i32_w]; rw [c12b0]) | skip)
      replace H := Option.bind_eq_some_iff.mp H
      obtain ⟨t110, A130, H⟩ := H
      replace H : (comfitlaw08_FixesWays.j0 k (wrap64 (Int.tmod (IntKind.u64.wrap (a1)) 4)) (Go.Utf8.encode (wrap32 (wrap64 (48 + (wrap64 (Int.tmod (IntKind.u64.wrap (a1)) 4)))))) t108 t109 (!t110) l0_0 l0_1) = some r := H
      have A13 := Aside0.mk A130
      clear A130
      have H' := Aside0.mk H
      clear H
      have hcz14_0 : w11.cell? ⟨gb101, 0, none⟩ = some (.slice A0_0 l0_0.length c0_0) := (blk_cell BK101.out 0).trans rfl
      have hcz14_1 : w11.cell? ⟨gb101, 1, none⟩ = some (.slice A0_1 l0_1.length c0_1) := (blk_cell BK101.out 1).trans rfl
      have hfz14_0 := blk_frozen BK101.out 0
      have hfz14_1 := blk_frozen BK101.out 1
      go_wp2_with (first | (go_at_call 21; (with_reducible refine (Go.Proofs.Ytjffhhalmicodaa.PB.comfitref08_Valid.calls k _ _ l0_0 _ _ l0_1 t110 _ ?side1 ?side2 ?side3 ?side4 A13.out).mono ?_); (case side1 => repeat (first | exact (Kd.C_below HR0_0.out HB.out) | (with_reducible refine Kd.C_alloc ?_ _) | (with_reducible refine Kd.C_drewN ?_ _) | (with_reducible refine Kd.C_drew ?_))); (case side2 => exact HC0_0.out); (case side3 => repeat (first | exact (Kd.C_below HR0_1.out HB.out) | (with_reducible refine Kd.C_alloc ?_ _) | (with_reducible refine Kd.C_drewN ?_ _) | (with_reducible refine Kd.C_drew ?_))); (case side4 => exact HC0_1.out); rintro e w15 ⟨rfl, hb⟩; have n0_ := Aside0.mk (Kd.R_below (by (with_reducible repeat (first | apply Kd.R_alloc | apply Kd.R_drewN | apply Kd.R_drew)); exact HO104.out) hb); have n1_ := Aside0.mk (Kd.R_below (by (with_reducible repeat (first | apply Kd.R_alloc | apply Kd.R_drewN | apply Kd.R_drew)); exact HO107.out) hb); have n2_ := Aside0.mk (blk_below (g := gb101) (o := .cells #[.slice A0_0 l0_0.length c0_0, .slice A0_1 l0_1.length c0_1] 24 (0, 0)) (by (with_reducible repeat (first | refine blk_drewN ?_ _ | refine blk_drew ?_ | refine blk_alloc ?_ _)); exact BK101.out) hb); have n3_ := Aside0.mk (below_step (by repeat (first | (with_reducible first | exact HB.out | apply below_alloc | apply pw_below_drewN | apply below_drew1 | refine below_set ?_ GE101.out) | exact HB.out)) hb); clear HO104; clear HO107; clear BK101; clear HB; have HO104 := n0_; have HO107 := n1_; have BK101 := n2_; have HB := n3_; clear n0_ n1_ n2_ n3_; (try clear hb); (try clear hb2); (try clear hk); (try clear hi)))
      go_meet
      case rel => exact ⟨_, (!t110), (by first | rfl | (simp; done) | (simp [*]; done)), H', ⟨by first | omega | exact Nat.le_refl _⟩, ⟨by (with_reducible repeat (first | refine blk_drewN ?_ _ | refine blk_drew ?_ | refine blk_alloc ?_ _)); exact BK101.out⟩, ⟨by repeat (first | (with_reducible first | exact HB.out | apply below_alloc | apply pw_below_drewN | apply below_drew1 | refine below_set ?_ GE101.out) | exact HB.out)⟩⟩
    · rw [if_neg c12] at H
      have c12b0 : (t109 == 0) = false := beq_eq_false_iff_ne.mpr c12
      have c12b1 : (t109 != 0) = true := bne_iff_ne.mpr c12
      (first | rw [c12b0] | (simp only [i64_w, i32_w]; rw [c12b0]) | skip)
      have H' := Aside0.mk H
      clear H
      go_wp2
      go_meet
      case rel => exact ⟨_, (true), (by first | rfl | (simp; done) | (simp [*]; done)), H', ⟨by first | omega | exact Nat.le_refl _⟩, ⟨by (with_reducible repeat (first | refine blk_drewN ?_ _ | refine blk_drew ?_ | refine blk_alloc ?_ _)); exact BK101.out⟩, ⟨by repeat (first | (with_reducible first | exact HB.out | apply below_alloc | apply pw_below_drewN | apply below_drew1 | refine below_set ?_ GE101.out) | exact HB.out)⟩⟩
  case rest =>
    clear HC5
    try clear c1
    try clear p2
    try clear p3
    try clear p6
    try clear c7
    try clear c12
    try clear c12b0
    try clear c12b1
    try clear hcz14_0
    try clear hcz14_1
    try clear hcz7_0
    try clear hcz7_1
    try clear hfz14_0
    try clear hfz14_1
    try clear hfz7_0
    try clear hfz7_1
    obtain ⟨kq, x40_4, rfl, HA, HJ4, BK101, HB⟩ := hcut
    cases kq with
    | zero => exact absurd HA.out (by simp [comfitlaw08_FixesWays.j0])
    | succ kj4 =>
      have H := HA.out
      clear HA
      simp only [comfitlaw08_FixesWays.j0] at H
      by_cases c16 : x40_4 = true
      · subst c16
        have H1 : (if t109 = 2 then ((Go.Proofs.Ytjffhhalmicodaa.PB.comfitlaw08_awake.f kj4).bind fun t111 => (some t111)) else (some false)) = some r := by rw [if_pos rfl] at H; exact H
        clear H
        have H := H1
        clear H1
        by_cases c17 : t109 = 2
        · rw [if_pos c17] at H
          have c17b0 : (t109 == 2) = true := beq_iff_eq.mpr c17
          have c17b1 : (t109 != 2) = false := bne_eq_false_iff_eq.mpr c17
          clear c17
          replace H := Option.bind_eq_some_iff.mp H
          obtain ⟨t111, A180, H⟩ := H
          replace H : (some t111) = some r := H
          have A18 := Aside0.mk A180
          clear A180
          obtain rfl := Option.some.inj H
          go_wp2_with (first | (go_at_call 22; (with_reducible refine (Go.Proofs.Ytjffhhalmicodaa.PB.comfitlaw08_awake.calls kj4  t111 _ A18.out).mono ?_); rintro e w19 ⟨rfl, hb⟩; have n0_ := Aside0.mk (blk_below (g := gb101) (o := .cells #[.slice A0_0 l0_0.length c0_0, .slice A0_1 l0_1.length c0_1] 24 (0, 0)) (by (with_reducible repeat (first | refine blk_drewN ?_ _ | refine blk_drew ?_ | refine blk_alloc ?_ _)); exact BK101.out) hb); have n1_ := Aside0.mk (below_step (by repeat (first | (with_reducible first | exact HB.out | apply below_alloc | apply pw_below_drewN | apply below_drew1 | refine below_set ?_ GE101.out) | exact HB.out)) hb); clear BK101; clear HB; have BK101 := n0_; have HB := n1_; clear n0_ n1_; (try clear hb); (try clear hb2); (try clear hk); (try clear hi)))
          go_ret
          exact ⟨by first | rfl | (simp [errW_none, errW_some] <;> rfl) | (simp [*, errW_none, errW_some] <;> rfl), by repeat (first | (with_reducible first | exact HB.out | apply below_alloc | apply pw_below_drewN | apply below_drew1 | refine below_set ?_ GE101.out) | exact HB.out)⟩
        · rw [if_neg c17] at H
          exact absurd (Option.some.inj H) (by rw [ht]; decide)
      · replace c16 := Bool.eq_false_iff.mpr c16
        subst c16
        have H1 : (comfitlaw08_FixesWays.l0 kj4 (wrap64 (Int.tmod (IntKind.u64.wrap (a1)) 4)) (Go.Utf8.encode (wrap32 (wrap64 (48 + (wrap64 (Int.tmod (IntKind.u64.wrap (a1)) 4)))))) t108 0 l0_1 (l0_1.length : Int) 0 l0_0 l0_1) = some r := by rw [if_neg (show ¬ (false = true) by decide)] at H; exact H
        clear H
        have H := H1
        clear H1
        have H' := Aside0.mk H
        clear H
        have hcz20_0 : wc.cell? ⟨gb101, 0, none⟩ = some (.slice A0_0 l0_0.length c0_0) := (blk_cell BK101.out 0).trans rfl
        have hcz20_1 : wc.cell? ⟨gb101, 1, none⟩ = some (.slice A0_1 l0_1.length c0_1) := (blk_cell BK101.out 1).trans rfl
        have hfz20_0 := blk_frozen BK101.out 0
        have hfz20_1 := blk_frozen BK101.out 1
        go_wp2
        go_loopg [8, 49] kj4 (fun kq v8 v49 w' => ∃ (x8_2 : Int) (x49_2 : Int), v8 = .int .i64 x8_2 ∧ v49 = .int .i64 x49_2 ∧ Aside0 (comfitlaw08_FixesWays.l0 kq (wrap64 (Int.tmod (IntKind.u64.wrap (a1)) 4)) (Go.Utf8.encode (wrap32 (wrap64 (48 + (wrap64 (Int.tmod (IntKind.u64.wrap (a1)) 4)))))) t108 x8_2 l0_1 (l0_1.length : Int) x49_2 l0_0 l0_1 = some r) ∧ Aside0 (kq ≤ kj4) ∧ Aside0 (w'.heap[gb101]? = some (.cells #[(.slice A0_0 l0_0.length c0_0), (.slice A0_1 l0_1.length c0_1)] 24 (0, 0))) ∧ Aside0 (Below w.heap.size w w'))
        case atStart => exact ⟨(0), (0), (by first | rfl | (simp; done) | (simp [*]; done)), (by first | rfl | (simp; done) | (simp [*]; done)), H', ⟨Nat.le_refl _⟩, ⟨by (with_reducible repeat (first | refine blk_drewN ?_ _ | refine blk_drew ?_ | refine blk_alloc ?_ _)); exact BK101.out⟩, ⟨by repeat (first | (with_reducible first | exact HB.out | apply below_alloc | apply pw_below_drewN | apply below_drew1 | refine below_set ?_ GE101.out) | exact HB.out)⟩⟩
        case round =>
          clear H'
          try clear c1
          try clear p2
          try clear p3
          try clear p6
          try clear c7
          try clear c12
          try clear c12b0
          try clear c12b1
          try clear c16
          try clear c17
          try clear c17b0
          try clear c17b1
          try clear hcz14_0
          try clear hcz14_1
          try clear hcz20_0
          try clear hcz20_1
          try clear hcz7_0
          try clear hcz7_1
          try clear hfz14_0
          try clear hfz14_1
          try clear hfz20_0
          try clear hfz20_1
          try clear hfz7_0
          try clear hfz7_1
          try clear p2
          try clear p3
          try clear p6
          obtain ⟨x8_2, x49_2, rfl, rfl, HA, HK2, BK101, HB⟩ := hrel
          cases gk with
          | zero => exact absurd HA.out (by simp [comfitlaw08_FixesWays.l0])
          | succ k2 =>
            have H := HA.out
            clear HA
            simp only [comfitlaw08_FixesWays.l0] at H
            by_cases c21 : x49_2 < (l0_1.length : Int)
            · rw [if_pos c21] at H
              have c21b0 : decide (x49_2 < (l0_1.length : Int)) = true := decide_eq_true c21
              clear c21
              by_cases c22 : 0 ≤ x49_2
              · rw [if_pos c22] at H
                have c22b0 : decide (0 ≤ x49_2) = true := decide_eq_true c22
                clear c22
                by_cases c23 : x49_2 < (l0_1.length : Int)
                · rw [if_pos c23] at H
                  have c23b0 : decide (x49_2 < (l0_1.length : Int)) = true := decide_eq_true c23
                  clear c23
                  obtain ⟨ji24, hji24⟩ : ∃ j_ : Int, (wrap64 (Int.tmod (IntKind.u64.wrap (a1)) 4)) = j_ := ⟨_, rfl⟩
                  replace H : (if 0 ≤ (ji24) then (comfitlaw08_FixesWays.l0 k2 (ji24) (Go.Utf8.encode (wrap32 (wrap64 (48 + (ji24))))) t108 (Go.bits .or .i64 x8_2 (shl .i64 (Go.bits .and .i64 (shr .i64 (rd l0_1 x49_2) (ji24)) 1) x49_2)) l0_1 (l0_1.length : Int) (wrap64 (x49_2 + 1)) l0_0 l0_1) else (none)) = some r := by first | (rw [hji24] at H; exact H) | (simp only [hji24] at H ⊢; exact H)
                  have hji24w : (IntKind.i64.wrap (Int.tmod (IntKind.u64.wrap (a1)) 4)) = ji24 := (i64_w _).trans hji24
                  by_cases c25 : 0 ≤ (ji24)
                  · rw [if_pos c25] at H
                    have c25b0 := eq_true c25
                    have c25b1 : decide (0 ≤ (ji24)) = true := decide_eq_true c25
                    clear c25
                    obtain ⟨ji26, hji26⟩ : ∃ j_ : Int, (shr .i64 (rd l0_1 x49_2) (ji24)) = j_ := ⟨_, rfl⟩
                    replace H : (comfitlaw08_FixesWays.l0 k2 (ji24) (Go.Utf8.encode (wrap32 (wrap64 (48 + (ji24))))) t108 (Go.bits .or .i64 x8_2 (shl .i64 (Go.bits .and .i64 (ji26) 1) x49_2)) l0_1 (l0_1.length : Int) (wrap64 (x49_2 + 1)) l0_0 l0_1) = some r := by first | (rw [hji26] at H; exact H) | (simp only [hji26] at H ⊢; exact H)
                    have hji26_ : ((rd l0_1 x49_2) / 2 ^ min (ji24).toNat 64) = ji26 := hji26
                    have hji26z : (ji24) ≤ 64 → ((rd l0_1 x49_2) / 2 ^ (ji24).toNat) = ji26 := shr_small hji26
                    have c27b0 := eq_true (of_decide_eq_true (by first | (with_reducible assumption) | assumption) : 0 ≤ x49_2)
                    obtain ⟨ji28, hji28⟩ : ∃ j_ : Int, (shl .i64 (Go.bits .and .i64 (ji26) 1) x49_2) = j_ := ⟨_, rfl⟩
                    replace H : (comfitlaw08_FixesWays.l0 k2 (ji24) (Go.Utf8.encode (wrap32 (wrap64 (48 + (ji24))))) t108 (Go.bits .or .i64 x8_2 (ji28)) l0_1 (l0_1.length : Int) (wrap64 (x49_2 + 1)) l0_0 l0_1) = some r := by first | (rw [hji28] at H; exact H) | (simp only [hji28] at H ⊢; exact H)
                    have hji28_ : (IntKind.i64.wrap ((Go.bits .and .i64 (ji26) 1) * 2 ^ min x49_2.toNat 64)) = ji28 := hji28
                    have hji28z : x49_2 ≤ 64 → (IntKind.i64.wrap ((Go.bits .and .i64 (ji26) 1) * 2 ^ x49_2.toNat)) = ji28 := shl_small hji28
                    have hji28y : (wrap64 ((Go.bits .and .i64 (ji26) 1) * 2 ^ min x49_2.toNat 64)) = ji28 := (i64_w _).symm.trans hji28_
                    have hji28x : x49_2 ≤ 64 → (wrap64 ((Go.bits .and .i64 (ji26) 1) * 2 ^ x49_2.toNat)) = ji28 := fun h_ => (i64_w _).symm.trans (hji28z h_)
                    have H' := Aside0.mk H
                    clear H
                    have p112 : 0 ≤ (x49_2 : Int) := of_decide_eq_true (by first | (with_reducible assumption) | assumption)
                    have q112 : x49_2 < (l0_1.length : Int) := of_decide_eq_true (by first | (with_reducible assumption) | assumption)
                    obtain ⟨ad112, e112, hx112_0⟩ := Kd.at_int HR0_1.out x49_2 p112 q112
                    cases e112
                    replace hx112_0 := (HB.out.cell (World.block_lt_of_cell? w _ hx112_0)).trans hx112_0
                    replace p112 := eq_true p112
                    replace q112 := eq_true q112
                    go_wp2
                    go_roundg k2
                    case measure => have := HJ4.out; have := HK2.out; omega
                    case rel => exact ⟨(Go.bits .or .i64 x8_2 (ji28)), (wrap64 (x49_2 + 1)), (by first | rfl | (simp; done) | (simp only [← hji28] <;> (first | rfl | simp)) | (simp [*]; done)), (by first | rfl | (simp; done) | (simp [*]; done)), (by subst hji24; exact H'), ⟨by have := HJ4.out; have := HK2.out; omega⟩, ⟨by (with_reducible repeat (first | refine blk_drewN ?_ _ | refine blk_drew ?_ | refine blk_alloc ?_ _)); exact BK101.out⟩, ⟨by repeat (first | (with_reducible first | exact HB.out | apply below_alloc | apply pw_below_drewN | apply below_drew1 | refine below_set ?_ GE101.out) | exact HB.out)⟩⟩
                  · rw [if_neg c25] at H
                    exact absurd H (by simp)
                · rw [if_neg c23] at H
                  exact absurd H (by simp)
              · rw [if_neg c22] at H
                exact absurd H (by simp)
            · rw [if_neg c21] at H
              have c21b0 : decide (x49_2 < (l0_1.length : Int)) = false := decide_eq_false c21
              clear c21
              replace H := Option.bind_eq_some_iff.mp H
              obtain ⟨⟨t113, t116⟩, A290, H⟩ := H
              replace H : ((Go.Proofs.Ytjffhhalmicodaa.X.fixes_Reach.f t113 t116 t108).bind fun bt119 => ((Go.Proofs.Ytjffhhalmicodaa.PA.comfitlaw08_Of.f l0_0 l0_1).bind fun bt121 => ((Go.Proofs.Ytjffhhalmicodaa.X.fixes_Always.f bt121.1 bt121.2 t108).bind fun bt127 => ((Go.Proofs.Ytjffhhalmicodaa.PA.comfitlaw08_Of.f l0_0 l0_1).bind fun bt129 => (if 3 + (Go.Utf8.encode (wrap32 (wrap64 (48 + (wrap64 (Int.tmod (IntKind.u64.wrap (a1)) 4)))))).size ≤ 9223372036854775807 then (if ((⟨#[109, 120, 124]⟩ : ByteArray) ++ (Go.Utf8.encode (wrap32 (wrap64 (48 + (wrap64 (Int.tmod (IntKind.u64.wrap (a1)) 4))))))).size + 2 ≤ 9223372036854775807 then ((Go.Proofs.Ytjffhhalmicodaa.X.fixes_Holds.f k2 bt129.1 bt129.2 (((⟨#[109, 120, 124]⟩ : ByteArray) ++ (Go.Utf8.encode (wrap32 (wrap64 (48 + (wrap64 (Int.tmod (IntKind.u64.wrap (a1)) 4))))))) ++ (⟨#[60, 120]⟩ : ByteArray))).bind fun bt135 => ((Go.Proofs.Ytjffhhalmicodaa.PA.comfitlaw08_Of.f l0_0 l0_1).bind fun bt137 => (if ((⟨#[103, 120, 38]⟩ : ByteArray) ++ (Go.Utf8.encode (wrap32 (wrap64 (48 + (wrap64 (Int.tmod (IntKind.u64.wrap (a1)) 4))))))).size + 2 ≤ 9223372036854775807 then ((Go.Proofs.Ytjffhhalmicodaa.X.fixes_Holds.f k2 bt137.1 bt137.2 (((⟨#[103, 120, 38]⟩ : ByteArray) ++ (Go.Utf8.encode (wrap32 (wrap64 (48 + (wrap64 (Int.tmod (IntKind.u64.wrap (a1)) 4))))))) ++ (⟨#[60, 120]⟩ : ByteArray))).bind fun bt143 => (if t108 = x8_2 then (if bt119.2 = 0 then (if bt127.2 = 0 then (if bt135.2 = 0 then (if bt143.2 = 0 then (if bt119.1 = bt135.1 then (if bt127.1 = bt143.1 then (if (Go.bits .andNot .i64 t108 bt119.1) = 0 then (if (Go.bits .andNot .i64 bt127.1 t108) = 0 then ((Go.Proofs.Ytjffhhalmicodaa.PB.comfitlaw08_awake.f k2).bind fun t145 => (some t145)) else (some false)) else (some false)) else (some false)) else (some false)) else (some false)) else (some false)) else (some false)) else (some false)) else (some false))) else (none)))) else (none)) else (none)))))) = some r := H
              have A29 := Aside0.mk A290
              clear A290
              replace H := Option.bind_eq_some_iff.mp H
              obtain ⟨⟨t119, t120⟩, A300, H⟩ := H
              replace H : ((Go.Proofs.Ytjffhhalmicodaa.PA.comfitlaw08_Of.f l0_0 l0_1).bind fun bt121 => ((Go.Proofs.Ytjffhhalmicodaa.X.fixes_Always.f bt121.1 bt121.2 t108).bind fun bt127 => ((Go.Proofs.Ytjffhhalmicodaa.PA.comfitlaw08_Of.f l0_0 l0_1).bind fun bt129 => (if 3 + (Go.Utf8.encode (wrap32 (wrap64 (48 + (wrap64 (Int.tmod (IntKind.u64.wrap (a1)) 4)))))).size ≤ 9223372036854775807 then (if ((⟨#[109, 120, 124]⟩ : ByteArray) ++ (Go.Utf8.encode (wrap32 (wrap64 (48 + (wrap64 (Int.tmod (IntKind.u64.wrap (a1)) 4))))))).size + 2 ≤ 9223372036854775807 then ((Go.Proofs.Ytjffhhalmicodaa.X.fixes_Holds.f k2 bt129.1 bt129.2 (((⟨#[109, 120, 124]⟩ : ByteArray) ++ (Go.Utf8.encode (wrap32 (wrap64 (48 + (wrap64 (Int.tmod (IntKind.u64.wrap (a1)) 4))))))) ++ (⟨#[60, 120]⟩ : ByteArray))).bind fun bt135 => ((Go.Proofs.Ytjffhhalmicodaa.PA.comfitlaw08_Of.f l0_0 l0_1).bind fun bt137 => (if ((⟨#[103, 120, 38]⟩ : ByteArray) ++ (Go.Utf8.encode (wrap32 (wrap64 (48 + (wrap64 (Int.tmod (IntKind.u64.wrap (a1)) 4))))))).size + 2 ≤ 9223372036854775807 then ((Go.Proofs.Ytjffhhalmicodaa.X.fixes_Holds.f k2 bt137.1 bt137.2 (((⟨#[103, 120, 38]⟩ : ByteArray) ++ (Go.Utf8.encode (wrap32 (wrap64 (48 + (wrap64 (Int.tmod (IntKind.u64.wrap (a1)) 4))))))) ++ (⟨#[60, 120]⟩ : ByteArray))).bind fun bt143 => (if t108 = x8_2 then (if t120 = 0 then (if bt127.2 = 0 then (if bt135.2 = 0 then (if bt143.2 = 0 then (if t119 = bt135.1 then (if bt127.1 = bt143.1 then (if (Go.bits .andNot .i64 t108 t119) = 0 then (if (Go.bits .andNot .i64 bt127.1 t108) = 0 then ((Go.Proofs.Ytjffhhalmicodaa.PB.comfitlaw08_awake.f k2).bind fun t145 => (some t145)) else (some false)) else (some false)) else (some false)) else (some false)) else (some false)) else (some false)) else (some false)) else (some false)) else (some false))) else (none)))) else (none)) else (none))))) = some r := H
              have A30 := Aside0.mk A300
              clear A300
              replace H := Option.bind_eq_some_iff.mp H
              obtain ⟨⟨t121, t124⟩, A310, H⟩ := H
              replace H : ((Go.Proofs.Ytjffhhalmicodaa.X.fixes_Always.f t121 t124 t108).bind fun bt127 => ((Go.Proofs.Ytjffhhalmicodaa.PA.comfitlaw08_Of.f l0_0 l0_1).bind fun bt129 => (if 3 + (Go.Utf8.encode (wrap32 (wrap64 (48 + (wrap64 (Int.tmod (IntKind.u64.wrap (a1)) 4)))))).size ≤ 9223372036854775807 then (if ((⟨#[109, 120, 124]⟩ : ByteArray) ++ (Go.Utf8.encode (wrap32 (wrap64 (48 + (wrap64 (Int.tmod (IntKind.u64.wrap (a1)) 4))))))).size + 2 ≤ 9223372036854775807 then ((Go.Proofs.Ytjffhhalmicodaa.X.fixes_Holds.f k2 bt129.1 bt129.2 (((⟨#[109, 120, 124]⟩ : ByteArray) ++ (Go.Utf8.encode (wrap32 (wrap64 (48 + (wrap64 (Int.tmod (IntKind.u64.wrap (a1)) 4))))))) ++ (⟨#[60, 120]⟩ : ByteArray))).bind fun bt135 => ((Go.Proofs.Ytjffhhalmicodaa.PA.comfitlaw08_Of.f l0_0 l0_1).bind fun bt137 => (if ((⟨#[103, 120, 38]⟩ : ByteArray) ++ (Go.Utf8.encode (wrap32 (wrap64 (48 + (wrap64 (Int.tmod (IntKind.u64.wrap (a1)) 4))))))).size + 2 ≤ 9223372036854775807 then ((Go.Proofs.Ytjffhhalmicodaa.X.fixes_Holds.f k2 bt137.1 bt137.2 (((⟨#[103, 120, 38]⟩ : ByteArray) ++ (Go.Utf8.encode (wrap32 (wrap64 (48 + (wrap64 (Int.tmod (IntKind.u64.wrap (a1)) 4))))))) ++ (⟨#[60, 120]⟩ : ByteArray))).bind fun bt143 => (if t108 = x8_2 then (if t120 = 0 then (if bt127.2 = 0 then (if bt135.2 = 0 then (if bt143.2 = 0 then (if t119 = bt135.1 then (if bt127.1 = bt143.1 then (if (Go.bits .andNot .i64 t108 t119) = 0 then (if (Go.bits .andNot .i64 bt127.1 t108) = 0 then ((Go.Proofs.Ytjffhhalmicodaa.PB.comfitlaw08_awake.f k2).bind fun t145 => (some t145)) else (some false)) else (some false)) else (some false)) else (some false)) else (some false)) else (some false)) else (some false)) else (some false)) else (some false))) else (none)))) else (none)) else (none)))) = some r := H
              have A31 := Aside0.mk A310
              clear A310
              replace H := Option.bind_eq_some_iff.mp H
              obtain ⟨⟨t127, t128⟩, A320, H⟩ := H
              replace H : ((Go.Proofs.Ytjffhhalmicodaa.PA.comfitlaw08_Of.f l0_0 l0_1).bind fun bt129 => (if 3 + (Go.Utf8.encode (wrap32 (wrap64 (48 + (wrap64 (Int.tmod (IntKind.u64.wrap (a1)) 4)))))).size ≤ 9223372036854775807 then (if ((⟨#[109, 120, 124]⟩ : ByteArray) ++ (Go.Utf8.encode (wrap32 (wrap64 (48 + (wrap64 (Int.tmod (IntKind.u64.wrap (a1)) 4))))))).size + 2 ≤ 9223372036854775807 then ((Go.Proofs.Ytjffhhalmicodaa.X.fixes_Holds.f k2 bt129.1 bt129.2 (((⟨#[109, 120, 124]⟩ : ByteArray) ++ (Go.Utf8.encode (wrap32 (wrap64 (48 + (wrap64 (Int.tmod (IntKind.u64.wrap (a1)) 4))))))) ++ (⟨#[60, 120]⟩ : ByteArray))).bind fun bt135 => ((Go.Proofs.Ytjffhhalmicodaa.PA.comfitlaw08_Of.f l0_0 l0_1).bind fun bt137 => (if ((⟨#[103, 120, 38]⟩ : ByteArray) ++ (Go.Utf8.encode (wrap32 (wrap64 (48 + (wrap64 (Int.tmod (IntKind.u64.wrap (a1)) 4))))))).size + 2 ≤ 9223372036854775807 then ((Go.Proofs.Ytjffhhalmicodaa.X.fixes_Holds.f k2 bt137.1 bt137.2 (((⟨#[103, 120, 38]⟩ : ByteArray) ++ (Go.Utf8.encode (wrap32 (wrap64 (48 + (wrap64 (Int.tmod (IntKind.u64.wrap (a1)) 4))))))) ++ (⟨#[60, 120]⟩ : ByteArray))).bind fun bt143 => (if t108 = x8_2 then (if t120 = 0 then (if t128 = 0 then (if bt135.2 = 0 then (if bt143.2 = 0 then (if t119 = bt135.1 then (if t127 = bt143.1 then (if (Go.bits .andNot .i64 t108 t119) = 0 then (if (Go.bits .andNot .i64 t127 t108) = 0 then ((Go.Proofs.Ytjffhhalmicodaa.PB.comfitlaw08_awake.f k2).bind fun t145 => (some t145)) else (some false)) else (some false)) else (some false)) else (some false)) else (some false)) else (some false)) else (some false)) else (some false)) else (some false))) else (none)))) else (none)) else (none))) = some r := H
              have A32 := Aside0.mk A320
              clear A320
              replace H := Option.bind_eq_some_iff.mp H
              obtain ⟨⟨t129, t132⟩, A330, H⟩ := H
              replace H : (if 3 + (Go.Utf8.encode (wrap32 (wrap64 (48 + (wrap64 (Int.tmod (IntKind.u64.wrap (a1)) 4)))))).size ≤ 9223372036854775807 then (if ((⟨#[109, 120, 124]⟩ : ByteArray) ++ (Go.Utf8.encode (wrap32 (wrap64 (48 + (wrap64 (Int.tmod (IntKind.u64.wrap (a1)) 4))))))).size + 2 ≤ 9223372036854775807 then ((Go.Proofs.Ytjffhhalmicodaa.X.fixes_Holds.f k2 t129 t132 (((⟨#[109, 120, 124]⟩ : ByteArray) ++ (Go.Utf8.encode (wrap32 (wrap64 (48 + (wrap64 (Int.tmod (IntKind.u64.wrap (a1)) 4))))))) ++ (⟨#[60, 120]⟩ : ByteArray))).bind fun bt135 => ((Go.Proofs.Ytjffhhalmicodaa.PA.comfitlaw08_Of.f l0_0 l0_1).bind fun bt137 => (if ((⟨#[103, 120, 38]⟩ : ByteArray) ++ (Go.Utf8.encode (wrap32 (wrap64 (48 + (wrap64 (Int.tmod (IntKind.u64.wrap (a1)) 4))))))).size + 2 ≤ 9223372036854775807 then ((Go.Proofs.Ytjffhhalmicodaa.X.fixes_Holds.f k2 bt137.1 bt137.2 (((⟨#[103, 120, 38]⟩ : ByteArray) ++ (Go.Utf8.encode (wrap32 (wrap64 (48 + (wrap64 (Int.tmod (IntKind.u64.wrap (a1)) 4))))))) ++ (⟨#[60, 120]⟩ : ByteArray))).bind fun bt143 => (if t108 = x8_2 then (if t120 = 0 then (if t128 = 0 then (if bt135.2 = 0 then (if bt143.2 = 0 then (if t119 = bt135.1 then (if t127 = bt143.1 then (if (Go.bits .andNot .i64 t108 t119) = 0 then (if (Go.bits .andNot .i64 t127 t108) = 0 then ((Go.Proofs.Ytjffhhalmicodaa.PB.comfitlaw08_awake.f k2).bind fun t145 => (some t145)) else (some false)) else (some false)) else (some false)) else (some false)) else (some false)) else (some false)) else (some false)) else (some false)) else (some false))) else (none)))) else (none)) else (none)) = some r := H
              have A33 := Aside0.mk A330
              clear A330
              by_cases c34 : 3 + (Go.Utf8.encode (wrap32 (wrap64 (48 + (wrap64 (Int.tmod (IntKind.u64.wrap (a1)) 4)))))).size ≤ 9223372036854775807
              · rw [if_pos c34] at H
                have c34b0 := eq_true c34
                have c34b1 : decide (3 + (Go.Utf8.encode (wrap32 (wrap64 (48 + (wrap64 (Int.tmod (IntKind.u64.wrap (a1)) 4)))))).size ≤ 9223372036854775807) = true := decide_eq_true c34
                try have c34b2 : (9223372036854775807 < 3 + (Go.Utf8.encode (wrap32 (wrap64 (48 + (wrap64 (Int.tmod (IntKind.u64.wrap (a1)) 4)))))).size) = False := eq_false (Nat.not_lt.2 c34)
                by_cases c35 : ((⟨#[109, 120, 124]⟩ : ByteArray) ++ (Go.Utf8.encode (wrap32 (wrap64 (48 + (wrap64 (Int.tmod (IntKind.u64.wrap (a1)) 4))))))).size + 2 ≤ 9223372036854775807
                · rw [if_pos c35] at H
                  have c35b0 := eq_true c35
                  have c35b1 : decide (((⟨#[109, 120, 124]⟩ : ByteArray) ++ (Go.Utf8.encode (wrap32 (wrap64 (48 + (wrap64 (Int.tmod (IntKind.u64.wrap (a1)) 4))))))).size + 2 ≤ 9223372036854775807) = true := decide_eq_true c35
                  try have c35b2 : (9223372036854775807 < ((⟨#[109, 120, 124]⟩ : ByteArray) ++ (Go.Utf8.encode (wrap32 (wrap64 (48 + (wrap64 (Int.tmod (IntKind.u64.wrap (a1)) 4))))))).size + 2) = False := eq_false (Nat.not_lt.2 c35)
                  have c35z : (9223372036854775807 < 3 + ((Go.Utf8.encode (wrap32 (wrap64 (48 + (wrap64 (Int.tmod (IntKind.u64.wrap (a1)) 4))))))).size + 2) = False := eq_false (by have h_ := c35; rw [ByteArray.size_append, show (⟨#[109, 120, 124]⟩ : ByteArray).size = 3 from rfl] at h_; omega)
                  replace H := Option.bind_eq_some_iff.mp H
                  obtain ⟨⟨t135, t136⟩, A360, H⟩ := H
                  replace H : ((Go.Proofs.Ytjffhhalmicodaa.PA.comfitlaw08_Of.f l0_0 l0_1).bind fun bt137 => (if ((⟨#[103, 120, 38]⟩ : ByteArray) ++ (Go.Utf8.encode (wrap32 (wrap64 (48 + (wrap64 (Int.tmod (IntKind.u64.wrap (a1)) 4))))))).size + 2 ≤ 9223372036854775807 then ((Go.Proofs.Ytjffhhalmicodaa.X.fixes_Holds.f k2 bt137.1 bt137.2 (((⟨#[103, 120, 38]⟩ : ByteArray) ++ (Go.Utf8.encode (wrap32 (wrap64 (48 + (wrap64 (Int.tmod (IntKind.u64.wrap (a1)) 4))))))) ++ (⟨#[60, 120]⟩ : ByteArray))).bind fun bt143 => (if t108 = x8_2 then (if t120 = 0 then (if t128 = 0 then (if t136 = 0 then (if bt143.2 = 0 then (if t119 = t135 then (if t127 = bt143.1 then (if (Go.bits .andNot .i64 t108 t119) = 0 then (if (Go.bits .andNot .i64 t127 t108) = 0 then ((Go.Proofs.Ytjffhhalmicodaa.PB.comfitlaw08_awake.f k2).bind fun t145 => (some t145)) else (some false)) else (some false)) else (some false)) else (some false)) else (some false)) else (some false)) else (some false)) else (some false)) else (some false))) else (none))) = some r := H
                  have A36 := Aside0.mk A360
                  clear A360
                  replace H := Option.bind_eq_some_iff.mp H
                  obtain ⟨⟨t137, t140⟩, A370, H⟩ := H
                  replace H : (if ((⟨#[103, 120, 38]⟩ : ByteArray) ++ (Go.Utf8.encode (wrap32 (wrap64 (48 + (wrap64 (Int.tmod (IntKind.u64.wrap (a1)) 4))))))).size + 2 ≤ 9223372036854775807 then ((Go.Proofs.Ytjffhhalmicodaa.X.fixes_Holds.f k2 t137 t140 (((⟨#[103, 120, 38]⟩ : ByteArray) ++ (Go.Utf8.encode (wrap32 (wrap64 (48 + (wrap64 (Int.tmod (IntKind.u64.wrap (a1)) 4))))))) ++ (⟨#[60, 120]⟩ : ByteArray))).bind fun bt143 => (if t108 = x8_2 then (if t120 = 0 then (if t128 = 0 then (if t136 = 0 then (if bt143.2 = 0 then (if t119 = t135 then (if t127 = bt143.1 then (if (Go.bits .andNot .i64 t108 t119) = 0 then (if (Go.bits .andNot .i64 t127 t108) = 0 then ((Go.Proofs.Ytjffhhalmicodaa.PB.comfitlaw08_awake.f k2).bind fun t145 => (some t145)) else (some false)) else (some false)) else (some false)) else (some false)) else (some false)) else (some false)) else (some false)) else (some false)) else (some false))) else (none)) = some r := H
                  have A37 := Aside0.mk A370
                  clear A370
                  by_cases c38 : ((⟨#[103, 120, 38]⟩ : ByteArray) ++ (Go.Utf8.encode (wrap32 (wrap64 (48 + (wrap64 (Int.tmod (IntKind.u64.wrap (a1)) 4))))))).size + 2 ≤ 9223372036854775807
                  · rw [if_pos c38] at H
                    have c38b0 := eq_true c38
                    have c38b1 : decide (((⟨#[103, 120, 38]⟩ : ByteArray) ++ (Go.Utf8.encode (wrap32 (wrap64 (48 + (wrap64 (Int.tmod (IntKind.u64.wrap (a1)) 4))))))).size + 2 ≤ 9223372036854775807) = true := decide_eq_true c38
                    try have c38b2 : (9223372036854775807 < ((⟨#[103, 120, 38]⟩ : ByteArray) ++ (Go.Utf8.encode (wrap32 (wrap64 (48 + (wrap64 (Int.tmod (IntKind.u64.wrap (a1)) 4))))))).size + 2) = False := eq_false (Nat.not_lt.2 c38)
                    have c38z : (9223372036854775807 < 3 + ((Go.Utf8.encode (wrap32 (wrap64 (48 + (wrap64 (Int.tmod (IntKind.u64.wrap (a1)) 4))))))).size + 2) = False := eq_false (by have h_ := c38; rw [ByteArray.size_append, show (⟨#[103, 120, 38]⟩ : ByteArray).size = 3 from rfl] at h_; omega)
                    replace H := Option.bind_eq_some_iff.mp H
                    obtain ⟨⟨t143, t144⟩, A390, H⟩ := H
                    replace H : (if t108 = x8_2 then (if t120 = 0 then (if t128 = 0 then (if t136 = 0 then (if t144 = 0 then (if t119 = t135 then (if t127 = t143 then (if (Go.bits .andNot .i64 t108 t119) = 0 then (if (Go.bits .andNot .i64 t127 t108) = 0 then ((Go.Proofs.Ytjffhhalmicodaa.PB.comfitlaw08_awake.f k2).bind fun t145 => (some t145)) else (some false)) else (some false)) else (some false)) else (some false)) else (some false)) else (some false)) else (some false)) else (some false)) else (some false)) = some r := H
                    have A39 := Aside0.mk A390
                    clear A390
                    by_cases c40 : t108 = x8_2
                    · rw [if_pos c40] at H
                      have c40b0 : (t108 == x8_2) = true := beq_iff_eq.mpr c40
                      have c40b1 : (t108 != x8_2) = false := bne_eq_false_iff_eq.mpr c40
                      clear c40
                      by_cases c41 : t120 = 0
                      · rw [if_pos c41] at H
                        have c41b0 : (t120 == 0) = true := beq_iff_eq.mpr c41
                        have c41b1 : (t120 != 0) = false := bne_eq_false_iff_eq.mpr c41
                        clear c41
                        by_cases c42 : t128 = 0
                        · rw [if_pos c42] at H
                          have c42b0 : (t128 == 0) = true := beq_iff_eq.mpr c42
                          have c42b1 : (t128 != 0) = false := bne_eq_false_iff_eq.mpr c42
                          clear c42
                          by_cases c43 : t136 = 0
                          · rw [if_pos c43] at H
                            have c43b0 : (t136 == 0) = true := beq_iff_eq.mpr c43
                            have c43b1 : (t136 != 0) = false := bne_eq_false_iff_eq.mpr c43
                            clear c43
                            by_cases c44 : t144 = 0
                            · rw [if_pos c44] at H
                              have c44b0 : (t144 == 0) = true := beq_iff_eq.mpr c44
                              have c44b1 : (t144 != 0) = false := bne_eq_false_iff_eq.mpr c44
                              clear c44
                              by_cases c45 : t119 = t135
                              · rw [if_pos c45] at H
                                have c45b0 : (t119 == t135) = true := beq_iff_eq.mpr c45
                                have c45b1 : (t119 != t135) = false := bne_eq_false_iff_eq.mpr c45
                                clear c45
                                by_cases c46 : t127 = t143
                                · rw [if_pos c46] at H
                                  have c46b0 : (t127 == t143) = true := beq_iff_eq.mpr c46
                                  have c46b1 : (t127 != t143) = false := bne_eq_false_iff_eq.mpr c46
                                  clear c46
                                  by_cases c47 : (Go.bits .andNot .i64 t108 t119) = 0
                                  · rw [if_pos c47] at H
                                    have c47b0 : ((Go.bits .andNot .i64 t108 t119) == 0) = true := beq_iff_eq.mpr c47
                                    have c47b1 : ((Go.bits .andNot .i64 t108 t119) != 0) = false := bne_eq_false_iff_eq.mpr c47
                                    clear c47
                                    by_cases c48 : (Go.bits .andNot .i64 t127 t108) = 0
                                    · rw [if_pos c48] at H
                                      have c48b0 : ((Go.bits .andNot .i64 t127 t108) == 0) = true := beq_iff_eq.mpr c48
                                      have c48b1 : ((Go.bits .andNot .i64 t127 t108) != 0) = false := bne_eq_false_iff_eq.mpr c48
                                      clear c48
                                      replace H := Option.bind_eq_some_iff.mp H
                                      obtain ⟨t145, A490, H⟩ := H
                                      replace H : (some t145) = some r := H
                                      have A49 := Aside0.mk A490
                                      clear A490
                                      obtain rfl := Option.some.inj H
                                      have hcz50_0 : wr.cell? ⟨gb101, 0, none⟩ = some (.slice A0_0 l0_0.length c0_0) := (blk_cell BK101.out 0).trans rfl
                                      have hcz50_1 : wr.cell? ⟨gb101, 1, none⟩ = some (.slice A0_1 l0_1.length c0_1) := (blk_cell BK101.out 1).trans rfl
                                      have hfz50_0 := blk_frozen BK101.out 0
                                      have hfz50_1 := blk_frozen BK101.out 1
                                      go_wp2_with (first | ((with_reducible refine gate_callee (f := 17) rfl ?_); refine goesL_ (some 65) rfl rfl Try.func17 (by kernel_rfl) rfl #[.agg #[.slice A0_0 l0_0.length c0_0, .slice A0_1 l0_1.length c0_1]] rfl (by (try simp only [List.map_toArray, List.map_cons, List.map_nil]); first | done | rfl | (simp only [List.length_drop, List.length_take]; rfl)) ?_; (with_reducible refine (Go.Proofs.Ytjffhhalmicodaa.PA.comfitlaw08_Of.calls _ _ l0_0 _ _ l0_1 t113 t116 _ ?side1 ?side2 ?side3 ?side4 A29.out).mono ?_); (case side1 => repeat (first | exact (Kd.C_below HR0_0.out HB.out) | (with_reducible refine Kd.C_alloc ?_ _) | (with_reducible refine Kd.C_drewN ?_ _) | (with_reducible refine Kd.C_drew ?_))); (case side2 => exact HC0_0.out); (case side3 => repeat (first | exact (Kd.C_below HR0_1.out HB.out) | (with_reducible refine Kd.C_alloc ?_ _) | (with_reducible refine Kd.C_drewN ?_ _) | (with_reducible refine Kd.C_drew ?_))); (case side4 => exact HC0_1.out); rintro e w51 ⟨v114, v117, rfl, ho0, ho1, hb⟩; refine ⟨_, rfl, ?_⟩; have n0_ := Aside0.mk (Kd.R_lower ho0 (below_size (by repeat (first | (with_reducible first | exact HB.out | apply below_alloc | apply pw_below_drewN | apply below_drew1 | refine below_set ?_ GE101.out) | exact HB.out)))); have n1_ := Aside0.mk (Kd.R_lower ho1 (below_size (by repeat (first | (with_reducible first | exact HB.out | apply below_alloc | apply pw_below_drewN | apply below_drew1 | refine below_set ?_ GE101.out) | exact HB.out)))); have n2_ := Aside0.mk (blk_below (g := gb101) (o := .cells #[.slice A0_0 l0_0.length c0_0, .slice A0_1 l0_1.length c0_1] 24 (0, 0)) (by (with_reducible repeat (first | refine blk_drewN ?_ _ | refine blk_drew ?_ | refine blk_alloc ?_ _)); exact BK101.out) hb); have n3_ := Aside0.mk (below_step (by repeat (first | (with_reducible first | exact HB.out | apply below_alloc | apply pw_below_drewN | apply below_drew1 | refine below_set ?_ GE101.out) | exact HB.out)) hb); clear BK101; clear HB; have HO115 := n0_; have HO118 := n1_; have BK101 := n2_; have HB := n3_; clear n0_ n1_ n2_ n3_; (try clear hb); (try clear hb2); (try clear hk); (try clear hi); (try clear ho0); (try clear ho1); obtain ⟨Ao52, co52, eo52⟩ := Kd.R_slice HO115.out; subst eo52; obtain ⟨Ao53, co53, eo53⟩ := Kd.R_slice HO118.out; subst eo53) | ((with_reducible refine gate_callee (f := 26) rfl ?_); refine goesL_ (some 67) rfl rfl Try.func26 (by kernel_rfl) rfl #[.agg #[.slice Ao52 t113.length co52, .slice Ao53 t116.length co53], .int .i64 t108] rfl (by (try simp only [List.map_toArray, List.map_cons, List.map_nil]); first | done | rfl | (simp only [List.length_drop, List.length_take]; rfl)) ?_; (with_reducible refine (Go.Proofs.Ytjffhhalmicodaa.X.fixes_Reach.calls _ _ t113 _ _ t116 t108 t119 t120 _ ?side1 ?side2 ?side3 ?side4 A30.out).mono ?_); (case side1 => repeat (first | exact (Kd.R_reads' HO115.out).2.2 | (with_reducible refine Kd.C_alloc ?_ _) | (with_reducible refine Kd.C_drewN ?_ _) | (with_reducible refine Kd.C_drew ?_))); (case side2 => exact (Kd.R_reads' HO115.out).2.1); (case side3 => repeat (first | exact (Kd.R_reads' HO118.out).2.2 | (with_reducible refine Kd.C_alloc ?_ _) | (with_reducible refine Kd.C_drewN ?_ _) | (with_reducible refine Kd.C_drew ?_))); (case side4 => exact (Kd.R_reads' HO118.out).2.1); rintro e w54 ⟨rfl, hb⟩; refine ⟨_, rfl, ?_⟩; have n0_ := Aside0.mk (Kd.R_below (by (with_reducible repeat (first | apply Kd.R_alloc | apply Kd.R_drewN | apply Kd.R_drew)); exact HO115.out) hb); have n1_ := Aside0.mk (Kd.R_below (by (with_reducible repeat (first | apply Kd.R_alloc | apply Kd.R_drewN | apply Kd.R_drew)); exact HO118.out) hb); have n2_ := Aside0.mk (blk_below (g := gb101) (o := .cells #[.slice A0_0 l0_0.length c0_0, .slice A0_1 l0_1.length c0_1] 24 (0, 0)) (by (with_reducible repeat (first | refine blk_drewN ?_ _ | refine blk_drew ?_ | refine blk_alloc ?_ _)); exact BK101.out) hb); have n3_ := Aside0.mk (below_step (by repeat (first | (with_reducible first | exact HB.out | apply below_alloc | apply pw_below_drewN | apply below_drew1 | refine below_set ?_ GE101.out) | exact HB.out)) hb); clear HO115; clear HO118; clear BK101; clear HB; have HO115 := n0_; have HO118 := n1_; have BK101 := n2_; have HB := n3_; clear n0_ n1_ n2_ n3_; (try clear hb); (try clear hb2); (try clear hk); (try clear hi); have hcz55_0 : w54.cell? ⟨gb101, 0, none⟩ = some (.slice A0_0 l0_0.length c0_0) := (blk_cell BK101.out 0).trans rfl; have hcz55_1 : w54.cell? ⟨gb101, 1, none⟩ = some (.slice A0_1 l0_1.length c0_1) := (blk_cell BK101.out 1).trans rfl; have hfz55_0 := blk_frozen BK101.out 0; have hfz55_1 := blk_frozen BK101.out 1) | ((with_reducible refine gate_callee (f := 17) rfl ?_); refine goesL_ (some 72) rfl rfl Try.func17 (by kernel_rfl) rfl #[.agg #[.slice A0_0 l0_0.length c0_0, .slice A0_1 l0_1.length c0_1]] rfl (by (try simp only [List.map_toArray, List.map_cons, List.map_nil]); first | done | rfl | (simp only [List.length_drop, List.length_take]; rfl)) ?_; (with_reducible refine (Go.Proofs.Ytjffhhalmicodaa.PA.comfitlaw08_Of.calls _ _ l0_0 _ _ l0_1 t121 t124 _ ?side1 ?side2 ?side3 ?side4 A31.out).mono ?_); (case side1 => repeat (first | exact (Kd.C_below HR0_0.out HB.out) | (with_reducible refine Kd.C_alloc ?_ _) | (with_reducible refine Kd.C_drewN ?_ _) | (with_reducible refine Kd.C_drew ?_))); (case side2 => exact HC0_0.out); (case side3 => repeat (first | exact (Kd.C_below HR0_1.out HB.out) | (with_reducible refine Kd.C_alloc ?_ _) | (with_reducible refine Kd.C_drewN ?_ _) | (with_reducible refine Kd.C_drew ?_))); (case side4 => exact HC0_1.out); rintro e w56 ⟨v122, v125, rfl, ho0, ho1, hb⟩; refine ⟨_, rfl, ?_⟩; have n0_ := Aside0.mk (Kd.R_mono (Kd.R_told (Kd.R_told (Kd.R_old (by (with_reducible repeat (first | apply Kd.R_alloc | apply Kd.R_drewN | apply Kd.R_drew)); exact HO115.out) hb) (Kd.R_base ho0)) (Kd.R_base ho1)) (fun _ h_ => h_.1)); have n1_ := Aside0.mk (Kd.R_mono (Kd.R_told (Kd.R_told (Kd.R_old (by (with_reducible repeat (first | apply Kd.R_alloc | apply Kd.R_drewN | apply Kd.R_drew)); exact HO118.out) hb) (Kd.R_base ho0)) (Kd.R_base ho1)) (fun _ h_ => h_.1)); have n2_ := Aside0.mk (Kd.R_lower (Kd.R_new' (Kd.R_new' ho0 (Kd.R_lt (by (with_reducible repeat (first | apply Kd.R_alloc | apply Kd.R_drewN | apply Kd.R_drew)); exact HO115.out))) (Kd.R_lt (by (with_reducible repeat (first | apply Kd.R_alloc | apply Kd.R_drewN | apply Kd.R_drew)); exact HO118.out))) (below_size (by repeat (first | (with_reducible first | exact HB.out | apply below_alloc | apply pw_below_drewN | apply below_drew1 | refine below_set ?_ GE101.out) | exact HB.out)))); have n3_ := Aside0.mk (Kd.R_lower (Kd.R_new' (Kd.R_new' ho1 (Kd.R_lt (by (with_reducible repeat (first | apply Kd.R_alloc | apply Kd.R_drewN | apply Kd.R_drew)); exact HO115.out))) (Kd.R_lt (by (with_reducible repeat (first | apply Kd.R_alloc | apply Kd.R_drewN | apply Kd.R_drew)); exact HO118.out))) (below_size (by repeat (first | (with_reducible first | exact HB.out | apply below_alloc | apply pw_below_drewN | apply below_drew1 | refine below_set ?_ GE101.out) | exact HB.out)))); have n4_ := Aside0.mk (blk_below (g := gb101) (o := .cells #[.slice A0_0 l0_0.length c0_0, .slice A0_1 l0_1.length c0_1] 24 (0, 0)) (by (with_reducible repeat (first | refine blk_drewN ?_ _ | refine blk_drew ?_ | refine blk_alloc ?_ _)); exact BK101.out) hb); have n5_ := Aside0.mk (below_step (by repeat (first | (with_reducible first | exact HB.out | apply below_alloc | apply pw_below_drewN | apply below_drew1 | refine below_set ?_ GE101.out) | exact HB.out)) hb); clear HO115; clear HO118; clear BK101; clear HB; have HO115 := n0_; have HO118 := n1_; have HO123 := n2_; have HO126 := n3_; have BK101 := n4_; have HB := n5_; clear n0_ n1_ n2_ n3_ n4_ n5_; (try clear hb); (try clear hb2); (try clear hk); (try clear hi); (try clear ho0); (try clear ho1); obtain ⟨Ao57, co57, eo57⟩ := Kd.R_slice HO123.out; subst eo57; obtain ⟨Ao58, co58, eo58⟩ := Kd.R_slice HO126.out; subst eo58) | ((with_reducible refine gate_callee (f := 27) rfl ?_); refine goesL_ (some 74) rfl rfl Try.func27 (by kernel_rfl) rfl #[.agg #[.slice Ao57 t121.length co57, .slice Ao58 t124.length co58], .int .i64 t108] rfl (by (try simp only [List.map_toArray, List.map_cons, List.map_nil]); first | done | rfl | (simp only [List.length_drop, List.length_take]; rfl)) ?_; (with_reducible refine (Go.Proofs.Ytjffhhalmicodaa.X.fixes_Always.calls _ _ t121 _ _ t124 t108 t127 t128 _ ?side1 ?side2 ?side3 ?side4 A32.out).mono ?_); (case side1 => repeat (first | exact (Kd.R_reads' HO123.out).2.2 | (with_reducible refine Kd.C_alloc ?_ _) | (with_reducible refine Kd.C_drewN ?_ _) | (with_reducible refine Kd.C_drew ?_))); (case side2 => exact (Kd.R_reads' HO123.out).2.1); (case side3 => repeat (first | exact (Kd.R_reads' HO126.out).2.2 | (with_reducible refine Kd.C_alloc ?_ _) | (with_reducible refine Kd.C_drewN ?_ _) | (with_reducible refine Kd.C_drew ?_))); (case side4 => exact (Kd.R_reads' HO126.out).2.1); rintro e w59 ⟨rfl, hb⟩; refine ⟨_, rfl, ?_⟩; have n0_ := Aside0.mk (Kd.R_below (by (with_reducible repeat (first | apply Kd.R_alloc | apply Kd.R_drewN | apply Kd.R_drew)); exact HO115.out) hb); have n1_ := Aside0.mk (Kd.R_below (by (with_reducible repeat (first | apply Kd.R_alloc | apply Kd.R_drewN | apply Kd.R_drew)); exact HO118.out) hb); have n2_ := Aside0.mk (Kd.R_below (by (with_reducible repeat (first | apply Kd.R_alloc | apply Kd.R_drewN | apply Kd.R_drew)); exact HO123.out) hb); have n3_ := Aside0.mk (Kd.R_below (by (with_reducible repeat (first | apply Kd.R_alloc | apply Kd.R_drewN | apply Kd.R_drew)); exact HO126.out) hb); have n4_ := Aside0.mk (blk_below (g := gb101) (o := .cells #[.slice A0_0 l0_0.length c0_0, .slice A0_1 l0_1.length c0_1] 24 (0, 0)) (by (with_reducible repeat (first | refine blk_drewN ?_ _ | refine blk_drew ?_ | refine blk_alloc ?_ _)); exact BK101.out) hb); have n5_ := Aside0.mk (below_step (by repeat (first | (with_reducible first | exact HB.out | apply below_alloc | apply pw_below_drewN | apply below_drew1 | refine below_set ?_ GE101.out) | exact HB.out)) hb); clear HO115; clear HO118; clear HO123; clear HO126; clear BK101; clear HB; have HO115 := n0_; have HO118 := n1_; have HO123 := n2_; have HO126 := n3_; have BK101 := n4_; have HB := n5_; clear n0_ n1_ n2_ n3_ n4_ n5_; (try clear hb); (try clear hb2); (try clear hk); (try clear hi); have hcz60_0 : w59.cell? ⟨gb101, 0, none⟩ = some (.slice A0_0 l0_0.length c0_0) := (blk_cell BK101.out 0).trans rfl; have hcz60_1 : w59.cell? ⟨gb101, 1, none⟩ = some (.slice A0_1 l0_1.length c0_1) := (blk_cell BK101.out 1).trans rfl; have hfz60_0 := blk_frozen BK101.out 0; have hfz60_1 := blk_frozen BK101.out 1) | ((with_reducible refine gate_callee (f := 17) rfl ?_); refine goesL_ (some 79) rfl rfl Try.func17 (by kernel_rfl) rfl #[.agg #[.slice A0_0 l0_0.length c0_0, .slice A0_1 l0_1.length c0_1]] rfl (by (try simp only [List.map_toArray, List.map_cons, List.map_nil]); first | done | rfl | (simp only [List.length_drop, List.length_take]; rfl)) ?_; (with_reducible refine (Go.Proofs.Ytjffhhalmicodaa.PA.comfitlaw08_Of.calls _ _ l0_0 _ _ l0_1 t129 t132 _ ?side1 ?side2 ?side3 ?side4 A33.out).mono ?_); (case side1 => repeat (first | exact (Kd.C_below HR0_0.out HB.out) | (with_reducible refine Kd.C_alloc ?_ _) | (with_reducible refine Kd.C_drewN ?_ _) | (with_reducible refine Kd.C_drew ?_))); (case side2 => exact HC0_0.out); (case side3 => repeat (first | exact (Kd.C_below HR0_1.out HB.out) | (with_reducible refine Kd.C_alloc ?_ _) | (with_reducible refine Kd.C_drewN ?_ _) | (with_reducible refine Kd.C_drew ?_))); (case side4 => exact HC0_1.out); rintro e w61 ⟨v130, v133, rfl, ho0, ho1, hb⟩; refine ⟨_, rfl, ?_⟩; have n0_ := Aside0.mk (Kd.R_mono (Kd.R_told (Kd.R_told (Kd.R_old (by (with_reducible repeat (first | apply Kd.R_alloc | apply Kd.R_drewN | apply Kd.R_drew)); exact HO115.out) hb) (Kd.R_base ho0)) (Kd.R_base ho1)) (fun _ h_ => h_.1)); have n1_ := Aside0.mk (Kd.R_mono (Kd.R_told (Kd.R_told (Kd.R_old (by (with_reducible repeat (first | apply Kd.R_alloc | apply Kd.R_drewN | apply Kd.R_drew)); exact HO118.out) hb) (Kd.R_base ho0)) (Kd.R_base ho1)) (fun _ h_ => h_.1)); have n2_ := Aside0.mk (Kd.R_mono (Kd.R_told (Kd.R_told (Kd.R_old (by (with_reducible repeat (first | apply Kd.R_alloc | apply Kd.R_drewN | apply Kd.R_drew)); exact HO123.out) hb) (Kd.R_base ho0)) (Kd.R_base ho1)) (fun _ h_ => h_.1)); have n3_ := Aside0.mk (Kd.R_mono (Kd.R_told (Kd.R_told (Kd.R_old (by (with_reducible repeat (first | apply Kd.R_alloc | apply Kd.R_drewN | apply Kd.R_drew)); exact HO126.out) hb) (Kd.R_base ho0)) (Kd.R_base ho1)) (fun _ h_ => h_.1)); have n4_ := Aside0.mk (Kd.R_lower (Kd.R_new' (Kd.R_new' (Kd.R_new' (Kd.R_new' ho0 (Kd.R_lt (by (with_reducible repeat (first | apply Kd.R_alloc | apply Kd.R_drewN | apply Kd.R_drew)); exact HO115.out))) (Kd.R_lt (by (with_reducible repeat (first | apply Kd.R_alloc | apply Kd.R_drewN | apply Kd.R_drew)); exact HO118.out))) (Kd.R_lt (by (with_reducible repeat (first | apply Kd.R_alloc | apply Kd.R_drewN | apply Kd.R_drew)); exact HO123.out))) (Kd.R_lt (by (with_reducible repeat (first | apply Kd.R_alloc | apply Kd.R_drewN | apply Kd.R_drew)); exact HO126.out))) (below_size (by repeat (first | (with_reducible first | exact HB.out | apply below_alloc | apply pw_below_drewN | apply below_drew1 | refine below_set ?_ GE101.out) | exact HB.out)))); have n5_ := Aside0.mk (Kd.R_lower (Kd.R_new' (Kd.R_new' (Kd.R_new' (Kd.R_new' ho1 (Kd.R_lt (by (with_reducible repeat (first | apply Kd.R_alloc | apply Kd.R_drewN | apply Kd.R_drew)); exact HO115.out))) (Kd.R_lt (by (with_reducible repeat (first | apply Kd.R_alloc | apply Kd.R_drewN | apply Kd.R_drew)); exact HO118.out))) (Kd.R_lt (by (with_reducible repeat (first | apply Kd.R_alloc | apply Kd.R_drewN | apply Kd.R_drew)); exact HO123.out))) (Kd.R_lt (by (with_reducible repeat (first | apply Kd.R_alloc | apply Kd.R_drewN | apply Kd.R_drew)); exact HO126.out))) (below_size (by repeat (first | (with_reducible first | exact HB.out | apply below_alloc | apply pw_below_drewN | apply below_drew1 | refine below_set ?_ GE101.out) | exact HB.out)))); have n6_ := Aside0.mk (blk_below (g := gb101) (o := .cells #[.slice A0_0 l0_0.length c0_0, .slice A0_1 l0_1.length c0_1] 24 (0, 0)) (by (with_reducible repeat (first | refine blk_drewN ?_ _ | refine blk_drew ?_ | refine blk_alloc ?_ _)); exact BK101.out) hb); have n7_ := Aside0.mk (below_step (by repeat (first | (with_reducible first | exact HB.out | apply below_alloc | apply pw_below_drewN | apply below_drew1 | refine below_set ?_ GE101.out) | exact HB.out)) hb); clear HO115; clear HO118; clear HO123; clear HO126; clear BK101; clear HB; have HO115 := n0_; have HO118 := n1_; have HO123 := n2_; have HO126 := n3_; have HO131 := n4_; have HO134 := n5_; have BK101 := n6_; have HB := n7_; clear n0_ n1_ n2_ n3_ n4_ n5_ n6_ n7_; (try clear hb); (try clear hb2); (try clear hk); (try clear hi); (try clear ho0); (try clear ho1); obtain ⟨Ao62, co62, eo62⟩ := Kd.R_slice HO131.out; subst eo62; obtain ⟨Ao63, co63, eo63⟩ := Kd.R_slice HO134.out; subst eo63) | ((with_reducible refine gate_callee (f := 16) rfl ?_); refine goesL_ (some 83) rfl rfl Try.func16 (by kernel_rfl) rfl #[.agg #[.slice Ao62 t129.length co62, .slice Ao63 t132.length co63], .string (((⟨#[109, 120, 124]⟩ : ByteArray) ++ (Go.Utf8.encode (wrap32 (wrap64 (48 + (wrap64 (Int.tmod (IntKind.u64.wrap (a1)) 4))))))) ++ (⟨#[60, 120]⟩ : ByteArray))] rfl (by (try simp only [List.map_toArray, List.map_cons, List.map_nil]); first | done | rfl | (simp only [List.length_drop, List.length_take]; rfl)) ?_; (with_reducible refine (Go.Proofs.Ytjffhhalmicodaa.X.fixes_Holds.calls k2 _ _ t129 _ _ t132 (((⟨#[109, 120, 124]⟩ : ByteArray) ++ (Go.Utf8.encode (wrap32 (wrap64 (48 + (wrap64 (Int.tmod (IntKind.u64.wrap (a1)) 4))))))) ++ (⟨#[60, 120]⟩ : ByteArray)) t135 t136 _ ?side1 ?side2 ?side3 ?side4 A36.out).mono ?_); (case side1 => repeat (first | exact (Kd.R_reads' HO131.out).2.2 | (with_reducible refine Kd.C_alloc ?_ _) | (with_reducible refine Kd.C_drewN ?_ _) | (with_reducible refine Kd.C_drew ?_))); (case side2 => exact (Kd.R_reads' HO131.out).2.1); (case side3 => repeat (first | exact (Kd.R_reads' HO134.out).2.2 | (with_reducible refine Kd.C_alloc ?_ _) | (with_reducible refine Kd.C_drewN ?_ _) | (with_reducible refine Kd.C_drew ?_))); (case side4 => exact (Kd.R_reads' HO134.out).2.1); rintro e w64 ⟨rfl, hb⟩; refine ⟨_, rfl, ?_⟩; have n0_ := Aside0.mk (Kd.R_below (by (with_reducible repeat (first | apply Kd.R_alloc | apply Kd.R_drewN | apply Kd.R_drew)); exact HO115.out) hb); have n1_ := Aside0.mk (Kd.R_below (by (with_reducible repeat (first | apply Kd.R_alloc | apply Kd.R_drewN | apply Kd.R_drew)); exact HO118.out) hb); have n2_ := Aside0.mk (Kd.R_below (by (with_reducible repeat (first | apply Kd.R_alloc | apply Kd.R_drewN | apply Kd.R_drew)); exact HO123.out) hb); have n3_ := Aside0.mk (Kd.R_below (by (with_reducible repeat (first | apply Kd.R_alloc | apply Kd.R_drewN | apply Kd.R_drew)); exact HO126.out) hb); have n4_ := Aside0.mk (Kd.R_below (by (with_reducible repeat (first | apply Kd.R_alloc | apply Kd.R_drewN | apply Kd.R_drew)); exact HO131.out) hb); have n5_ := Aside0.mk (Kd.R_below (by (with_reducible repeat (first | apply Kd.R_alloc | apply Kd.R_drewN | apply Kd.R_drew)); exact HO134.out) hb); have n6_ := Aside0.mk (blk_below (g := gb101) (o := .cells #[.slice A0_0 l0_0.length c0_0, .slice A0_1 l0_1.length c0_1] 24 (0, 0)) (by (with_reducible repeat (first | refine blk_drewN ?_ _ | refine blk_drew ?_ | refine blk_alloc ?_ _)); exact BK101.out) hb); have n7_ := Aside0.mk (below_step (by repeat (first | (with_reducible first | exact HB.out | apply below_alloc | apply pw_below_drewN | apply below_drew1 | refine below_set ?_ GE101.out) | exact HB.out)) hb); clear HO115; clear HO118; clear HO123; clear HO126; clear HO131; clear HO134; clear BK101; clear HB; have HO115 := n0_; have HO118 := n1_; have HO123 := n2_; have HO126 := n3_; have HO131 := n4_; have HO134 := n5_; have BK101 := n6_; have HB := n7_; clear n0_ n1_ n2_ n3_ n4_ n5_ n6_ n7_; (try clear hb); (try clear hb2); (try clear hk); (try clear hi); have hcz65_0 : w64.cell? ⟨gb101, 0, none⟩ = some (.slice A0_0 l0_0.length c0_0) := (blk_cell BK101.out 0).trans rfl; have hcz65_1 : w64.cell? ⟨gb101, 1, none⟩ = some (.slice A0_1 l0_1.length c0_1) := (blk_cell BK101.out 1).trans rfl; have hfz65_0 := blk_frozen BK101.out 0; have hfz65_1 := blk_frozen BK101.out 1) | ((with_reducible refine gate_callee (f := 17) rfl ?_); refine goesL_ (some 88) rfl rfl Try.func17 (by kernel_rfl) rfl #[.agg #[.slice A0_0 l0_0.length c0_0, .slice A0_1 l0_1.length c0_1]] rfl (by (try simp only [List.map_toArray, List.map_cons, List.map_nil]); first | done | rfl | (simp only [List.length_drop, List.length_take]; rfl)) ?_; (with_reducible refine (Go.Proofs.Ytjffhhalmicodaa.PA.comfitlaw08_Of.calls _ _ l0_0 _ _ l0_1 t137 t140 _ ?side1 ?side2 ?side3 ?side4 A37.out).mono ?_); (case side1 => repeat (first | exact (Kd.C_below HR0_0.out HB.out) | (with_reducible refine Kd.C_alloc ?_ _) | (with_reducible refine Kd.C_drewN ?_ _) | (with_reducible refine Kd.C_drew ?_))); (case side2 => exact HC0_0.out); (case side3 => repeat (first | exact (Kd.C_below HR0_1.out HB.out) | (with_reducible refine Kd.C_alloc ?_ _) | (with_reducible refine Kd.C_drewN ?_ _) | (with_reducible refine Kd.C_drew ?_))); (case side4 => exact HC0_1.out); rintro e w66 ⟨v138, v141, rfl, ho0, ho1, hb⟩; refine ⟨_, rfl, ?_⟩; have n0_ := Aside0.mk (Kd.R_mono (Kd.R_told (Kd.R_told (Kd.R_old (by (with_reducible repeat (first | apply Kd.R_alloc | apply Kd.R_drewN | apply Kd.R_drew)); exact HO115.out) hb) (Kd.R_base ho0)) (Kd.R_base ho1)) (fun _ h_ => h_.1)); have n1_ := Aside0.mk (Kd.R_mono (Kd.R_told (Kd.R_told (Kd.R_old (by (with_reducible repeat (first | apply Kd.R_alloc | apply Kd.R_drewN | apply Kd.R_drew)); exact HO118.out) hb) (Kd.R_base ho0)) (Kd.R_base ho1)) (fun _ h_ => h_.1)); have n2_ := Aside0.mk (Kd.R_mono (Kd.R_told (Kd.R_told (Kd.R_old (by (with_reducible repeat (first | apply Kd.R_alloc | apply Kd.R_drewN | apply Kd.R_drew)); exact HO123.out) hb) (Kd.R_base ho0)) (Kd.R_base ho1)) (fun _ h_ => h_.1)); have n3_ := Aside0.mk (Kd.R_mono (Kd.R_told (Kd.R_told (Kd.R_old (by (with_reducible repeat (first | apply Kd.R_alloc | apply Kd.R_drewN | apply Kd.R_drew)); exact HO126.out) hb) (Kd.R_base ho0)) (Kd.R_base ho1)) (fun _ h_ => h_.1)); have n4_ := Aside0.mk (Kd.R_mono (Kd.R_told (Kd.R_told (Kd.R_old (by (with_reducible repeat (first | apply Kd.R_alloc | apply Kd.R_drewN | apply Kd.R_drew)); exact HO131.out) hb) (Kd.R_base ho0)) (Kd.R_base ho1)) (fun _ h_ => h_.1)); have n5_ := Aside0.mk (Kd.R_mono (Kd.R_told (Kd.R_told (Kd.R_old (by (with_reducible repeat (first | apply Kd.R_alloc | apply Kd.R_drewN | apply Kd.R_drew)); exact HO134.out) hb) (Kd.R_base ho0)) (Kd.R_base ho1)) (fun _ h_ => h_.1)); have n6_ := Aside0.mk (Kd.R_lower (Kd.R_new' (Kd.R_new' (Kd.R_new' (Kd.R_new' (Kd.R_new' (Kd.R_new' ho0 (Kd.R_lt (by (with_reducible repeat (first | apply Kd.R_alloc | apply Kd.R_drewN | apply Kd.R_drew)); exact HO115.out))) (Kd.R_lt (by (with_reducible repeat (first | apply Kd.R_alloc | apply Kd.R_drewN | apply Kd.R_drew)); exact HO118.out))) (Kd.R_lt (by (with_reducible repeat (first | apply Kd.R_alloc | apply Kd.R_drewN | apply Kd.R_drew)); exact HO123.out))) (Kd.R_lt (by (with_reducible repeat (first | apply Kd.R_alloc | apply Kd.R_drewN | apply Kd.R_drew)); exact HO126.out))) (Kd.R_lt (by (with_reducible repeat (first | apply Kd.R_alloc | apply Kd.R_drewN | apply Kd.R_drew)); exact HO131.out))) (Kd.R_lt (by (with_reducible repeat (first | apply Kd.R_alloc | apply Kd.R_drewN | apply Kd.R_drew)); exact HO134.out))) (below_size (by repeat (first | (with_reducible first | exact HB.out | apply below_alloc | apply pw_below_drewN | apply below_drew1 | refine below_set ?_ GE101.out) | exact HB.out)))); have n7_ := Aside0.mk (Kd.R_lower (Kd.R_new' (Kd.R_new' (Kd.R_new' (Kd.R_new' (Kd.R_new' (Kd.R_new' ho1 (Kd.R_lt (by (with_reducible repeat (first | apply Kd.R_alloc | apply Kd.R_drewN | apply Kd.R_drew)); exact HO115.out))) (Kd.R_lt (by (with_reducible repeat (first | apply Kd.R_alloc | apply Kd.R_drewN | apply Kd.R_drew)); exact HO118.out))) (Kd.R_lt (by (with_reducible repeat (first | apply Kd.R_alloc | apply Kd.R_drewN | apply Kd.R_drew)); exact HO123.out))) (Kd.R_lt (by (with_reducible repeat (first | apply Kd.R_alloc | apply Kd.R_drewN | apply Kd.R_drew)); exact HO126.out))) (Kd.R_lt (by (with_reducible repeat (first | apply Kd.R_alloc | apply Kd.R_drewN | apply Kd.R_drew)); exact HO131.out))) (Kd.R_lt (by (with_reducible repeat (first | apply Kd.R_alloc | apply Kd.R_drewN | apply Kd.R_drew)); exact HO134.out))) (below_size (by repeat (first | (with_reducible first | exact HB.out | apply below_alloc | apply pw_below_drewN | apply below_drew1 | refine below_set ?_ GE101.out) | exact HB.out)))); have n8_ := Aside0.mk (blk_below (g := gb101) (o := .cells #[.slice A0_0 l0_0.length c0_0, .slice A0_1 l0_1.length c0_1] 24 (0, 0)) (by (with_reducible repeat (first | refine blk_drewN ?_ _ | refine blk_drew ?_ | refine blk_alloc ?_ _)); exact BK101.out) hb); have n9_ := Aside0.mk (below_step (by repeat (first | (with_reducible first | exact HB.out | apply below_alloc | apply pw_below_drewN | apply below_drew1 | refine below_set ?_ GE101.out) | exact HB.out)) hb); clear HO115; clear HO118; clear HO123; clear HO126; clear HO131; clear HO134; clear BK101; clear HB; have HO115 := n0_; have HO118 := n1_; have HO123 := n2_; have HO126 := n3_; have HO131 := n4_; have HO134 := n5_; have HO139 := n6_; have HO142 := n7_; have BK101 := n8_; have HB := n9_; clear n0_ n1_ n2_ n3_ n4_ n5_ n6_ n7_ n8_ n9_; (try clear hb); (try clear hb2); (try clear hk); (try clear hi); (try clear ho0); (try clear ho1); obtain ⟨Ao67, co67, eo67⟩ := Kd.R_slice HO139.out; subst eo67; obtain ⟨Ao68, co68, eo68⟩ := Kd.R_slice HO142.out; subst eo68) | ((with_reducible refine gate_callee (f := 16) rfl ?_); refine goesL_ (some 92) rfl rfl Try.func16 (by kernel_rfl) rfl #[.agg #[.slice Ao67 t137.length co67, .slice Ao68 t140.length co68], .string (((⟨#[103, 120, 38]⟩ : ByteArray) ++ (Go.Utf8.encode (wrap32 (wrap64 (48 + (wrap64 (Int.tmod (IntKind.u64.wrap (a1)) 4))))))) ++ (⟨#[60, 120]⟩ : ByteArray))] rfl (by (try simp only [List.map_toArray, List.map_cons, List.map_nil]); first | done | rfl | (simp only [List.length_drop, List.length_take]; rfl)) ?_; (with_reducible refine (Go.Proofs.Ytjffhhalmicodaa.X.fixes_Holds.calls k2 _ _ t137 _ _ t140 (((⟨#[103, 120, 38]⟩ : ByteArray) ++ (Go.Utf8.encode (wrap32 (wrap64 (48 + (wrap64 (Int.tmod (IntKind.u64.wrap (a1)) 4))))))) ++ (⟨#[60, 120]⟩ : ByteArray)) t143 t144 _ ?side1 ?side2 ?side3 ?side4 A39.out).mono ?_); (case side1 => repeat (first | exact (Kd.R_reads' HO139.out).2.2 | (with_reducible refine Kd.C_alloc ?_ _) | (with_reducible refine Kd.C_drewN ?_ _) | (with_reducible refine Kd.C_drew ?_))); (case side2 => exact (Kd.R_reads' HO139.out).2.1); (case side3 => repeat (first | exact (Kd.R_reads' HO142.out).2.2 | (with_reducible refine Kd.C_alloc ?_ _) | (with_reducible refine Kd.C_drewN ?_ _) | (with_reducible refine Kd.C_drew ?_))); (case side4 => exact (Kd.R_reads' HO142.out).2.1); rintro e w69 ⟨rfl, hb⟩; refine ⟨_, rfl, ?_⟩; have n0_ := Aside0.mk (Kd.R_below (by (with_reducible repeat (first | apply Kd.R_alloc | apply Kd.R_drewN | apply Kd.R_drew)); exact HO115.out) hb); have n1_ := Aside0.mk (Kd.R_below (by (with_reducible repeat (first | apply Kd.R_alloc | apply Kd.R_drewN | apply Kd.R_drew)); exact HO118.out) hb); have n2_ := Aside0.mk (Kd.R_below (by (with_reducible repeat (first | apply Kd.R_alloc | apply Kd.R_drewN | apply Kd.R_drew)); exact HO123.out) hb); have n3_ := Aside0.mk (Kd.R_below (by (with_reducible repeat (first | apply Kd.R_alloc | apply Kd.R_drewN | apply Kd.R_drew)); exact HO126.out) hb); have n4_ := Aside0.mk (Kd.R_below (by (with_reducible repeat (first | apply Kd.R_alloc | apply Kd.R_drewN | apply Kd.R_drew)); exact HO131.out) hb); have n5_ := Aside0.mk (Kd.R_below (by (with_reducible repeat (first | apply Kd.R_alloc | apply Kd.R_drewN | apply Kd.R_drew)); exact HO134.out) hb); have n6_ := Aside0.mk (Kd.R_below (by (with_reducible repeat (first | apply Kd.R_alloc | apply Kd.R_drewN | apply Kd.R_drew)); exact HO139.out) hb); have n7_ := Aside0.mk (Kd.R_below (by (with_reducible repeat (first | apply Kd.R_alloc | apply Kd.R_drewN | apply Kd.R_drew)); exact HO142.out) hb); have n8_ := Aside0.mk (blk_below (g := gb101) (o := .cells #[.slice A0_0 l0_0.length c0_0, .slice A0_1 l0_1.length c0_1] 24 (0, 0)) (by (with_reducible repeat (first | refine blk_drewN ?_ _ | refine blk_drew ?_ | refine blk_alloc ?_ _)); exact BK101.out) hb); have n9_ := Aside0.mk (below_step (by repeat (first | (with_reducible first | exact HB.out | apply below_alloc | apply pw_below_drewN | apply below_drew1 | refine below_set ?_ GE101.out) | exact HB.out)) hb); clear HO115; clear HO118; clear HO123; clear HO126; clear HO131; clear HO134; clear HO139; clear HO142; clear BK101; clear HB; have HO115 := n0_; have HO118 := n1_; have HO123 := n2_; have HO126 := n3_; have HO131 := n4_; have HO134 := n5_; have HO139 := n6_; have HO142 := n7_; have BK101 := n8_; have HB := n9_; clear n0_ n1_ n2_ n3_ n4_ n5_ n6_ n7_ n8_ n9_; (try clear hb); (try clear hb2); (try clear hk); (try clear hi)) | (go_at_call 22; (with_reducible refine (Go.Proofs.Ytjffhhalmicodaa.PB.comfitlaw08_awake.calls k2  t145 _ A49.out).mono ?_); rintro e w70 ⟨rfl, hb⟩; have n0_ := Aside0.mk (Kd.R_below (by (with_reducible repeat (first | apply Kd.R_alloc | apply Kd.R_drewN | apply Kd.R_drew)); exact HO115.out) hb); have n1_ := Aside0.mk (Kd.R_below (by (with_reducible repeat (first | apply Kd.R_alloc | apply Kd.R_drewN | apply Kd.R_drew)); exact HO118.out) hb); have n2_ := Aside0.mk (Kd.R_below (by (with_reducible repeat (first | apply Kd.R_alloc | apply Kd.R_drewN | apply Kd.R_drew)); exact HO123.out) hb); have n3_ := Aside0.mk (Kd.R_below (by (with_reducible repeat (first | apply Kd.R_alloc | apply Kd.R_drewN | apply Kd.R_drew)); exact HO126.out) hb); have n4_ := Aside0.mk (Kd.R_below (by (with_reducible repeat (first | apply Kd.R_alloc | apply Kd.R_drewN | apply Kd.R_drew)); exact HO131.out) hb); have n5_ := Aside0.mk (Kd.R_below (by (with_reducible repeat (first | apply Kd.R_alloc | apply Kd.R_drewN | apply Kd.R_drew)); exact HO134.out) hb); have n6_ := Aside0.mk (Kd.R_below (by (with_reducible repeat (first | apply Kd.R_alloc | apply Kd.R_drewN | apply Kd.R_drew)); exact HO139.out) hb); have n7_ := Aside0.mk (Kd.R_below (by (with_reducible repeat (first | apply Kd.R_alloc | apply Kd.R_drewN | apply Kd.R_drew)); exact HO142.out) hb); have n8_ := Aside0.mk (blk_below (g := gb101) (o := .cells #[.slice A0_0 l0_0.length c0_0, .slice A0_1 l0_1.length c0_1] 24 (0, 0)) (by (with_reducible repeat (first | refine blk_drewN ?_ _ | refine blk_drew ?_ | refine blk_alloc ?_ _)); exact BK101.out) hb); have n9_ := Aside0.mk (below_step (by repeat (first | (with_reducible first | exact HB.out | apply below_alloc | apply pw_below_drewN | apply below_drew1 | refine below_set ?_ GE101.out) | exact HB.out)) hb); clear HO115; clear HO118; clear HO123; clear HO126; clear HO131; clear HO134; clear HO139; clear HO142; clear BK101; clear HB; have HO115 := n0_; have HO118 := n1_; have HO123 := n2_; have HO126 := n3_; have HO131 := n4_; have HO134 := n5_; have HO139 := n6_; have HO142 := n7_; have BK101 := n8_; have HB := n9_; clear n0_ n1_ n2_ n3_ n4_ n5_ n6_ n7_ n8_ n9_; (try clear hb); (try clear hb2); (try clear hk); (try clear hi)))
                                      go_ret
                                      exact ⟨by first | rfl | (simp [errW_none, errW_some] <;> rfl) | (simp [*, errW_none, errW_some] <;> rfl), by repeat (first | (with_reducible first | exact HB.out | apply below_alloc | apply pw_below_drewN | apply below_drew1 | refine below_set ?_ GE101.out) | exact HB.out)⟩
                                    · rw [if_neg c48] at H
                                      exact absurd (Option.some.inj H) (by rw [ht]; decide)
                                  · rw [if_neg c47] at H
                                    exact absurd (Option.some.inj H) (by rw [ht]; decide)
                                · rw [if_neg c46] at H
                                  exact absurd (Option.some.inj H) (by rw [ht]; decide)
                              · rw [if_neg c45] at H
                                exact absurd (Option.some.inj H) (by rw [ht]; decide)
                            · rw [if_neg c44] at H
                              exact absurd (Option.some.inj H) (by rw [ht]; decide)
                          · rw [if_neg c43] at H
                            exact absurd (Option.some.inj H) (by rw [ht]; decide)
                        · rw [if_neg c42] at H
                          exact absurd (Option.some.inj H) (by rw [ht]; decide)
                      · rw [if_neg c41] at H
                        exact absurd (Option.some.inj H) (by rw [ht]; decide)
                    · rw [if_neg c40] at H
                      exact absurd (Option.some.inj H) (by rw [ht]; decide)
                  · rw [if_neg c38] at H
                    exact absurd H (by simp)
                · rw [if_neg c35] at H
                  exact absurd H (by simp)
              · rw [if_neg c34] at H
                exact absurd H (by simp)

end Go.Proofs.Ytjffhhalmicodaa.PD
