import Derived.Test.YtjffhhalmicodaaXn
set_option linter.unusedVariables false
set_option linter.unusedSimpArgs false
namespace Go.Proofs.Ytjffhhalmicodaa.X
open Go.RowKit Go.Proofs.YtjffhhalmicodaaW.PrintWords Go.Proofs.YtjffhhalmicodaaW.PrintLast Go.Proofs.YtjffhhalmicodaaW.PrintMore

/-- what a call leaves that may write map r, and no other block that was there -/
structure HP (r : Nat) (m : List (Int × Int)) (W w' : World) : Prop where
  map : IsM (Value.int .u8) (Value.int .i64) w' r m
  keep : KeepBut W w' r none
  low : ∀ B u, Below B u W → B ≤ r → Below B u w'
theorem HP.of_below {r : Nat} {m : List (Int × Int)} {W w' : World} (hm : IsM (Value.int .u8) (Value.int .i64) W r m) (hb : Below W.heap.size W w') : HP r m W w' :=
  ⟨hm.below hb, KeepBut.of_below hb r none, fun B u h hr => h.trans (hb.mono (Nat.le_trans hr (Nat.le_of_lt hm.lt)))⟩
theorem HP.trans {r : Nat} {m m2 : List (Int × Int)} {a b c : World} (h : HP r m a b) (k : HP r m2 b c) : HP r m2 a c :=
  ⟨k.map, h.keep.trans k.keep (Or.inl rfl), fun B u hB hr => k.low B u (h.low B u hB hr) hr⟩
theorem HP.cells {r : Nat} {m m' : List (Int × Int)} {W w' : World} (h : HP r m W w') (hm : IsM (Value.int .u8) (Value.int .i64) W r m') : Cells W w' := by
  obtain ⟨es, clock, hb, _⟩ := hm
  exact Cells.of_map hb h.keep

/-- holds at a formula: from the map m it comes to res, and leaves m' -/
def HoldsC (nx mk : List Int) (f : Fm) (m : List (Int × Int)) (res : Int) (m' : List (Int × Int)) : Prop :=
  ∀ (A0 : Option Addr) (c0 : Nat) (A1 : Option Addr) (c1 : Nat) (ok : Nat → Prop) (v : Value) (r : Nat) (w : World), Kd.C (Kd.int .i64) w A0 nx.length nx → nx.length ≤ c0 → Kd.C (Kd.int .i64) w A1 mk.length mk → mk.length ≤ c1 →
    Tree w ok f v → IsM (Value.int .u8) (Value.int .i64) w r m → Calls Try.prog 47 #[.agg #[.slice A0 nx.length c0, .slice A1 mk.length c1], v, .map (some r)] w fun e w' => e = .returned (.int .i64 res) ∧ HP r m' w w'

set_option maxRecDepth 100000 in
set_option maxHeartbeats 2000000 in
theorem holds_and (A0 : Option Addr) (c0 : Nat) (nx : List Int) (A1 : Option Addr) (c1 : Nat) (mk : List Int) (gn r : Nat) (w : World) (hr0 : Kd.C (Kd.int .i64) w A0 nx.length nx) (hc0 : nx.length ≤ c0) (hr1 : Kd.C (Kd.int .i64) w A1 mk.length mk) (hc1 : mk.length ≤ c1) (hlen : nx.length = mk.length) (kb ko cp : Nat) (va vb : Value) (a b : Fm) (m m1 m2 : List (Int × Int)) (x y : Int) (ok : Nat → Prop) (hn0 : w.cell? ⟨gn, 0, none⟩ = some (.int .u8 38)) (hn3 : w.cell? ⟨gn, 3, none⟩ = some (.slice (some ⟨kb, ko, none⟩) 2 cp)) (hka : w.cell? ⟨kb, ko, none⟩ = some va) (hkb : w.cell? ⟨kb, ko + 1, none⟩ = some vb) (ha : Tree w ok a va) (hb : Tree w ok b vb) (hm : IsM (Value.int .u8) (Value.int .i64) w r m) (iha : HoldsC nx mk a m x m1) (ihb : HoldsC nx mk b m1 y m2) :
    Calls Try.prog 47 #[.agg #[.slice A0 nx.length c0, .slice A1 mk.length c1], .pointer (some ⟨gn, 0, none⟩), .map (some r)] w fun e w' => e = .returned (.int .i64 (bits .and .i64 x y)) ∧ HP r m2 w w' := by
  have HM := Lib.hid hm
  have HA := Lib.hid ha
  have HB := Lib.hid hb
  have IA := Lib.hid iha
  have IB := Lib.hid ihb
  clear hm ha hb iha ihb
  have hu := Try.underlying28
  have hu2 := Try.underlying74
  have HR0 := Lib.hid hr0
  have HR1 := Lib.hid hr1
  have HLEN := Lib.hid hlen
  have hle := hr0.2.1
  clear hr0 hr1 hlen
  go_enter Try.func47, Try.ntmps47
  go_wp2_with (first | ((with_reducible refine gate_dst (N := 3) rfl ?_); refine box_event ?hg (N := 3) ?hd (cs := #[.slice A0 nx.length c0, .slice A1 mk.length c1]) (t := 28) ?hr ?_; (case hd => rfl); (case hg => rfl); (case hr => first | (go_simp; done) | (go_simp; rfl)); intro gw hgw wb hbw hbb; have k0_ := pw_cell_below hbb hn0; clear hn0; have hn0 := k0_; clear k0_; have k1_ := pw_cell_below hbb hn3; clear hn3; have hn3 := k1_; clear k1_; have k2_ := pw_cell_below hbb hka; clear hka; have hka := k2_; clear k2_; have k3_ := pw_cell_below hbb hkb; clear hkb; have hkb := k3_; clear k3_; have HGW := Lib.hid hbw; have HBW := Lib.hid (below_step (Below.refl w.heap.size w) hbb); clear hgw hbw hbb) | ((with_reducible refine gate_dst (N := 4) rfl ?_); refine box_event ?hg (N := 4) ?hd (cs := #[.pointer (some ⟨gn, 0, none⟩)]) (t := 60) ?hr ?_; (case hd => rfl); (case hg => rfl); (case hr => first | (go_simp; done) | (go_simp; rfl)); intro gf hgf wc hbf hbb; have k0_ := pw_cell_below hbb hn0; clear hn0; have hn0 := k0_; clear k0_; have k1_ := pw_cell_below hbb hn3; clear hn3; have hn3 := k1_; clear k1_; have k2_ := pw_cell_below hbb hka; clear hka; have hka := k2_; clear k2_; have k3_ := pw_cell_below hbb hkb; clear hkb; have hkb := k3_; clear k3_; have k0_ := Lib.hid (blk_below HGW.out hbb); have k1_ := Lib.hid (below_step HBW.out hbb); clear HGW HBW; have HGW := k0_; have HBW := k1_; clear k0_ k1_; have HGF := Lib.hid hbf; have hw0 : wc.cell? ⟨gw, 0, none⟩ = some (.slice A0 nx.length c0) := (blk_cell HGW.out 0).trans rfl; have hw1 : wc.cell? ⟨gw, 1, none⟩ = some (.slice A1 mk.length c1) := (blk_cell HGW.out 1).trans rfl; have hf0 : wc.cell? ⟨gf, 0, none⟩ = some (.pointer (some ⟨gn, 0, none⟩)) := (blk_cell HGF.out 0).trans rfl; clear hgf hbf hbb) | fail)
  go_wp2_with fail
  have HS := Lib.hid (show (fun w' => w'.cell? ⟨gw, 0, none⟩ = some (.slice A0 nx.length c0) ∧ w'.cell? ⟨gw, 1, none⟩ = some (.slice A1 mk.length c1) ∧ w'.cell? ⟨gf, 0, none⟩ = some (.pointer (some ⟨gn, 0, none⟩)) ∧ w'.cell? ⟨gn, 3, none⟩ = some (.slice (some ⟨kb, ko, none⟩) 2 cp) ∧ w'.cell? ⟨kb, ko, none⟩ = some va ∧ w'.cell? ⟨kb, ko + 1, none⟩ = some vb) wc.drew from ⟨by simpa using hw0, by simpa using hw1, by simpa using hf0, by simpa using hn3, by simpa using hka, by simpa using hkb⟩)
  have HBD := Lib.hid (below_drew1 HBW.out)
  have HMD := Lib.hid (HP.of_below HM.out HBD.out)
  clear hw0 hw1 hf0 hn3 hka hkb
  refine start_ (n := 20) (S := fun w' => w'.cell? ⟨gw, 0, none⟩ = some (.slice A0 nx.length c0) ∧ w'.cell? ⟨gw, 1, none⟩ = some (.slice A1 mk.length c1) ∧ w'.cell? ⟨gf, 0, none⟩ = some (.pointer (some ⟨gn, 0, none⟩)) ∧ w'.cell? ⟨gn, 3, none⟩ = some (.slice (some ⟨kb, ko, none⟩) 2 cp) ∧ w'.cell? ⟨kb, ko, none⟩ = some va ∧ w'.cell? ⟨kb, ko + 1, none⟩ = some vb) (ds := []) #[false, false, false, false, false, false, false, false, false, false, false, false, false, false, false, false, false, false, false, false] (by kernel_rfl) rfl rfl HS.out (fun hHeld => ?_)
  generalize wc.drew = wd at HS HBD HMD hHeld ⊢
  refine take_ (i := 0) (N := (some 41)) (v := ?_) (a' := ?_) #[true, false, false, false, false, false, false, false, false, false, false, false, false, false, false, false, false, false, false, false] rfl rfl (by kernel_rfl) (fun _ _ _ h => h) (Or.inl ⟨by rfl, ?_⟩) hHeld ?_ ?_
  rotate_left
  · rintro w' ⟨s0, s1, s2, s3, s4, s5⟩; go_simp; first | done | with_reducible rfl
  rotate_left
  · simp only [Act.put, List.setIfInBounds_toArray, List.set_cons_zero, List.set_cons_succ, i64_w, i32_w]; rfl
  refine take_ (i := 1) (N := (some 42)) (v := ?_) (a' := ?_) #[true, true, false, false, false, false, false, false, false, false, false, false, false, false, false, false, false, false, false, false] rfl rfl (by kernel_rfl) (fun _ _ _ h => h) (Or.inl ⟨by rfl, ?_⟩) hHeld ?_ ?_
  rotate_left
  · rintro w' ⟨s0, s1, s2, s3, s4, s5⟩; go_simp; first | done | with_reducible rfl
  rotate_left
  · simp only [Act.put, List.setIfInBounds_toArray, List.set_cons_zero, List.set_cons_succ, i64_w, i32_w]; rfl
  refine pure_ (i := 2) (N := (some 43)) (v := ?_) (a' := ?_) #[true, true, true, false, false, false, false, false, false, false, false, false, false, false, false, false, false, false, false, false] rfl rfl (by kernel_rfl) (fun _ _ _ h => h) (Or.inl ⟨by rfl, ?_⟩) ?_ ?_
  rotate_left
  · intro w'; go_simp; first | done | with_reducible rfl
  rotate_left
  · simp only [Act.put, List.setIfInBounds_toArray, List.set_cons_zero, List.set_cons_succ, i64_w, i32_w]; rfl
  refine pure_ (i := 3) (N := (some 44)) (v := ?_) (a' := ?_) #[true, true, true, true, false, false, false, false, false, false, false, false, false, false, false, false, false, false, false, false] rfl rfl (by kernel_rfl) (fun _ _ _ h => h) (Or.inl ⟨by rfl, ?_⟩) ?_ ?_
  rotate_left
  · intro w'; go_simp; first | done | with_reducible rfl
  rotate_left
  · simp only [Act.put, List.setIfInBounds_toArray, List.set_cons_zero, List.set_cons_succ, i64_w, i32_w]; rfl
  refine take_ (i := 4) (N := (some 45)) (v := ?_) (a' := ?_) #[true, true, true, true, true, false, false, false, false, false, false, false, false, false, false, false, false, false, false, false] rfl rfl (by kernel_rfl) (fun _ _ _ h => h) (Or.inl ⟨by rfl, ?_⟩) hHeld ?_ ?_
  rotate_left
  · rintro w' ⟨s0, s1, s2, s3, s4, s5⟩; go_simp; first | done | with_reducible rfl
  rotate_left
  · simp only [Act.put, List.setIfInBounds_toArray, List.set_cons_zero, List.set_cons_succ, i64_w, i32_w]; rfl
  refine pure_ (i := 5) (N := (some 46)) (v := ?_) (a' := ?_) #[true, true, true, true, true, true, false, false, false, false, false, false, false, false, false, false, false, false, false, false] rfl rfl (by kernel_rfl) (fun _ _ _ h => h) (Or.inl ⟨by rfl, ?_⟩) ?_ ?_
  rotate_left
  · intro w'; go_simp; first | done | with_reducible rfl
  rotate_left
  · simp only [Act.put, List.setIfInBounds_toArray, List.set_cons_zero, List.set_cons_succ, i64_w, i32_w]; rfl
  refine take_ (i := 6) (N := (some 47)) (v := ?_) (a' := ?_) #[true, true, true, true, true, true, true, false, false, false, false, false, false, false, false, false, false, false, false, false] rfl rfl (by kernel_rfl) (fun _ _ _ h => h) (Or.inl ⟨by rfl, ?_⟩) hHeld ?_ ?_
  rotate_left
  · rintro w' ⟨s0, s1, s2, s3, s4, s5⟩; go_simp; first | done | with_reducible rfl
  rotate_left
  · simp only [Act.put, List.setIfInBounds_toArray, List.set_cons_zero, List.set_cons_succ, i64_w, i32_w]; rfl
  refine pure_ (i := 7) (N := (some 48)) (v := ?_) (a' := ?_) #[true, true, true, true, true, true, true, true, false, false, false, false, false, false, false, false, false, false, false, false] rfl rfl (by kernel_rfl) (fun _ _ _ h => h) (Or.inl ⟨by rfl, ?_⟩) ?_ ?_
  rotate_left
  · intro w'; go_simp; first | done | with_reducible rfl
  rotate_left
  · simp only [Act.put, List.setIfInBounds_toArray, List.set_cons_zero, List.set_cons_succ, i64_w, i32_w]; rfl
  refine take_ (i := 9) (N := (some 50)) (v := ?_) (a' := ?_) #[true, true, true, true, true, true, true, true, false, true, false, false, false, false, false, false, false, false, false, false] rfl rfl (by kernel_rfl) (fun _ _ _ h => h) (Or.inl ⟨by rfl, ?_⟩) hHeld ?_ ?_
  rotate_left
  · rintro w' ⟨s0, s1, s2, s3, s4, s5⟩; go_simp; first | done | with_reducible rfl
  rotate_left
  · simp only [Act.put, List.setIfInBounds_toArray, List.set_cons_zero, List.set_cons_succ, i64_w, i32_w]; rfl
  refine take_ (i := 10) (N := (some 51)) (v := ?_) (a' := ?_) #[true, true, true, true, true, true, true, true, false, true, true, false, false, false, false, false, false, false, false, false] rfl rfl (by kernel_rfl) (fun _ _ _ h => h) (Or.inl ⟨by rfl, ?_⟩) hHeld ?_ ?_
  rotate_left
  · rintro w' ⟨s0, s1, s2, s3, s4, s5⟩; go_simp; first | done | with_reducible rfl
  rotate_left
  · simp only [Act.put, List.setIfInBounds_toArray, List.set_cons_zero, List.set_cons_succ, i64_w, i32_w]; rfl
  refine pure_ (i := 11) (N := (some 52)) (v := ?_) (a' := ?_) #[true, true, true, true, true, true, true, true, false, true, true, true, false, false, false, false, false, false, false, false] rfl rfl (by kernel_rfl) (fun _ _ _ h => h) (Or.inl ⟨by rfl, ?_⟩) ?_ ?_
  rotate_left
  · intro w'; go_simp; first | done | with_reducible rfl
  rotate_left
  · simp only [Act.put, List.setIfInBounds_toArray, List.set_cons_zero, List.set_cons_succ, i64_w, i32_w]; rfl
  refine pure_ (i := 12) (N := (some 53)) (v := ?_) (a' := ?_) #[true, true, true, true, true, true, true, true, false, true, true, true, true, false, false, false, false, false, false, false] rfl rfl (by kernel_rfl) (fun _ _ _ h => h) (Or.inl ⟨by rfl, ?_⟩) ?_ ?_
  rotate_left
  · intro w'; go_simp; first | done | with_reducible rfl
  rotate_left
  · simp only [Act.put, List.setIfInBounds_toArray, List.set_cons_zero, List.set_cons_succ, i64_w, i32_w]; rfl
  refine take_ (i := 13) (N := (some 54)) (v := ?_) (a' := ?_) #[true, true, true, true, true, true, true, true, false, true, true, true, true, true, false, false, false, false, false, false] rfl rfl (by kernel_rfl) (fun _ _ _ h => h) (Or.inl ⟨by rfl, ?_⟩) hHeld ?_ ?_
  rotate_left
  · rintro w' ⟨s0, s1, s2, s3, s4, s5⟩; go_simp; first | done | with_reducible rfl
  rotate_left
  · simp only [Act.put, List.setIfInBounds_toArray, List.set_cons_zero, List.set_cons_succ, i64_w, i32_w]; rfl
  refine pure_ (i := 14) (N := (some 55)) (v := ?_) (a' := ?_) #[true, true, true, true, true, true, true, true, false, true, true, true, true, true, true, false, false, false, false, false] rfl rfl (by kernel_rfl) (fun _ _ _ h => h) (Or.inl ⟨by rfl, ?_⟩) ?_ ?_
  rotate_left
  · intro w'; go_simp; first | done | with_reducible rfl
  rotate_left
  · simp only [Act.put, List.setIfInBounds_toArray, List.set_cons_zero, List.set_cons_succ, i64_w, i32_w]; rfl
  refine take_ (i := 15) (N := (some 56)) (v := ?_) (a' := ?_) #[true, true, true, true, true, true, true, true, false, true, true, true, true, true, true, true, false, false, false, false] rfl rfl (by kernel_rfl) (fun _ _ _ h => h) (Or.inl ⟨by rfl, ?_⟩) hHeld ?_ ?_
  rotate_left
  · rintro w' ⟨s0, s1, s2, s3, s4, s5⟩; go_simp; first | done | with_reducible rfl
  rotate_left
  · simp only [Act.put, List.setIfInBounds_toArray, List.set_cons_zero, List.set_cons_succ, i64_w, i32_w]; rfl
  refine pure_ (i := 16) (N := (some 57)) (v := ?_) (a' := ?_) #[true, true, true, true, true, true, true, true, false, true, true, true, true, true, true, true, true, false, false, false] rfl rfl (by kernel_rfl) (fun _ _ _ h => h) (Or.inl ⟨by rfl, ?_⟩) ?_ ?_
  rotate_left
  · intro w'; go_simp; first | done | with_reducible rfl
  rotate_left
  · simp only [Act.put, List.setIfInBounds_toArray, List.set_cons_zero, List.set_cons_succ, i64_w, i32_w]; rfl
  refine one_ (i := 8) (N := (some 49)) #[true, true, true, true, true, true, true, true, true, true, true, true, true, true, true, true, true, false, false, false] rfl rfl (by kernel_rfl) (by decide) (fun K hK => ?_)
  refine goes_ Try.func47 (by kernel_rfl) rfl #[.agg #[.slice A0 nx.length c0, .slice A1 mk.length c1], va, .map (some r)] (by rfl) rfl rfl (by (try simp only [List.map_toArray, List.map_cons, List.map_nil]); first | done | rfl) ?_
  refine (IA.out A0 c0 A1 c1 ok va r wd (Kd.C_below HR0.out HBD.out) hc0 (Kd.C_below HR1.out HBD.out) hc1 (Tree.same (Cells.of_below HBD.out).same (fun _ _ h => h) _ _ HA.out) HMD.out.map).mono ?_
  rintro e w1 ⟨rfl, hp1⟩
  have HC1 := Lib.hid (hp1.cells HMD.out.map)
  have HP1 := Lib.hid (HMD.out.trans hp1)
  have HCW := Lib.hid ((Cells.of_below HBD.out).trans HC1.out)
  clear hp1
  refine ⟨_, rfl, ?_⟩
  refine hK.out _ _ ⟨HC1.out _ _ HS.out.1, HC1.out _ _ HS.out.2.1, HC1.out _ _ HS.out.2.2.1, HC1.out _ _ HS.out.2.2.2.1, HC1.out _ _ HS.out.2.2.2.2.1, HC1.out _ _ HS.out.2.2.2.2.2⟩ (fun hHeld => ?_)
  clear hK K
  refine norm_ (a' := ?_) ?_ ?_
  rotate_left
  · show Act.put _ (some 49) _ = _; simp only [Act.put, List.setIfInBounds_toArray, List.set_cons_zero, List.set_cons_succ, i64_w, i32_w]; rfl
  refine one_ (i := 17) (N := (some 58)) #[true, true, true, true, true, true, true, true, true, true, true, true, true, true, true, true, true, true, false, false] rfl rfl (by kernel_rfl) (by decide) (fun K hK => ?_)
  refine goes_ Try.func47 (by kernel_rfl) rfl #[.agg #[.slice A0 nx.length c0, .slice A1 mk.length c1], vb, .map (some r)] (by rfl) rfl rfl (by (try simp only [List.map_toArray, List.map_cons, List.map_nil]); first | done | rfl) ?_
  refine (IB.out A0 c0 A1 c1 ok vb r w1 (HCW.out.ints HR0.out) hc0 (HCW.out.ints HR1.out) hc1 (Tree.same HCW.out.same (fun _ _ h => h) _ _ HB.out) HP1.out.map).mono ?_
  rintro e w2 ⟨rfl, hp2⟩
  have HC2 := Lib.hid (hp2.cells HP1.out.map)
  have HP2 := Lib.hid (HP1.out.trans hp2)
  clear hp2
  refine ⟨_, rfl, ?_⟩
  refine hK.out _ _ ⟨HC2.out _ _ hHeld.1, HC2.out _ _ hHeld.2.1, HC2.out _ _ hHeld.2.2.1, HC2.out _ _ hHeld.2.2.2.1, HC2.out _ _ hHeld.2.2.2.2.1, HC2.out _ _ hHeld.2.2.2.2.2⟩ (fun hHeld => ?_)
  clear hK K
  refine norm_ (a' := ?_) ?_ ?_
  rotate_left
  · show Act.put _ (some 58) _ = _; simp only [Act.put, List.setIfInBounds_toArray, List.set_cons_zero, List.set_cons_succ, i64_w, i32_w]; rfl
  refine pure_ (i := 18) (N := (some 59)) (v := ?_) (a' := ?_) #[true, true, true, true, true, true, true, true, true, true, true, true, true, true, true, true, true, true, true, false] rfl rfl (by kernel_rfl) (fun _ _ _ h => h) (Or.inl ⟨by rfl, ?_⟩) ?_ ?_
  rotate_left
  · intro w'; go_simp; first | done | with_reducible rfl
  rotate_left
  · simp only [Act.put, List.setIfInBounds_toArray, List.set_cons_zero, List.set_cons_succ, i64_w, i32_w]; rfl
  refine pure_ (i := 19) (N := (some 6)) (v := ?_) (a' := ?_) #[true, true, true, true, true, true, true, true, true, true, true, true, true, true, true, true, true, true, true, true] rfl rfl (by kernel_rfl) (fun _ _ _ h => h) (Or.inl ⟨by rfl, ?_⟩) ?_ ?_
  rotate_left
  · intro w'; go_simp; first | done | with_reducible rfl
  rotate_left
  · simp only [Act.put, List.setIfInBounds_toArray, List.set_cons_zero, List.set_cons_succ, i64_w, i32_w]; rfl
  refine done_ (by kernel_rfl) ?_
  go_wp2
  go_ret
  exact ⟨rfl, HP2.out⟩

set_option maxRecDepth 100000 in
set_option maxHeartbeats 2000000 in
theorem holds_or (A0 : Option Addr) (c0 : Nat) (nx : List Int) (A1 : Option Addr) (c1 : Nat) (mk : List Int) (gn r : Nat) (w : World) (hr0 : Kd.C (Kd.int .i64) w A0 nx.length nx) (hc0 : nx.length ≤ c0) (hr1 : Kd.C (Kd.int .i64) w A1 mk.length mk) (hc1 : mk.length ≤ c1) (hlen : nx.length = mk.length) (kb ko cp : Nat) (va vb : Value) (a b : Fm) (m m1 m2 : List (Int × Int)) (x y : Int) (ok : Nat → Prop) (hn0 : w.cell? ⟨gn, 0, none⟩ = some (.int .u8 124)) (hn3 : w.cell? ⟨gn, 3, none⟩ = some (.slice (some ⟨kb, ko, none⟩) 2 cp)) (hka : w.cell? ⟨kb, ko, none⟩ = some va) (hkb : w.cell? ⟨kb, ko + 1, none⟩ = some vb) (ha : Tree w ok a va) (hb : Tree w ok b vb) (hm : IsM (Value.int .u8) (Value.int .i64) w r m) (iha : HoldsC nx mk a m x m1) (ihb : HoldsC nx mk b m1 y m2) :
    Calls Try.prog 47 #[.agg #[.slice A0 nx.length c0, .slice A1 mk.length c1], .pointer (some ⟨gn, 0, none⟩), .map (some r)] w fun e w' => e = .returned (.int .i64 (bits .or .i64 x y)) ∧ HP r m2 w w' := by
  have HM := Lib.hid hm
  have HA := Lib.hid ha
  have HB := Lib.hid hb
  have IA := Lib.hid iha
  have IB := Lib.hid ihb
  clear hm ha hb iha ihb
  have hu := Try.underlying28
  have hu2 := Try.underlying74
  have HR0 := Lib.hid hr0
  have HR1 := Lib.hid hr1
  have HLEN := Lib.hid hlen
  have hle := hr0.2.1
  clear hr0 hr1 hlen
  go_enter Try.func47, Try.ntmps47
  go_wp2_with (first | ((with_reducible refine gate_dst (N := 3) rfl ?_); refine box_event ?hg (N := 3) ?hd (cs := #[.slice A0 nx.length c0, .slice A1 mk.length c1]) (t := 28) ?hr ?_; (case hd => rfl); (case hg => rfl); (case hr => first | (go_simp; done) | (go_simp; rfl)); intro gw hgw wb hbw hbb; have k0_ := pw_cell_below hbb hn0; clear hn0; have hn0 := k0_; clear k0_; have k1_ := pw_cell_below hbb hn3; clear hn3; have hn3 := k1_; clear k1_; have k2_ := pw_cell_below hbb hka; clear hka; have hka := k2_; clear k2_; have k3_ := pw_cell_below hbb hkb; clear hkb; have hkb := k3_; clear k3_; have HGW := Lib.hid hbw; have HBW := Lib.hid (below_step (Below.refl w.heap.size w) hbb); clear hgw hbw hbb) | ((with_reducible refine gate_dst (N := 4) rfl ?_); refine box_event ?hg (N := 4) ?hd (cs := #[.pointer (some ⟨gn, 0, none⟩)]) (t := 60) ?hr ?_; (case hd => rfl); (case hg => rfl); (case hr => first | (go_simp; done) | (go_simp; rfl)); intro gf hgf wc hbf hbb; have k0_ := pw_cell_below hbb hn0; clear hn0; have hn0 := k0_; clear k0_; have k1_ := pw_cell_below hbb hn3; clear hn3; have hn3 := k1_; clear k1_; have k2_ := pw_cell_below hbb hka; clear hka; have hka := k2_; clear k2_; have k3_ := pw_cell_below hbb hkb; clear hkb; have hkb := k3_; clear k3_; have k0_ := Lib.hid (blk_below HGW.out hbb); have k1_ := Lib.hid (below_step HBW.out hbb); clear HGW HBW; have HGW := k0_; have HBW := k1_; clear k0_ k1_; have HGF := Lib.hid hbf; have hw0 : wc.cell? ⟨gw, 0, none⟩ = some (.slice A0 nx.length c0) := (blk_cell HGW.out 0).trans rfl; have hw1 : wc.cell? ⟨gw, 1, none⟩ = some (.slice A1 mk.length c1) := (blk_cell HGW.out 1).trans rfl; have hf0 : wc.cell? ⟨gf, 0, none⟩ = some (.pointer (some ⟨gn, 0, none⟩)) := (blk_cell HGF.out 0).trans rfl; clear hgf hbf hbb) | fail)
  go_wp2_with fail
  have HS := Lib.hid (show (fun w' => w'.cell? ⟨gw, 0, none⟩ = some (.slice A0 nx.length c0) ∧ w'.cell? ⟨gw, 1, none⟩ = some (.slice A1 mk.length c1) ∧ w'.cell? ⟨gf, 0, none⟩ = some (.pointer (some ⟨gn, 0, none⟩)) ∧ w'.cell? ⟨gn, 3, none⟩ = some (.slice (some ⟨kb, ko, none⟩) 2 cp) ∧ w'.cell? ⟨kb, ko, none⟩ = some va ∧ w'.cell? ⟨kb, ko + 1, none⟩ = some vb) wc.drew from ⟨by simpa using hw0, by simpa using hw1, by simpa using hf0, by simpa using hn3, by simpa using hka, by simpa using hkb⟩)
  have HBD := Lib.hid (below_drew1 HBW.out)
  have HMD := Lib.hid (HP.of_below HM.out HBD.out)
  clear hw0 hw1 hf0 hn3 hka hkb
  refine start_ (n := 20) (S := fun w' => w'.cell? ⟨gw, 0, none⟩ = some (.slice A0 nx.length c0) ∧ w'.cell? ⟨gw, 1, none⟩ = some (.slice A1 mk.length c1) ∧ w'.cell? ⟨gf, 0, none⟩ = some (.pointer (some ⟨gn, 0, none⟩)) ∧ w'.cell? ⟨gn, 3, none⟩ = some (.slice (some ⟨kb, ko, none⟩) 2 cp) ∧ w'.cell? ⟨kb, ko, none⟩ = some va ∧ w'.cell? ⟨kb, ko + 1, none⟩ = some vb) (ds := []) #[false, false, false, false, false, false, false, false, false, false, false, false, false, false, false, false, false, false, false, false] (by kernel_rfl) rfl rfl HS.out (fun hHeld => ?_)
  generalize wc.drew = wd at HS HBD HMD hHeld ⊢
  refine take_ (i := 0) (N := (some 62)) (v := ?_) (a' := ?_) #[true, false, false, false, false, false, false, false, false, false, false, false, false, false, false, false, false, false, false, false] rfl rfl (by kernel_rfl) (fun _ _ _ h => h) (Or.inl ⟨by rfl, ?_⟩) hHeld ?_ ?_
  rotate_left
  · rintro w' ⟨s0, s1, s2, s3, s4, s5⟩; go_simp; first | done | with_reducible rfl
  rotate_left
  · simp only [Act.put, List.setIfInBounds_toArray, List.set_cons_zero, List.set_cons_succ, i64_w, i32_w]; rfl
  refine take_ (i := 1) (N := (some 63)) (v := ?_) (a' := ?_) #[true, true, false, false, false, false, false, false, false, false, false, false, false, false, false, false, false, false, false, false] rfl rfl (by kernel_rfl) (fun _ _ _ h => h) (Or.inl ⟨by rfl, ?_⟩) hHeld ?_ ?_
  rotate_left
  · rintro w' ⟨s0, s1, s2, s3, s4, s5⟩; go_simp; first | done | with_reducible rfl
  rotate_left
  · simp only [Act.put, List.setIfInBounds_toArray, List.set_cons_zero, List.set_cons_succ, i64_w, i32_w]; rfl
  refine pure_ (i := 2) (N := (some 64)) (v := ?_) (a' := ?_) #[true, true, true, false, false, false, false, false, false, false, false, false, false, false, false, false, false, false, false, false] rfl rfl (by kernel_rfl) (fun _ _ _ h => h) (Or.inl ⟨by rfl, ?_⟩) ?_ ?_
  rotate_left
  · intro w'; go_simp; first | done | with_reducible rfl
  rotate_left
  · simp only [Act.put, List.setIfInBounds_toArray, List.set_cons_zero, List.set_cons_succ, i64_w, i32_w]; rfl
  refine pure_ (i := 3) (N := (some 65)) (v := ?_) (a' := ?_) #[true, true, true, true, false, false, false, false, false, false, false, false, false, false, false, false, false, false, false, false] rfl rfl (by kernel_rfl) (fun _ _ _ h => h) (Or.inl ⟨by rfl, ?_⟩) ?_ ?_
  rotate_left
  · intro w'; go_simp; first | done | with_reducible rfl
  rotate_left
  · simp only [Act.put, List.setIfInBounds_toArray, List.set_cons_zero, List.set_cons_succ, i64_w, i32_w]; rfl
  refine take_ (i := 4) (N := (some 66)) (v := ?_) (a' := ?_) #[true, true, true, true, true, false, false, false, false, false, false, false, false, false, false, false, false, false, false, false] rfl rfl (by kernel_rfl) (fun _ _ _ h => h) (Or.inl ⟨by rfl, ?_⟩) hHeld ?_ ?_
  rotate_left
  · rintro w' ⟨s0, s1, s2, s3, s4, s5⟩; go_simp; first | done | with_reducible rfl
  rotate_left
  · simp only [Act.put, List.setIfInBounds_toArray, List.set_cons_zero, List.set_cons_succ, i64_w, i32_w]; rfl
  refine pure_ (i := 5) (N := (some 67)) (v := ?_) (a' := ?_) #[true, true, true, true, true, true, false, false, false, false, false, false, false, false, false, false, false, false, false, false] rfl rfl (by kernel_rfl) (fun _ _ _ h => h) (Or.inl ⟨by rfl, ?_⟩) ?_ ?_
  rotate_left
  · intro w'; go_simp; first | done | with_reducible rfl
  rotate_left
  · simp only [Act.put, List.setIfInBounds_toArray, List.set_cons_zero, List.set_cons_succ, i64_w, i32_w]; rfl
  refine take_ (i := 6) (N := (some 68)) (v := ?_) (a' := ?_) #[true, true, true, true, true, true, true, false, false, false, false, false, false, false, false, false, false, false, false, false] rfl rfl (by kernel_rfl) (fun _ _ _ h => h) (Or.inl ⟨by rfl, ?_⟩) hHeld ?_ ?_
  rotate_left
  · rintro w' ⟨s0, s1, s2, s3, s4, s5⟩; go_simp; first | done | with_reducible rfl
  rotate_left
  · simp only [Act.put, List.setIfInBounds_toArray, List.set_cons_zero, List.set_cons_succ, i64_w, i32_w]; rfl
  refine pure_ (i := 7) (N := (some 69)) (v := ?_) (a' := ?_) #[true, true, true, true, true, true, true, true, false, false, false, false, false, false, false, false, false, false, false, false] rfl rfl (by kernel_rfl) (fun _ _ _ h => h) (Or.inl ⟨by rfl, ?_⟩) ?_ ?_
  rotate_left
  · intro w'; go_simp; first | done | with_reducible rfl
  rotate_left
  · simp only [Act.put, List.setIfInBounds_toArray, List.set_cons_zero, List.set_cons_succ, i64_w, i32_w]; rfl
  refine take_ (i := 9) (N := (some 71)) (v := ?_) (a' := ?_) #[true, true, true, true, true, true, true, true, false, true, false, false, false, false, false, false, false, false, false, false] rfl rfl (by kernel_rfl) (fun _ _ _ h => h) (Or.inl ⟨by rfl, ?_⟩) hHeld ?_ ?_
  rotate_left
  · rintro w' ⟨s0, s1, s2, s3, s4, s5⟩; go_simp; first | done | with_reducible rfl
  rotate_left
  · simp only [Act.put, List.setIfInBounds_toArray, List.set_cons_zero, List.set_cons_succ, i64_w, i32_w]; rfl
  refine take_ (i := 10) (N := (some 72)) (v := ?_) (a' := ?_) #[true, true, true, true, true, true, true, true, false, true, true, false, false, false, false, false, false, false, false, false] rfl rfl (by kernel_rfl) (fun _ _ _ h => h) (Or.inl ⟨by rfl, ?_⟩) hHeld ?_ ?_
  rotate_left
  · rintro w' ⟨s0, s1, s2, s3, s4, s5⟩; go_simp; first | done | with_reducible rfl
  rotate_left
  · simp only [Act.put, List.setIfInBounds_toArray, List.set_cons_zero, List.set_cons_succ, i64_w, i32_w]; rfl
  refine pure_ (i := 11) (N := (some 73)) (v := ?_) (a' := ?_) #[true, true, true, true, true, true, true, true, false, true, true, true, false, false, false, false, false, false, false, false] rfl rfl (by kernel_rfl) (fun _ _ _ h => h) (Or.inl ⟨by rfl, ?_⟩) ?_ ?_
  rotate_left
  · intro w'; go_simp; first | done | with_reducible rfl
  rotate_left
  · simp only [Act.put, List.setIfInBounds_toArray, List.set_cons_zero, List.set_cons_succ, i64_w, i32_w]; rfl
  refine pure_ (i := 12) (N := (some 74)) (v := ?_) (a' := ?_) #[true, true, true, true, true, true, true, true, false, true, true, true, true, false, false, false, false, false, false, false] rfl rfl (by kernel_rfl) (fun _ _ _ h => h) (Or.inl ⟨by rfl, ?_⟩) ?_ ?_
  rotate_left
  · intro w'; go_simp; first | done | with_reducible rfl
  rotate_left
  · simp only [Act.put, List.setIfInBounds_toArray, List.set_cons_zero, List.set_cons_succ, i64_w, i32_w]; rfl
  refine take_ (i := 13) (N := (some 75)) (v := ?_) (a' := ?_) #[true, true, true, true, true, true, true, true, false, true, true, true, true, true, false, false, false, false, false, false] rfl rfl (by kernel_rfl) (fun _ _ _ h => h) (Or.inl ⟨by rfl, ?_⟩) hHeld ?_ ?_
  rotate_left
  · rintro w' ⟨s0, s1, s2, s3, s4, s5⟩; go_simp; first | done | with_reducible rfl
  rotate_left
  · simp only [Act.put, List.setIfInBounds_toArray, List.set_cons_zero, List.set_cons_succ, i64_w, i32_w]; rfl
  refine pure_ (i := 14) (N := (some 76)) (v := ?_) (a' := ?_) #[true, true, true, true, true, true, true, true, false, true, true, true, true, true, true, false, false, false, false, false] rfl rfl (by kernel_rfl) (fun _ _ _ h => h) (Or.inl ⟨by rfl, ?_⟩) ?_ ?_
  rotate_left
  · intro w'; go_simp; first | done | with_reducible rfl
  rotate_left
  · simp only [Act.put, List.setIfInBounds_toArray, List.set_cons_zero, List.set_cons_succ, i64_w, i32_w]; rfl
  refine take_ (i := 15) (N := (some 77)) (v := ?_) (a' := ?_) #[true, true, true, true, true, true, true, true, false, true, true, true, true, true, true, true, false, false, false, false] rfl rfl (by kernel_rfl) (fun _ _ _ h => h) (Or.inl ⟨by rfl, ?_⟩) hHeld ?_ ?_
  rotate_left
  · rintro w' ⟨s0, s1, s2, s3, s4, s5⟩; go_simp; first | done | with_reducible rfl
  rotate_left
  · simp only [Act.put, List.setIfInBounds_toArray, List.set_cons_zero, List.set_cons_succ, i64_w, i32_w]; rfl
  refine pure_ (i := 16) (N := (some 78)) (v := ?_) (a' := ?_) #[true, true, true, true, true, true, true, true, false, true, true, true, true, true, true, true, true, false, false, false] rfl rfl (by kernel_rfl) (fun _ _ _ h => h) (Or.inl ⟨by rfl, ?_⟩) ?_ ?_
  rotate_left
  · intro w'; go_simp; first | done | with_reducible rfl
  rotate_left
  · simp only [Act.put, List.setIfInBounds_toArray, List.set_cons_zero, List.set_cons_succ, i64_w, i32_w]; rfl
  refine one_ (i := 8) (N := (some 70)) #[true, true, true, true, true, true, true, true, true, true, true, true, true, true, true, true, true, false, false, false] rfl rfl (by kernel_rfl) (by decide) (fun K hK => ?_)
  refine goes_ Try.func47 (by kernel_rfl) rfl #[.agg #[.slice A0 nx.length c0, .slice A1 mk.length c1], va, .map (some r)] (by rfl) rfl rfl (by (try simp only [List.map_toArray, List.map_cons, List.map_nil]); first | done | rfl) ?_
  refine (IA.out A0 c0 A1 c1 ok va r wd (Kd.C_below HR0.out HBD.out) hc0 (Kd.C_below HR1.out HBD.out) hc1 (Tree.same (Cells.of_below HBD.out).same (fun _ _ h => h) _ _ HA.out) HMD.out.map).mono ?_
  rintro e w1 ⟨rfl, hp1⟩
  have HC1 := Lib.hid (hp1.cells HMD.out.map)
  have HP1 := Lib.hid (HMD.out.trans hp1)
  have HCW := Lib.hid ((Cells.of_below HBD.out).trans HC1.out)
  clear hp1
  refine ⟨_, rfl, ?_⟩
  refine hK.out _ _ ⟨HC1.out _ _ HS.out.1, HC1.out _ _ HS.out.2.1, HC1.out _ _ HS.out.2.2.1, HC1.out _ _ HS.out.2.2.2.1, HC1.out _ _ HS.out.2.2.2.2.1, HC1.out _ _ HS.out.2.2.2.2.2⟩ (fun hHeld => ?_)
  clear hK K
  refine norm_ (a' := ?_) ?_ ?_
  rotate_left
  · show Act.put _ (some 70) _ = _; simp only [Act.put, List.setIfInBounds_toArray, List.set_cons_zero, List.set_cons_succ, i64_w, i32_w]; rfl
  refine one_ (i := 17) (N := (some 79)) #[true, true, true, true, true, true, true, true, true, true, true, true, true, true, true, true, true, true, false, false] rfl rfl (by kernel_rfl) (by decide) (fun K hK => ?_)
  refine goes_ Try.func47 (by kernel_rfl) rfl #[.agg #[.slice A0 nx.length c0, .slice A1 mk.length c1], vb, .map (some r)] (by rfl) rfl rfl (by (try simp only [List.map_toArray, List.map_cons, List.map_nil]); first | done | rfl) ?_
  refine (IB.out A0 c0 A1 c1 ok vb r w1 (HCW.out.ints HR0.out) hc0 (HCW.out.ints HR1.out) hc1 (Tree.same HCW.out.same (fun _ _ h => h) _ _ HB.out) HP1.out.map).mono ?_
  rintro e w2 ⟨rfl, hp2⟩
  have HC2 := Lib.hid (hp2.cells HP1.out.map)
  have HP2 := Lib.hid (HP1.out.trans hp2)
  clear hp2
  refine ⟨_, rfl, ?_⟩
  refine hK.out _ _ ⟨HC2.out _ _ hHeld.1, HC2.out _ _ hHeld.2.1, HC2.out _ _ hHeld.2.2.1, HC2.out _ _ hHeld.2.2.2.1, HC2.out _ _ hHeld.2.2.2.2.1, HC2.out _ _ hHeld.2.2.2.2.2⟩ (fun hHeld => ?_)
  clear hK K
  refine norm_ (a' := ?_) ?_ ?_
  rotate_left
  · show Act.put _ (some 79) _ = _; simp only [Act.put, List.setIfInBounds_toArray, List.set_cons_zero, List.set_cons_succ, i64_w, i32_w]; rfl
  refine pure_ (i := 18) (N := (some 80)) (v := ?_) (a' := ?_) #[true, true, true, true, true, true, true, true, true, true, true, true, true, true, true, true, true, true, true, false] rfl rfl (by kernel_rfl) (fun _ _ _ h => h) (Or.inl ⟨by rfl, ?_⟩) ?_ ?_
  rotate_left
  · intro w'; go_simp; first | done | with_reducible rfl
  rotate_left
  · simp only [Act.put, List.setIfInBounds_toArray, List.set_cons_zero, List.set_cons_succ, i64_w, i32_w]; rfl
  refine pure_ (i := 19) (N := (some 6)) (v := ?_) (a' := ?_) #[true, true, true, true, true, true, true, true, true, true, true, true, true, true, true, true, true, true, true, true] rfl rfl (by kernel_rfl) (fun _ _ _ h => h) (Or.inl ⟨by rfl, ?_⟩) ?_ ?_
  rotate_left
  · intro w'; go_simp; first | done | with_reducible rfl
  rotate_left
  · simp only [Act.put, List.setIfInBounds_toArray, List.set_cons_zero, List.set_cons_succ, i64_w, i32_w]; rfl
  refine done_ (by kernel_rfl) ?_
  go_wp2
  go_ret
  exact ⟨rfl, HP2.out⟩

end Go.Proofs.Ytjffhhalmicodaa.X
