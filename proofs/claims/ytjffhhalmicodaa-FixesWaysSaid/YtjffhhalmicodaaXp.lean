import Derived.Test.YtjffhhalmicodaaXo
set_option linter.unusedVariables false
set_option linter.unusedSimpArgs false
namespace Go.Proofs.Ytjffhhalmicodaa.X
open Go.RowKit Go.Proofs.YtjffhhalmicodaaW.PrintWords Go.Proofs.YtjffhhalmicodaaW.PrintLast Go.Proofs.YtjffhhalmicodaaW.PrintMore

theorem HP.step {r : Nat} {m : List (Int × Int)} {W w' w2 : World} (h : HP r m W w') (hb : Below w'.heap.size w' w2) : HP r m W w2 :=
  h.trans (HP.of_below h.map hb)
theorem HP.set {r : Nat} {m : List (Int × Int)} {W w' : World} (h : HP r m W w') {b i : Nat} (u : Value) (hb : W.heap.size ≤ b) (hr : r < W.heap.size) : HP r m W (w'.setCell ⟨b, i, none⟩ u) :=
  ⟨h.map.setCell _ _, keep_far h.keep hb u, fun B v hB hB2 => (h.low B v hB hB2).setCell (Nat.le_trans hB2 (Nat.le_of_lt (Nat.lt_of_lt_of_le hr hb))) u⟩

set_option maxRecDepth 100000 in
set_option maxHeartbeats 2000000 in
theorem holds_dia (A0 : Option Addr) (c0 : Nat) (nx : List Int) (A1 : Option Addr) (c1 : Nat) (mk : List Int) (gn r : Nat) (w : World) (hr0 : Kd.C (Kd.int .i64) w A0 nx.length nx) (hc0 : nx.length ≤ c0) (hr1 : Kd.C (Kd.int .i64) w A1 mk.length mk) (hc1 : mk.length ≤ c1) (hlen : nx.length = mk.length) (kb ko cp : Nat) (va : Value) (a : Fm) (m m1 : List (Int × Int)) (x : Int) (ok : Nat → Prop) (hn0 : w.cell? ⟨gn, 0, none⟩ = some (.int .u8 60)) (hn3 : w.cell? ⟨gn, 3, none⟩ = some (.slice (some ⟨kb, ko, none⟩) 1 cp)) (hka : w.cell? ⟨kb, ko, none⟩ = some va) (ha : Tree w ok a va) (hm : IsM (Value.int .u8) (Value.int .i64) w r m) (iha : HoldsC nx mk a m x m1) :
    Calls Try.prog 47 #[.agg #[.slice A0 nx.length c0, .slice A1 mk.length c1], .pointer (some ⟨gn, 0, none⟩), .map (some r)] w fun e w' => e = .returned (.int .i64 (stepTo nx x)) ∧ HP r m1 w w' := by
  have HM := Lib.hid hm
  have HRW := Lib.hid hm.lt
  have HA := Lib.hid ha
  have IA := Lib.hid iha
  clear hm ha iha
  have hu := Try.underlying28
  have hu2 := Try.underlying74
  have HR0 := Lib.hid hr0
  have HR1 := Lib.hid hr1
  have HLEN := Lib.hid hlen
  have hle := hr0.2.1
  clear hr0 hr1 hlen
  go_enter Try.func47, Try.ntmps47
  go_wp2_with (first | ((with_reducible refine gate_dst (N := 3) rfl ?_); refine box_event ?hg (N := 3) ?hd (cs := #[.slice A0 nx.length c0, .slice A1 mk.length c1]) (t := 28) ?hr ?_; (case hd => rfl); (case hg => rfl); (case hr => first | (go_simp; done) | (go_simp; rfl)); intro gw hgw wb hbw hbb; have k0_ := pw_cell_below hbb hn0; clear hn0; have hn0 := k0_; clear k0_; have k1_ := pw_cell_below hbb hn3; clear hn3; have hn3 := k1_; clear k1_; have k2_ := pw_cell_below hbb hka; clear hka; have hka := k2_; clear k2_; have HGW := Lib.hid hbw; have HBW := Lib.hid (below_step (Below.refl w.heap.size w) hbb); clear hgw hbw hbb) | ((with_reducible refine gate_dst (N := 4) rfl ?_); refine box_event ?hg (N := 4) ?hd (cs := #[.pointer (some ⟨gn, 0, none⟩)]) (t := 60) ?hr ?_; (case hd => rfl); (case hg => rfl); (case hr => first | (go_simp; done) | (go_simp; rfl)); intro gf hgf wc hbf hbb; have k0_ := pw_cell_below hbb hn0; clear hn0; have hn0 := k0_; clear k0_; have k1_ := pw_cell_below hbb hn3; clear hn3; have hn3 := k1_; clear k1_; have k2_ := pw_cell_below hbb hka; clear hka; have hka := k2_; clear k2_; have k0_ := Lib.hid (blk_below HGW.out hbb); have k1_ := Lib.hid (below_step HBW.out hbb); clear HGW HBW; have HGW := k0_; have HBW := k1_; clear k0_ k1_; have HGF := Lib.hid hbf; have hw0 : wc.cell? ⟨gw, 0, none⟩ = some (.slice A0 nx.length c0) := (blk_cell HGW.out 0).trans rfl; have hw1 : wc.cell? ⟨gw, 1, none⟩ = some (.slice A1 mk.length c1) := (blk_cell HGW.out 1).trans rfl; have hf0 : wc.cell? ⟨gf, 0, none⟩ = some (.pointer (some ⟨gn, 0, none⟩)) := (blk_cell HGF.out 0).trans rfl; clear hgf hbf hbb) | fail)
  go_wp2_with fail
  have HS := Lib.hid (show (fun w' => w'.cell? ⟨gw, 0, none⟩ = some (.slice A0 nx.length c0) ∧ w'.cell? ⟨gw, 1, none⟩ = some (.slice A1 mk.length c1) ∧ w'.cell? ⟨gf, 0, none⟩ = some (.pointer (some ⟨gn, 0, none⟩)) ∧ w'.cell? ⟨gn, 3, none⟩ = some (.slice (some ⟨kb, ko, none⟩) 1 cp) ∧ w'.cell? ⟨kb, ko, none⟩ = some va) wc.drew from ⟨by simpa using hw0, by simpa using hw1, by simpa using hf0, by simpa using hn3, by simpa using hka⟩)
  have HBD := Lib.hid (below_drew1 HBW.out)
  have HMD := Lib.hid (HP.of_below HM.out HBD.out)
  have hgwlt : gw < wc.drew.heap.size := blk_lt (blk_drew HGW.out)
  clear HGW hw0 hw1 hf0 hn3 hka
  have HGW := Lib.hid hgwlt
  clear hgwlt
  refine start_ (n := 11) (S := fun w' => w'.cell? ⟨gw, 0, none⟩ = some (.slice A0 nx.length c0) ∧ w'.cell? ⟨gw, 1, none⟩ = some (.slice A1 mk.length c1) ∧ w'.cell? ⟨gf, 0, none⟩ = some (.pointer (some ⟨gn, 0, none⟩)) ∧ w'.cell? ⟨gn, 3, none⟩ = some (.slice (some ⟨kb, ko, none⟩) 1 cp) ∧ w'.cell? ⟨kb, ko, none⟩ = some va) (ds := [10]) #[false, false, false, false, false, false, false, false, false, false, false] (by kernel_rfl) rfl rfl HS.out (fun hHeld => ?_)
  generalize wc.drew = wd at HS HBD HMD HGW hHeld ⊢
  have HC0 := Lib.hid (Cells.of_below HBD.out)
  refine take_ (i := 0) (N := (some 83)) (v := ?_) (a' := ?_) #[true, false, false, false, false, false, false, false, false, false, false] rfl rfl (by kernel_rfl) (fun _ _ _ h => h) (Or.inl ⟨by rfl, ?_⟩) hHeld ?_ ?_
  rotate_left
  · rintro w' ⟨s0, s1, s2, s3, s4⟩; go_simp; first | done | with_reducible rfl
  rotate_left
  · simp only [Act.put, List.setIfInBounds_toArray, List.set_cons_zero, List.set_cons_succ, i64_w, i32_w]; rfl
  refine take_ (i := 1) (N := (some 84)) (v := ?_) (a' := ?_) #[true, true, false, false, false, false, false, false, false, false, false] rfl rfl (by kernel_rfl) (fun _ _ _ h => h) (Or.inl ⟨by rfl, ?_⟩) hHeld ?_ ?_
  rotate_left
  · rintro w' ⟨s0, s1, s2, s3, s4⟩; go_simp; first | done | with_reducible rfl
  rotate_left
  · simp only [Act.put, List.setIfInBounds_toArray, List.set_cons_zero, List.set_cons_succ, i64_w, i32_w]; rfl
  refine pure_ (i := 2) (N := (some 85)) (v := ?_) (a' := ?_) #[true, true, true, false, false, false, false, false, false, false, false] rfl rfl (by kernel_rfl) (fun _ _ _ h => h) (Or.inl ⟨by rfl, ?_⟩) ?_ ?_
  rotate_left
  · intro w'; go_simp; first | done | with_reducible rfl
  rotate_left
  · simp only [Act.put, List.setIfInBounds_toArray, List.set_cons_zero, List.set_cons_succ, i64_w, i32_w]; rfl
  refine pure_ (i := 3) (N := (some 86)) (v := ?_) (a' := ?_) #[true, true, true, true, false, false, false, false, false, false, false] rfl rfl (by kernel_rfl) (fun _ _ _ h => h) (Or.inl ⟨by rfl, ?_⟩) ?_ ?_
  rotate_left
  · intro w'; go_simp; first | done | with_reducible rfl
  rotate_left
  · simp only [Act.put, List.setIfInBounds_toArray, List.set_cons_zero, List.set_cons_succ, i64_w, i32_w]; rfl
  refine take_ (i := 4) (N := (some 87)) (v := ?_) (a' := ?_) #[true, true, true, true, true, false, false, false, false, false, false] rfl rfl (by kernel_rfl) (fun _ _ _ h => h) (Or.inl ⟨by rfl, ?_⟩) hHeld ?_ ?_
  rotate_left
  · rintro w' ⟨s0, s1, s2, s3, s4⟩; go_simp; first | done | with_reducible rfl
  rotate_left
  · simp only [Act.put, List.setIfInBounds_toArray, List.set_cons_zero, List.set_cons_succ, i64_w, i32_w]; rfl
  refine pure_ (i := 5) (N := (some 88)) (v := ?_) (a' := ?_) #[true, true, true, true, true, true, false, false, false, false, false] rfl rfl (by kernel_rfl) (fun _ _ _ h => h) (Or.inl ⟨by rfl, ?_⟩) ?_ ?_
  rotate_left
  · intro w'; go_simp; first | done | with_reducible rfl
  rotate_left
  · simp only [Act.put, List.setIfInBounds_toArray, List.set_cons_zero, List.set_cons_succ, i64_w, i32_w]; rfl
  refine take_ (i := 6) (N := (some 89)) (v := ?_) (a' := ?_) #[true, true, true, true, true, true, true, false, false, false, false] rfl rfl (by kernel_rfl) (fun _ _ _ h => h) (Or.inl ⟨by rfl, ?_⟩) hHeld ?_ ?_
  rotate_left
  · rintro w' ⟨s0, s1, s2, s3, s4⟩; go_simp; first | done | with_reducible rfl
  rotate_left
  · simp only [Act.put, List.setIfInBounds_toArray, List.set_cons_zero, List.set_cons_succ, i64_w, i32_w]; rfl
  refine pure_ (i := 7) (N := (some 90)) (v := ?_) (a' := ?_) #[true, true, true, true, true, true, true, true, false, false, false] rfl rfl (by kernel_rfl) (fun _ _ _ h => h) (Or.inl ⟨by rfl, ?_⟩) ?_ ?_
  rotate_left
  · intro w'; go_simp; first | done | with_reducible rfl
  rotate_left
  · simp only [Act.put, List.setIfInBounds_toArray, List.set_cons_zero, List.set_cons_succ, i64_w, i32_w]; rfl
  refine two_ (i := 8) (j := 9) (Ni := (some 91)) (Nj := (some 7)) #[true, true, true, true, true, true, true, true, true, false, false] #[true, true, true, true, true, true, true, true, false, true, false] rfl rfl rfl rfl (by kernel_rfl) (by decide) (by decide) (fun K hK => ?_) (fun K hK => ?_)
  · skip
    refine goes_ Try.func47 (by kernel_rfl) rfl #[.agg #[.slice A0 nx.length c0, .slice A1 mk.length c1], va, .map (some r)] (by rfl) rfl rfl (by (try simp only [List.map_toArray, List.map_cons, List.map_nil]); first | done | rfl) ?_
    refine (IA.out A0 c0 A1 c1 ok va r wd (HC0.out.ints HR0.out) hc0 (HC0.out.ints HR1.out) hc1 (Tree.same HC0.out.same (fun _ _ h => h) _ _ HA.out) HMD.out.map).mono ?_
    rintro e w1 ⟨rfl, hp1⟩
    have HC1 := Lib.hid (hp1.cells HMD.out.map)
    have HP1 := Lib.hid (HMD.out.trans hp1)
    have hlt1 : wd.heap.size ≤ w1.heap.size := hp1.keep.1
    clear hp1
    refine ⟨_, rfl, ?_⟩
    refine hK.out _ _ ⟨HC1.out _ _ hHeld.1, HC1.out _ _ hHeld.2.1, HC1.out _ _ hHeld.2.2.1, HC1.out _ _ hHeld.2.2.2.1, HC1.out _ _ hHeld.2.2.2.2⟩ (fun hHeld => ?_)
    clear hK K
    refine norm_ (a' := ?_) ?_ ?_
    rotate_left
    · show Act.put _ (some 91) _ = _; simp only [Act.put, List.setIfInBounds_toArray, List.set_cons_zero, List.set_cons_succ, i64_w, i32_w]; rfl
    refine one_ (i := 9) (N := (some 7)) #[true, true, true, true, true, true, true, true, true, true, false] rfl rfl (by kernel_rfl) (by decide) (fun K hK => ?_)
    refine alloc_step (cs := #[.int .i64 0]) (t := 3) (by rfl) rfl (by go_simp) ?_
    intro ga hga w3 hba0 hba
    have hca : w3.cell? ⟨ga, 0, none⟩ = some (.int .i64 0) := (blk_cell hba0 0).trans rfl
    have hfa := blk_frozen hba0 0
    have HPL := Lib.hid (HP1.out.step hba)
    have GNE : gw ≠ ga ∧ w.heap.size ≤ ga := ⟨fun e => by have := HGW.out; omega, by have := HP1.out.keep.1; omega⟩
    have hS3 : (fun w' => w'.cell? ⟨gw, 0, none⟩ = some (.slice A0 nx.length c0) ∧ w'.cell? ⟨gw, 1, none⟩ = some (.slice A1 mk.length c1) ∧ w'.cell? ⟨gf, 0, none⟩ = some (.pointer (some ⟨gn, 0, none⟩)) ∧ w'.cell? ⟨gn, 3, none⟩ = some (.slice (some ⟨kb, ko, none⟩) 1 cp) ∧ w'.cell? ⟨kb, ko, none⟩ = some va) w3 := ⟨(Cells.of_below hba) _ _ hHeld.1, (Cells.of_below hba) _ _ hHeld.2.1, (Cells.of_below hba) _ _ hHeld.2.2.1, (Cells.of_below hba) _ _ hHeld.2.2.2.1, (Cells.of_below hba) _ _ hHeld.2.2.2.2⟩
    clear hba0 hba hga hlt1
    refine hK.out _ _ hS3 (fun hHeld => ?_)
    clear hK K
    refine norm_ (a' := ?_) ?_ ?_
    rotate_left
    · show Act.put _ (some 7) _ = _; simp only [Act.put, List.setIfInBounds_toArray, List.set_cons_zero, List.set_cons_succ, i64_w, i32_w]; rfl
    have HGN := Lib.hid GNE
    clear GNE
    refine last_ (i := 10) (N := none) #[true, true, true, true, true, true, true, true, true, true, true] rfl rfl (by kernel_rfl) (by decide) (fun K hK => ?_)
    refine skip_step (w1 := w3.setCell ⟨ga, 0, none⟩ (.int .i64 x)) (by rfl) (by go_simp) ?_
    refine hK.out _ _ ?_
    clear hK K
    refine norm_ (a' := ?_) ?_ ?_
    rotate_left
    · show Act.put _ none _ = _; simp only [Act.put, List.setIfInBounds_toArray, List.set_cons_zero, List.set_cons_succ, i64_w, i32_w]; rfl
    refine done_ (by kernel_rfl) ?_
    have g0 : (w3.setCell ⟨ga, 0, none⟩ (.int .i64 x)).cell? ⟨gw, 0, none⟩ = some (.slice A0 nx.length c0) := (cell_set_other _ (show gw ≠ ga from HGN.out.1)).trans hHeld.1
    have g1 : (w3.setCell ⟨ga, 0, none⟩ (.int .i64 x)).cell? ⟨gw, 1, none⟩ = some (.slice A1 mk.length c1) := (cell_set_other _ (show gw ≠ ga from HGN.out.1)).trans hHeld.2.1
    have g2 : (w3.setCell ⟨ga, 0, none⟩ (.int .i64 x)).cell? ⟨ga, 0, none⟩ = some (.int .i64 x) := cell_set_self _ hca
    have HPF := Lib.hid (HPL.out.set (b := ga) (i := 0) (.int .i64 x) HGN.out.2 HRW.out)
    have HCF := Lib.hid (HPF.out.cells HM.out)
    clear hca hfa hHeld
    have EG := Lib.hid (enters_of' Try.func72 (by kernel_rfl) rfl)
    go_wp2_with fail
    refine (where_calls 72 _ EG.out (fun s => bits .and .i64 (rd nx s) x != 0) A0 nx.length c0 A1 mk.length c1 _ hle (pred_h3 _ gw ga A0 c0 nx x (HCF.out.ints HR0.out) g0 g2)).mono ?_
    rintro e w9 ⟨rfl, hb9⟩
    have HP9 := Lib.hid (HPF.out.step hb9)
    clear hb9 g0 g1 g2
    go_wp2
    go_ret
    exact ⟨rfl, HP9.out⟩
  · skip
    refine alloc_step (cs := #[.int .i64 0]) (t := 3) (by rfl) rfl (by go_simp) ?_
    intro ga hga w3 hba0 hba
    have hca : w3.cell? ⟨ga, 0, none⟩ = some (.int .i64 0) := (blk_cell hba0 0).trans rfl
    have HMD2 := Lib.hid (HMD.out.step hba)
    have HC3 := Lib.hid ((HC0.out).trans (Cells.of_below hba))
    have GNE : gw ≠ ga ∧ w.heap.size ≤ ga := ⟨fun e => by have := HGW.out; omega, by have := HMD.out.keep.1; omega⟩
    have hS3 : (fun w' => w'.cell? ⟨gw, 0, none⟩ = some (.slice A0 nx.length c0) ∧ w'.cell? ⟨gw, 1, none⟩ = some (.slice A1 mk.length c1) ∧ w'.cell? ⟨gf, 0, none⟩ = some (.pointer (some ⟨gn, 0, none⟩)) ∧ w'.cell? ⟨gn, 3, none⟩ = some (.slice (some ⟨kb, ko, none⟩) 1 cp) ∧ w'.cell? ⟨kb, ko, none⟩ = some va) w3 := ⟨(Cells.of_below hba) _ _ hHeld.1, (Cells.of_below hba) _ _ hHeld.2.1, (Cells.of_below hba) _ _ hHeld.2.2.1, (Cells.of_below hba) _ _ hHeld.2.2.2.1, (Cells.of_below hba) _ _ hHeld.2.2.2.2⟩
    have HBA := Lib.hid hba0
    clear hba0 hba hga
    refine hK.out _ _ hS3 (fun hHeld => ?_)
    clear hK K
    refine norm_ (a' := ?_) ?_ ?_
    rotate_left
    · show Act.put _ (some 7) _ = _; simp only [Act.put, List.setIfInBounds_toArray, List.set_cons_zero, List.set_cons_succ, i64_w, i32_w]; rfl
    refine one_ (i := 8) (N := (some 91)) #[true, true, true, true, true, true, true, true, true, true, false] rfl rfl (by kernel_rfl) (by decide) (fun K hK => ?_)
    refine goes_ Try.func47 (by kernel_rfl) rfl #[.agg #[.slice A0 nx.length c0, .slice A1 mk.length c1], va, .map (some r)] (by rfl) rfl rfl (by (try simp only [List.map_toArray, List.map_cons, List.map_nil]); first | done | rfl) ?_
    refine (IA.out A0 c0 A1 c1 ok va r w3 (HC3.out.ints HR0.out) hc0 (HC3.out.ints HR1.out) hc1 (Tree.same HC3.out.same (fun _ _ h => h) _ _ HA.out) HMD2.out.map).mono ?_
    rintro e w1 ⟨rfl, hp1⟩
    have HC1 := Lib.hid (hp1.cells HMD2.out.map)
    have HPL := Lib.hid (HMD2.out.trans hp1)
    have hba1 : w1.heap[ga]? = some (.cells #[.int .i64 0] 3 (0, 0)) := hp1.keep.blk HBA.out (fun e => by have := HRW.out; have := GNE.2; omega) (by simp)
    have hca1 := HC1.out _ _ hca
    clear hca
    have hca := hca1
    have hfa := blk_frozen hba1 0
    clear hp1 hca1 hba1
    refine ⟨_, rfl, ?_⟩
    refine hK.out _ _ ⟨HC1.out _ _ hHeld.1, HC1.out _ _ hHeld.2.1, HC1.out _ _ hHeld.2.2.1, HC1.out _ _ hHeld.2.2.2.1, HC1.out _ _ hHeld.2.2.2.2⟩ (fun hHeld => ?_)
    clear hK K
    refine norm_ (a' := ?_) ?_ ?_
    rotate_left
    · show Act.put _ (some 91) _ = _; simp only [Act.put, List.setIfInBounds_toArray, List.set_cons_zero, List.set_cons_succ, i64_w, i32_w]; rfl
    have HGN := Lib.hid GNE
    clear GNE
    refine last_ (i := 10) (N := none) #[true, true, true, true, true, true, true, true, true, true, true] rfl rfl (by kernel_rfl) (by decide) (fun K hK => ?_)
    refine skip_step (w1 := w1.setCell ⟨ga, 0, none⟩ (.int .i64 x)) (by rfl) (by go_simp) ?_
    refine hK.out _ _ ?_
    clear hK K
    refine norm_ (a' := ?_) ?_ ?_
    rotate_left
    · show Act.put _ none _ = _; simp only [Act.put, List.setIfInBounds_toArray, List.set_cons_zero, List.set_cons_succ, i64_w, i32_w]; rfl
    refine done_ (by kernel_rfl) ?_
    have g0 : (w1.setCell ⟨ga, 0, none⟩ (.int .i64 x)).cell? ⟨gw, 0, none⟩ = some (.slice A0 nx.length c0) := (cell_set_other _ (show gw ≠ ga from HGN.out.1)).trans hHeld.1
    have g1 : (w1.setCell ⟨ga, 0, none⟩ (.int .i64 x)).cell? ⟨gw, 1, none⟩ = some (.slice A1 mk.length c1) := (cell_set_other _ (show gw ≠ ga from HGN.out.1)).trans hHeld.2.1
    have g2 : (w1.setCell ⟨ga, 0, none⟩ (.int .i64 x)).cell? ⟨ga, 0, none⟩ = some (.int .i64 x) := cell_set_self _ hca
    have HPF := Lib.hid (HPL.out.set (b := ga) (i := 0) (.int .i64 x) HGN.out.2 HRW.out)
    have HCF := Lib.hid (HPF.out.cells HM.out)
    clear hca hfa hHeld
    have EG := Lib.hid (enters_of' Try.func72 (by kernel_rfl) rfl)
    go_wp2_with fail
    refine (where_calls 72 _ EG.out (fun s => bits .and .i64 (rd nx s) x != 0) A0 nx.length c0 A1 mk.length c1 _ hle (pred_h3 _ gw ga A0 c0 nx x (HCF.out.ints HR0.out) g0 g2)).mono ?_
    rintro e w9 ⟨rfl, hb9⟩
    have HP9 := Lib.hid (HPF.out.step hb9)
    clear hb9 g0 g1 g2
    go_wp2
    go_ret
    exact ⟨rfl, HP9.out⟩

set_option maxRecDepth 100000 in
set_option maxHeartbeats 2000000 in
theorem holds_box (A0 : Option Addr) (c0 : Nat) (nx : List Int) (A1 : Option Addr) (c1 : Nat) (mk : List Int) (gn r : Nat) (w : World) (hr0 : Kd.C (Kd.int .i64) w A0 nx.length nx) (hc0 : nx.length ≤ c0) (hr1 : Kd.C (Kd.int .i64) w A1 mk.length mk) (hc1 : mk.length ≤ c1) (hlen : nx.length = mk.length) (kb ko cp : Nat) (va : Value) (a : Fm) (m m1 : List (Int × Int)) (x : Int) (ok : Nat → Prop) (hn0 : w.cell? ⟨gn, 0, none⟩ = some (.int .u8 91)) (hn3 : w.cell? ⟨gn, 3, none⟩ = some (.slice (some ⟨kb, ko, none⟩) 1 cp)) (hka : w.cell? ⟨kb, ko, none⟩ = some va) (ha : Tree w ok a va) (hm : IsM (Value.int .u8) (Value.int .i64) w r m) (iha : HoldsC nx mk a m x m1) :
    Calls Try.prog 47 #[.agg #[.slice A0 nx.length c0, .slice A1 mk.length c1], .pointer (some ⟨gn, 0, none⟩), .map (some r)] w fun e w' => e = .returned (.int .i64 (boxTo nx x)) ∧ HP r m1 w w' := by
  have HM := Lib.hid hm
  have HRW := Lib.hid hm.lt
  have HA := Lib.hid ha
  have IA := Lib.hid iha
  clear hm ha iha
  have hu := Try.underlying28
  have hu2 := Try.underlying74
  have HR0 := Lib.hid hr0
  have HR1 := Lib.hid hr1
  have HLEN := Lib.hid hlen
  have hle := hr0.2.1
  clear hr0 hr1 hlen
  go_enter Try.func47, Try.ntmps47
  go_wp2_with (first | ((with_reducible refine gate_dst (N := 3) rfl ?_); refine box_event ?hg (N := 3) ?hd (cs := #[.slice A0 nx.length c0, .slice A1 mk.length c1]) (t := 28) ?hr ?_; (case hd => rfl); (case hg => rfl); (case hr => first | (go_simp; done) | (go_simp; rfl)); intro gw hgw wb hbw hbb; have k0_ := pw_cell_below hbb hn0; clear hn0; have hn0 := k0_; clear k0_; have k1_ := pw_cell_below hbb hn3; clear hn3; have hn3 := k1_; clear k1_; have k2_ := pw_cell_below hbb hka; clear hka; have hka := k2_; clear k2_; have HGW := Lib.hid hbw; have HBW := Lib.hid (below_step (Below.refl w.heap.size w) hbb); clear hgw hbw hbb) | ((with_reducible refine gate_dst (N := 4) rfl ?_); refine box_event ?hg (N := 4) ?hd (cs := #[.pointer (some ⟨gn, 0, none⟩)]) (t := 60) ?hr ?_; (case hd => rfl); (case hg => rfl); (case hr => first | (go_simp; done) | (go_simp; rfl)); intro gf hgf wc hbf hbb; have k0_ := pw_cell_below hbb hn0; clear hn0; have hn0 := k0_; clear k0_; have k1_ := pw_cell_below hbb hn3; clear hn3; have hn3 := k1_; clear k1_; have k2_ := pw_cell_below hbb hka; clear hka; have hka := k2_; clear k2_; have k0_ := Lib.hid (blk_below HGW.out hbb); have k1_ := Lib.hid (below_step HBW.out hbb); clear HGW HBW; have HGW := k0_; have HBW := k1_; clear k0_ k1_; have HGF := Lib.hid hbf; have hw0 : wc.cell? ⟨gw, 0, none⟩ = some (.slice A0 nx.length c0) := (blk_cell HGW.out 0).trans rfl; have hw1 : wc.cell? ⟨gw, 1, none⟩ = some (.slice A1 mk.length c1) := (blk_cell HGW.out 1).trans rfl; have hf0 : wc.cell? ⟨gf, 0, none⟩ = some (.pointer (some ⟨gn, 0, none⟩)) := (blk_cell HGF.out 0).trans rfl; clear hgf hbf hbb) | fail)
  go_wp2_with fail
  have HS := Lib.hid (show (fun w' => w'.cell? ⟨gw, 0, none⟩ = some (.slice A0 nx.length c0) ∧ w'.cell? ⟨gw, 1, none⟩ = some (.slice A1 mk.length c1) ∧ w'.cell? ⟨gf, 0, none⟩ = some (.pointer (some ⟨gn, 0, none⟩)) ∧ w'.cell? ⟨gn, 3, none⟩ = some (.slice (some ⟨kb, ko, none⟩) 1 cp) ∧ w'.cell? ⟨kb, ko, none⟩ = some va) wc.drew from ⟨by simpa using hw0, by simpa using hw1, by simpa using hf0, by simpa using hn3, by simpa using hka⟩)
  have HBD := Lib.hid (below_drew1 HBW.out)
  have HMD := Lib.hid (HP.of_below HM.out HBD.out)
  have hgwlt : gw < wc.drew.heap.size := blk_lt (blk_drew HGW.out)
  clear HGW hw0 hw1 hf0 hn3 hka
  have HGW := Lib.hid hgwlt
  clear hgwlt
  refine start_ (n := 11) (S := fun w' => w'.cell? ⟨gw, 0, none⟩ = some (.slice A0 nx.length c0) ∧ w'.cell? ⟨gw, 1, none⟩ = some (.slice A1 mk.length c1) ∧ w'.cell? ⟨gf, 0, none⟩ = some (.pointer (some ⟨gn, 0, none⟩)) ∧ w'.cell? ⟨gn, 3, none⟩ = some (.slice (some ⟨kb, ko, none⟩) 1 cp) ∧ w'.cell? ⟨kb, ko, none⟩ = some va) (ds := [10]) #[false, false, false, false, false, false, false, false, false, false, false] (by kernel_rfl) rfl rfl HS.out (fun hHeld => ?_)
  generalize wc.drew = wd at HS HBD HMD HGW hHeld ⊢
  have HC0 := Lib.hid (Cells.of_below HBD.out)
  refine take_ (i := 0) (N := (some 97)) (v := ?_) (a' := ?_) #[true, false, false, false, false, false, false, false, false, false, false] rfl rfl (by kernel_rfl) (fun _ _ _ h => h) (Or.inl ⟨by rfl, ?_⟩) hHeld ?_ ?_
  rotate_left
  · rintro w' ⟨s0, s1, s2, s3, s4⟩; go_simp; first | done | with_reducible rfl
  rotate_left
  · simp only [Act.put, List.setIfInBounds_toArray, List.set_cons_zero, List.set_cons_succ, i64_w, i32_w]; rfl
  refine take_ (i := 1) (N := (some 98)) (v := ?_) (a' := ?_) #[true, true, false, false, false, false, false, false, false, false, false] rfl rfl (by kernel_rfl) (fun _ _ _ h => h) (Or.inl ⟨by rfl, ?_⟩) hHeld ?_ ?_
  rotate_left
  · rintro w' ⟨s0, s1, s2, s3, s4⟩; go_simp; first | done | with_reducible rfl
  rotate_left
  · simp only [Act.put, List.setIfInBounds_toArray, List.set_cons_zero, List.set_cons_succ, i64_w, i32_w]; rfl
  refine pure_ (i := 2) (N := (some 99)) (v := ?_) (a' := ?_) #[true, true, true, false, false, false, false, false, false, false, false] rfl rfl (by kernel_rfl) (fun _ _ _ h => h) (Or.inl ⟨by rfl, ?_⟩) ?_ ?_
  rotate_left
  · intro w'; go_simp; first | done | with_reducible rfl
  rotate_left
  · simp only [Act.put, List.setIfInBounds_toArray, List.set_cons_zero, List.set_cons_succ, i64_w, i32_w]; rfl
  refine pure_ (i := 3) (N := (some 100)) (v := ?_) (a' := ?_) #[true, true, true, true, false, false, false, false, false, false, false] rfl rfl (by kernel_rfl) (fun _ _ _ h => h) (Or.inl ⟨by rfl, ?_⟩) ?_ ?_
  rotate_left
  · intro w'; go_simp; first | done | with_reducible rfl
  rotate_left
  · simp only [Act.put, List.setIfInBounds_toArray, List.set_cons_zero, List.set_cons_succ, i64_w, i32_w]; rfl
  refine take_ (i := 4) (N := (some 101)) (v := ?_) (a' := ?_) #[true, true, true, true, true, false, false, false, false, false, false] rfl rfl (by kernel_rfl) (fun _ _ _ h => h) (Or.inl ⟨by rfl, ?_⟩) hHeld ?_ ?_
  rotate_left
  · rintro w' ⟨s0, s1, s2, s3, s4⟩; go_simp; first | done | with_reducible rfl
  rotate_left
  · simp only [Act.put, List.setIfInBounds_toArray, List.set_cons_zero, List.set_cons_succ, i64_w, i32_w]; rfl
  refine pure_ (i := 5) (N := (some 102)) (v := ?_) (a' := ?_) #[true, true, true, true, true, true, false, false, false, false, false] rfl rfl (by kernel_rfl) (fun _ _ _ h => h) (Or.inl ⟨by rfl, ?_⟩) ?_ ?_
  rotate_left
  · intro w'; go_simp; first | done | with_reducible rfl
  rotate_left
  · simp only [Act.put, List.setIfInBounds_toArray, List.set_cons_zero, List.set_cons_succ, i64_w, i32_w]; rfl
  refine take_ (i := 6) (N := (some 103)) (v := ?_) (a' := ?_) #[true, true, true, true, true, true, true, false, false, false, false] rfl rfl (by kernel_rfl) (fun _ _ _ h => h) (Or.inl ⟨by rfl, ?_⟩) hHeld ?_ ?_
  rotate_left
  · rintro w' ⟨s0, s1, s2, s3, s4⟩; go_simp; first | done | with_reducible rfl
  rotate_left
  · simp only [Act.put, List.setIfInBounds_toArray, List.set_cons_zero, List.set_cons_succ, i64_w, i32_w]; rfl
  refine pure_ (i := 7) (N := (some 104)) (v := ?_) (a' := ?_) #[true, true, true, true, true, true, true, true, false, false, false] rfl rfl (by kernel_rfl) (fun _ _ _ h => h) (Or.inl ⟨by rfl, ?_⟩) ?_ ?_
  rotate_left
  · intro w'; go_simp; first | done | with_reducible rfl
  rotate_left
  · simp only [Act.put, List.setIfInBounds_toArray, List.set_cons_zero, List.set_cons_succ, i64_w, i32_w]; rfl
  refine two_ (i := 8) (j := 9) (Ni := (some 105)) (Nj := (some 8)) #[true, true, true, true, true, true, true, true, true, false, false] #[true, true, true, true, true, true, true, true, false, true, false] rfl rfl rfl rfl (by kernel_rfl) (by decide) (by decide) (fun K hK => ?_) (fun K hK => ?_)
  · skip
    refine goes_ Try.func47 (by kernel_rfl) rfl #[.agg #[.slice A0 nx.length c0, .slice A1 mk.length c1], va, .map (some r)] (by rfl) rfl rfl (by (try simp only [List.map_toArray, List.map_cons, List.map_nil]); first | done | rfl) ?_
    refine (IA.out A0 c0 A1 c1 ok va r wd (HC0.out.ints HR0.out) hc0 (HC0.out.ints HR1.out) hc1 (Tree.same HC0.out.same (fun _ _ h => h) _ _ HA.out) HMD.out.map).mono ?_
    rintro e w1 ⟨rfl, hp1⟩
    have HC1 := Lib.hid (hp1.cells HMD.out.map)
    have HP1 := Lib.hid (HMD.out.trans hp1)
    have hlt1 : wd.heap.size ≤ w1.heap.size := hp1.keep.1
    clear hp1
    refine ⟨_, rfl, ?_⟩
    refine hK.out _ _ ⟨HC1.out _ _ hHeld.1, HC1.out _ _ hHeld.2.1, HC1.out _ _ hHeld.2.2.1, HC1.out _ _ hHeld.2.2.2.1, HC1.out _ _ hHeld.2.2.2.2⟩ (fun hHeld => ?_)
    clear hK K
    refine norm_ (a' := ?_) ?_ ?_
    rotate_left
    · show Act.put _ (some 105) _ = _; simp only [Act.put, List.setIfInBounds_toArray, List.set_cons_zero, List.set_cons_succ, i64_w, i32_w]; rfl
    refine one_ (i := 9) (N := (some 8)) #[true, true, true, true, true, true, true, true, true, true, false] rfl rfl (by kernel_rfl) (by decide) (fun K hK => ?_)
    refine alloc_step (cs := #[.int .i64 0]) (t := 3) (by rfl) rfl (by go_simp) ?_
    intro ga hga w3 hba0 hba
    have hca : w3.cell? ⟨ga, 0, none⟩ = some (.int .i64 0) := (blk_cell hba0 0).trans rfl
    have hfa := blk_frozen hba0 0
    have HPL := Lib.hid (HP1.out.step hba)
    have GNE : gw ≠ ga ∧ w.heap.size ≤ ga := ⟨fun e => by have := HGW.out; omega, by have := HP1.out.keep.1; omega⟩
    have hS3 : (fun w' => w'.cell? ⟨gw, 0, none⟩ = some (.slice A0 nx.length c0) ∧ w'.cell? ⟨gw, 1, none⟩ = some (.slice A1 mk.length c1) ∧ w'.cell? ⟨gf, 0, none⟩ = some (.pointer (some ⟨gn, 0, none⟩)) ∧ w'.cell? ⟨gn, 3, none⟩ = some (.slice (some ⟨kb, ko, none⟩) 1 cp) ∧ w'.cell? ⟨kb, ko, none⟩ = some va) w3 := ⟨(Cells.of_below hba) _ _ hHeld.1, (Cells.of_below hba) _ _ hHeld.2.1, (Cells.of_below hba) _ _ hHeld.2.2.1, (Cells.of_below hba) _ _ hHeld.2.2.2.1, (Cells.of_below hba) _ _ hHeld.2.2.2.2⟩
    clear hba0 hba hga hlt1
    refine hK.out _ _ hS3 (fun hHeld => ?_)
    clear hK K
    refine norm_ (a' := ?_) ?_ ?_
    rotate_left
    · show Act.put _ (some 8) _ = _; simp only [Act.put, List.setIfInBounds_toArray, List.set_cons_zero, List.set_cons_succ, i64_w, i32_w]; rfl
    have HGN := Lib.hid GNE
    clear GNE
    refine last_ (i := 10) (N := none) #[true, true, true, true, true, true, true, true, true, true, true] rfl rfl (by kernel_rfl) (by decide) (fun K hK => ?_)
    refine skip_step (w1 := w3.setCell ⟨ga, 0, none⟩ (.int .i64 x)) (by rfl) (by go_simp) ?_
    refine hK.out _ _ ?_
    clear hK K
    refine norm_ (a' := ?_) ?_ ?_
    rotate_left
    · show Act.put _ none _ = _; simp only [Act.put, List.setIfInBounds_toArray, List.set_cons_zero, List.set_cons_succ, i64_w, i32_w]; rfl
    refine done_ (by kernel_rfl) ?_
    have g0 : (w3.setCell ⟨ga, 0, none⟩ (.int .i64 x)).cell? ⟨gw, 0, none⟩ = some (.slice A0 nx.length c0) := (cell_set_other _ (show gw ≠ ga from HGN.out.1)).trans hHeld.1
    have g1 : (w3.setCell ⟨ga, 0, none⟩ (.int .i64 x)).cell? ⟨gw, 1, none⟩ = some (.slice A1 mk.length c1) := (cell_set_other _ (show gw ≠ ga from HGN.out.1)).trans hHeld.2.1
    have g2 : (w3.setCell ⟨ga, 0, none⟩ (.int .i64 x)).cell? ⟨ga, 0, none⟩ = some (.int .i64 x) := cell_set_self _ hca
    have HPF := Lib.hid (HPL.out.set (b := ga) (i := 0) (.int .i64 x) HGN.out.2 HRW.out)
    have HCF := Lib.hid (HPF.out.cells HM.out)
    clear hca hfa hHeld
    have EG := Lib.hid (enters_of' Try.func73 (by kernel_rfl) rfl)
    go_wp2_with fail
    refine (where_calls 73 _ EG.out (fun s => bits .andNot .i64 (rd nx s) x == 0) A0 nx.length c0 A1 mk.length c1 _ hle (pred_h4 _ gw ga A0 c0 nx x (HCF.out.ints HR0.out) g0 g2)).mono ?_
    rintro e w9 ⟨rfl, hb9⟩
    have HP9 := Lib.hid (HPF.out.step hb9)
    clear hb9 g0 g1 g2
    go_wp2
    go_ret
    exact ⟨rfl, HP9.out⟩
  · skip
    refine alloc_step (cs := #[.int .i64 0]) (t := 3) (by rfl) rfl (by go_simp) ?_
    intro ga hga w3 hba0 hba
    have hca : w3.cell? ⟨ga, 0, none⟩ = some (.int .i64 0) := (blk_cell hba0 0).trans rfl
    have HMD2 := Lib.hid (HMD.out.step hba)
    have HC3 := Lib.hid ((HC0.out).trans (Cells.of_below hba))
    have GNE : gw ≠ ga ∧ w.heap.size ≤ ga := ⟨fun e => by have := HGW.out; omega, by have := HMD.out.keep.1; omega⟩
    have hS3 : (fun w' => w'.cell? ⟨gw, 0, none⟩ = some (.slice A0 nx.length c0) ∧ w'.cell? ⟨gw, 1, none⟩ = some (.slice A1 mk.length c1) ∧ w'.cell? ⟨gf, 0, none⟩ = some (.pointer (some ⟨gn, 0, none⟩)) ∧ w'.cell? ⟨gn, 3, none⟩ = some (.slice (some ⟨kb, ko, none⟩) 1 cp) ∧ w'.cell? ⟨kb, ko, none⟩ = some va) w3 := ⟨(Cells.of_below hba) _ _ hHeld.1, (Cells.of_below hba) _ _ hHeld.2.1, (Cells.of_below hba) _ _ hHeld.2.2.1, (Cells.of_below hba) _ _ hHeld.2.2.2.1, (Cells.of_below hba) _ _ hHeld.2.2.2.2⟩
    have HBA := Lib.hid hba0
    clear hba0 hba hga
    refine hK.out _ _ hS3 (fun hHeld => ?_)
    clear hK K
    refine norm_ (a' := ?_) ?_ ?_
    rotate_left
    · show Act.put _ (some 8) _ = _; simp only [Act.put, List.setIfInBounds_toArray, List.set_cons_zero, List.set_cons_succ, i64_w, i32_w]; rfl
    refine one_ (i := 8) (N := (some 105)) #[true, true, true, true, true, true, true, true, true, true, false] rfl rfl (by kernel_rfl) (by decide) (fun K hK => ?_)
    refine goes_ Try.func47 (by kernel_rfl) rfl #[.agg #[.slice A0 nx.length c0, .slice A1 mk.length c1], va, .map (some r)] (by rfl) rfl rfl (by (try simp only [List.map_toArray, List.map_cons, List.map_nil]); first | done | rfl) ?_
    refine (IA.out A0 c0 A1 c1 ok va r w3 (HC3.out.ints HR0.out) hc0 (HC3.out.ints HR1.out) hc1 (Tree.same HC3.out.same (fun _ _ h => h) _ _ HA.out) HMD2.out.map).mono ?_
    rintro e w1 ⟨rfl, hp1⟩
    have HC1 := Lib.hid (hp1.cells HMD2.out.map)
    have HPL := Lib.hid (HMD2.out.trans hp1)
    have hba1 : w1.heap[ga]? = some (.cells #[.int .i64 0] 3 (0, 0)) := hp1.keep.blk HBA.out (fun e => by have := HRW.out; have := GNE.2; omega) (by simp)
    have hca1 := HC1.out _ _ hca
    clear hca
    have hca := hca1
    have hfa := blk_frozen hba1 0
    clear hp1 hca1 hba1
    refine ⟨_, rfl, ?_⟩
    refine hK.out _ _ ⟨HC1.out _ _ hHeld.1, HC1.out _ _ hHeld.2.1, HC1.out _ _ hHeld.2.2.1, HC1.out _ _ hHeld.2.2.2.1, HC1.out _ _ hHeld.2.2.2.2⟩ (fun hHeld => ?_)
    clear hK K
    refine norm_ (a' := ?_) ?_ ?_
    rotate_left
    · show Act.put _ (some 105) _ = _; simp only [Act.put, List.setIfInBounds_toArray, List.set_cons_zero, List.set_cons_succ, i64_w, i32_w]; rfl
    have HGN := Lib.hid GNE
    clear GNE
    refine last_ (i := 10) (N := none) #[true, true, true, true, true, true, true, true, true, true, true] rfl rfl (by kernel_rfl) (by decide) (fun K hK => ?_)
    refine skip_step (w1 := w1.setCell ⟨ga, 0, none⟩ (.int .i64 x)) (by rfl) (by go_simp) ?_
    refine hK.out _ _ ?_
    clear hK K
    refine norm_ (a' := ?_) ?_ ?_
    rotate_left
    · show Act.put _ none _ = _; simp only [Act.put, List.setIfInBounds_toArray, List.set_cons_zero, List.set_cons_succ, i64_w, i32_w]; rfl
    refine done_ (by kernel_rfl) ?_
    have g0 : (w1.setCell ⟨ga, 0, none⟩ (.int .i64 x)).cell? ⟨gw, 0, none⟩ = some (.slice A0 nx.length c0) := (cell_set_other _ (show gw ≠ ga from HGN.out.1)).trans hHeld.1
    have g1 : (w1.setCell ⟨ga, 0, none⟩ (.int .i64 x)).cell? ⟨gw, 1, none⟩ = some (.slice A1 mk.length c1) := (cell_set_other _ (show gw ≠ ga from HGN.out.1)).trans hHeld.2.1
    have g2 : (w1.setCell ⟨ga, 0, none⟩ (.int .i64 x)).cell? ⟨ga, 0, none⟩ = some (.int .i64 x) := cell_set_self _ hca
    have HPF := Lib.hid (HPL.out.set (b := ga) (i := 0) (.int .i64 x) HGN.out.2 HRW.out)
    have HCF := Lib.hid (HPF.out.cells HM.out)
    clear hca hfa hHeld
    have EG := Lib.hid (enters_of' Try.func73 (by kernel_rfl) rfl)
    go_wp2_with fail
    refine (where_calls 73 _ EG.out (fun s => bits .andNot .i64 (rd nx s) x == 0) A0 nx.length c0 A1 mk.length c1 _ hle (pred_h4 _ gw ga A0 c0 nx x (HCF.out.ints HR0.out) g0 g2)).mono ?_
    rintro e w9 ⟨rfl, hb9⟩
    have HP9 := Lib.hid (HPF.out.step hb9)
    clear hb9 g0 g1 g2
    go_wp2
    go_ret
    exact ⟨rfl, HP9.out⟩

end Go.Proofs.Ytjffhhalmicodaa.X
