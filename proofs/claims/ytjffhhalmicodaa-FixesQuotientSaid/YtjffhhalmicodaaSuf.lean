/- Texts of this claim, merged by a program (wip/tools/shake.py); what nothing names is left out. -/
import Derived.Test.YtjffhhalmicodaaSue
section
set_option linter.unusedVariables false
set_option linter.unusedSimpArgs false
namespace Go.Proofs.Ytjffhhalmicodaa.X
open Go.RowKit Go.Proofs.YtjffhhalmicodaaW.PrintWords Go.Proofs.YtjffhhalmicodaaW.PrintLast Go.Proofs.YtjffhhalmicodaaW.PrintMore
set_option maxRecDepth 100000 in
set_option maxHeartbeats 2000000 in
theorem own_same (v0 v1 : Value) (A0 A1 : Option Addr) (n0 c0 n1 c1 : Nat) (e0 : v0 = .slice A0 n0 c0) (e1 : v1 = .slice A1 n1 c1) (w : World) : Calls Try.prog 37 #[.agg #[v0, v1]] w fun e w' => e = .returned (.agg #[v0, v1]) ∧ Below w.heap.size w w' := by
  subst e0
  subst e1
  have hu := Try.underlying28
  have hu2 := Try.underlying24
  go_enter Try.func37, Try.ntmps37
  go_wp2
  exact bodyPost_ret (v := .agg #[.slice A0 n0 c0, .slice A1 n1 c1]) (by simp [results, Try.results37, go_sem]) rfl ⟨rfl, ((Below.refl _ _).alloc (Nat.le_refl _) _).alloc (by simp) _⟩
structure QT (w : World) (gw g5 : Nat) (A0 A1 AN AM AC : Option Addr) (c0 c1 cN cM cC : Nat) (nx mk N M C : List Int) (wr : World) : Prop where
  below : Below w.heap.size w wr
  box : wr.heap[gw]? = some (.cells #[.slice A0 nx.length c0, .slice A1 mk.length c1] 24 (0, 0))
  mid : wr.heap[g5]? = some (.cells #[.slice AN N.length cN, .slice AM M.length cM] 28 (0, 0))
  r0 : Kd.C (Kd.int .i64) wr A0 nx.length nx
  r1 : Kd.C (Kd.int .i64) wr A1 mk.length mk
  rN : Kd.C (Kd.int .i64) wr AN N.length N
  rM : Kd.C (Kd.int .i64) wr AM M.length M
  rC : Kd.C (Kd.int .i64) wr AC C.length C
theorem QT.step {w : World} {gw g5 : Nat} {A0 A1 AN AM AC : Option Addr} {c0 c1 cN cM cC : Nat} {nx mk N M C : List Int} {wr w2 : World} (h : QT w gw g5 A0 A1 AN AM AC c0 c1 cN cM cC nx mk N M C wr) (hb : Below wr.heap.size wr w2) : QT w gw g5 A0 A1 AN AM AC c0 c1 cN cM cC nx mk N M C w2 :=
  ⟨below_step h.below hb, blk_below h.box hb, blk_below h.mid hb, Kd.C_below h.r0 hb, Kd.C_below h.r1 hb, Kd.C_below h.rN hb, Kd.C_below h.rM hb, Kd.C_below h.rC hb⟩
theorem QT.reads {w : World} {gw g5 : Nat} {A0 A1 AN AM AC : Option Addr} {c0 c1 cN cM cC : Nat} {nx mk N M C : List Int} {wr : World} (h : QT w gw g5 A0 A1 AN AM AC c0 c1 cN cM cC nx mk N M C wr) : wr.cell? ⟨gw, 0, none⟩ = some (.slice A0 nx.length c0) ∧ wr.cell? ⟨gw, 1, none⟩ = some (.slice A1 mk.length c1) ∧ wr.cell? ⟨g5, 0, none⟩ = some (.slice AN N.length cN) ∧ wr.cell? ⟨g5, 1, none⟩ = some (.slice AM M.length cM) :=
  ⟨(blk_cell h.box 0).trans rfl, (blk_cell h.box 1).trans rfl, (blk_cell h.mid 0).trans rfl, (blk_cell h.mid 1).trans rfl⟩
theorem readR {e : Nat} {w : World} {base : Nat} {ok : Nat → Prop} {v : Value} {xs : List Int} (h : Kd.R (Kd.int .i64) e w base ok v xs) : ∃ A c, v = .slice A xs.length c ∧ xs.length ≤ c ∧ Kd.C (Kd.int .i64) w A xs.length xs := Kd.R_reads h
set_option maxRecDepth 100000 in
set_option maxHeartbeats 4000000 in
theorem law12_bad (k : Nat) (A0 : Option Addr) (c0 : Nat) (nx : List Int) (A1 : Option Addr) (c1 : Nat) (mk : List Int) (a : ByteArray) (nx' mk' N M C : List Int) (w : World) (hr0 : Kd.C (Kd.int .i64) w A0 nx.length nx) (hc0 : nx.length ≤ c0) (hr1 : Kd.C (Kd.int .i64) w A1 mk.length mk) (hc1 : mk.length ≤ c1)
    (hof : PA.comfitlaw08_Of.f nx mk = some (nx', mk')) (hq : fixes_Quotient.f k nx' mk' = some (N, M, 2)) (hcl : PF.fixes_Classes.f k nx' mk' = some (C, 2)) (haw : PB.comfitlaw08_awake.f k = some true) :
    Calls Try.prog 12 #[.agg #[.slice A0 nx.length c0, .slice A1 mk.length c1], .string a] w fun e w' => e = .returned (.bool true) ∧ Below w.heap.size w w' := by
  have hu := Try.underlying28
  have hu2 := Try.underlying24
  have HR0 := Lib.hid hr0
  have HR1 := Lib.hid hr1
  have HOF := Lib.hid hof
  have HQ := Lib.hid hq
  have HCL := Lib.hid hcl
  have HAW := Lib.hid haw
  clear hr0 hr1 hof hq hcl haw
  go_enter Try.func12, Try.ntmps12
  go_wp2_with (first | ((with_reducible refine gate_dst (N := 2) rfl ?_); refine box_event ?hg (N := 2) ?hd (cs := #[.slice A0 nx.length c0, .slice A1 mk.length c1]) (t := 24) ?hr ?_; (case hd => rfl); (case hg => rfl); (case hr => first | (go_simp; done) | (go_simp; rfl)); intro gw hgw wb hbw hbb; have HBX := Lib.hid hbw; have HB0 := Lib.hid (below_step (Below.refl w.heap.size w) hbb); have hw0 : wb.cell? ⟨gw, 0, none⟩ = some (.slice A0 nx.length c0) := (blk_cell hbw 0).trans rfl; have hw1 : wb.cell? ⟨gw, 1, none⟩ = some (.slice A1 mk.length c1) := (blk_cell hbw 1).trans rfl; clear hgw hbw hbb) | fail)
  refine (PA.comfitlaw08_Of.calls A0 c0 nx A1 c1 mk nx' mk' wb (Kd.C_below HR0.out HB0.out) hc0 (Kd.C_below HR1.out HB0.out) hc1 HOF.out).mono ?_
  rintro e w1 ⟨u0, u1, rfl, hu0, hu1, hb⟩
  obtain ⟨B0, d0, rfl, hd0, hB0⟩ := readR hu0
  obtain ⟨B1, d1, rfl, hd1, hB1⟩ := readR hu1
  have HB1 := Lib.hid (below_step HB0.out hb)
  have HBX1 := Lib.hid (blk_below HBX.out hb)
  have HC0 := Lib.hid hB0
  have HC1 := Lib.hid hB1
  have HD0 := Lib.hid hd0
  have HD1 := Lib.hid hd1
  clear hb hu0 hu1 hw0 hw1 HB0 HBX hB0 hB1 hd0 hd1
  go_wp2_with fail
  refine (fixes_Quotient.calls k B0 d0 nx' B1 d1 mk' N M 2 w1 HC0.out HD0.out HC1.out HD1.out HQ.out).mono ?_
  rintro e w2 ⟨u0, u1, rfl, hu0, hu1, hb⟩
  obtain ⟨AN, cN, rfl, hcN, hN⟩ := readR hu0
  obtain ⟨AM, cM, rfl, hcM, hM⟩ := readR hu1
  have HB2 := Lib.hid (below_step HB1.out hb)
  have HBX2 := Lib.hid (blk_below HBX1.out hb)
  have HN := Lib.hid hN
  have HM := Lib.hid hM
  have HCN := Lib.hid hcN
  have HCM := Lib.hid hcM
  clear hb hu0 hu1 hN hM hcN hcM HB1 HBX1 HC0 HC1 HD0 HD1
  go_wp2_with (first | ((with_reducible refine gate_dst (N := 5) rfl ?_); refine box_event ?hg (N := 5) ?hd (cs := #[.slice none 0 0, .slice none 0 0]) (t := 28) ?hr ?_; (case hd => rfl); (case hg => rfl); (case hr => first | (go_simp; done) | (go_simp; rfl) | kernel_rfl); intro g5 hg5 w3 hbw hbb; have HG5 := Lib.hid (Nat.le_of_eq hg5.symm); have HBB := Lib.hid hbb; have HBM := Lib.hid hbw; clear hg5 hbw hbb) | ((with_reducible refine gate_op (op := .store 28 (.tmp 5) (.tmp 20)) rfl ?_); refine whole_store_event rfl rfl 28 (.tmp 5) (.tmp 20) rfl (g := g5) (cur := #[.slice none 0 0, .slice none 0 0]) (.agg #[.slice AN N.length cN, .slice AM M.length cM]) [.slice AN N.length cN, .slice AM M.length cM] rfl rfl rfl info28s rfl (by simp [Value.oneCell']) HBM.out ?_; intro w4 hw4 hk4 hb4; have HB4 := Lib.hid (hb4 _ _ HBB.out HG5.out); have HM4 := Lib.hid hw4; have hw0 : w4.cell? ⟨gw, 0, none⟩ = some (.slice A0 nx.length c0) := (blk_cell (blk_below HBX2.out HB4.out) 0).trans rfl; have hw1 : w4.cell? ⟨gw, 1, none⟩ = some (.slice A1 mk.length c1) := (blk_cell (blk_below HBX2.out HB4.out) 1).trans rfl; clear hw4 hk4 hb4 HBB HBM HG5) | fail)
  have HT := Lib.hid (show QT w gw g5 A0 A1 AN AM none c0 c1 cN cM 0 nx mk N M [] w4 from ⟨below_step HB2.out HB4.out, blk_below HBX2.out HB4.out, HM4.out, Kd.C_below HR0.out (below_step HB2.out HB4.out), Kd.C_below HR1.out (below_step HB2.out HB4.out), Kd.C_below HN.out HB4.out, Kd.C_below HM.out HB4.out, (readR (Kd.R_nil (Kd.int .i64) 3 w4 0 (fun _ => True))).elim fun A h => h.elim fun c h => by (obtain ⟨e, _, h⟩ := h; injection e with e1 _ _; subst e1; exact h)⟩)
  clear HB2 HBX2 HN HM HB4 HM4
  refine (PA.comfitlaw08_Of.calls A0 c0 nx A1 c1 mk nx' mk' w4 HT.out.r0 hc0 HT.out.r1 hc1 HOF.out).mono ?_
  rintro e w5 ⟨u0, u1, rfl, hu0, hu1, hb⟩
  obtain ⟨B0, d0, rfl, hd0, hB0⟩ := readR hu0
  obtain ⟨B1, d1, rfl, hd1, hB1⟩ := readR hu1
  have HT1 := Lib.hid (HT.out.step hb)
  have HC0 := Lib.hid hB0
  have HC1 := Lib.hid hB1
  have HD0 := Lib.hid hd0
  have HD1 := Lib.hid hd1
  clear hb hu0 hu1 hw0 hw1 HT hB0 hB1 hd0 hd1
  go_wp2_with fail
  refine (PF.fixes_Classes.calls k B0 d0 nx' B1 d1 mk' C 2 w5 HC0.out HD0.out HC1.out HD1.out HCL.out).mono ?_
  rintro e w6 ⟨u0, rfl, hu0, hb⟩
  obtain ⟨AC, cC, rfl, hcC, hC⟩ := readR hu0
  have HT2 := Lib.hid (show QT w gw g5 A0 A1 AN AM AC c0 c1 cN cM cC nx mk N M C w6 from ⟨(HT1.out.step hb).below, (HT1.out.step hb).box, (HT1.out.step hb).mid, (HT1.out.step hb).r0, (HT1.out.step hb).r1, (HT1.out.step hb).rN, (HT1.out.step hb).rM, hC⟩)
  clear hb hu0 hC hcC HT1 HC0 HC1 HD0 HD1
  obtain ⟨t0, t1, t2, t3⟩ := HT2.out.reads
  go_wp2_with fail
  refine (PB.comfitlaw08_awake.calls k true w6 HAW.out).mono ?_
  rintro e w9 ⟨rfl, hb⟩
  have HT9 := Lib.hid (HT2.out.step hb)
  clear hb
  go_wp2
  go_ret
  exact ⟨rfl, HT9.out.below⟩
set_option maxRecDepth 100000 in
set_option maxHeartbeats 4000000 in
theorem law12_form (k : Nat) (A0 : Option Addr) (c0 : Nat) (nx : List Int) (A1 : Option Addr) (c1 : Nat) (mk : List Int) (a : ByteArray) (nx' mk' N M C : List Int) (C2 : List Int) (a' : ByteArray) (w : World) (hr0 : Kd.C (Kd.int .i64) w A0 nx.length nx) (hc0 : nx.length ≤ c0) (hr1 : Kd.C (Kd.int .i64) w A1 mk.length mk) (hc1 : mk.length ≤ c1)
    (hof : PA.comfitlaw08_Of.f nx mk = some (nx', mk')) (hq : fixes_Quotient.f k nx' mk' = some (N, M, 0)) (hcl : PF.fixes_Classes.f k nx' mk' = some (C, 0)) (haw : PB.comfitlaw08_awake.f k = some true) (hv : PB.comfitref08_Valid.f k nx mk = some true) (hvq : PB.comfitref08_Valid.f k N M = some true) (hln : N.length = C.length) (hofq : PA.comfitlaw08_Of.f N M = some (N, M)) (hcq : PF.fixes_Classes.f k N M = some (C2, 0)) (hl2 : C2.length = C.length) (htx : PA.comfitlaw08_text.f a = some a') (hh : fixes_Holds.f k nx' mk' a' = some (0, 3)) (hh2 : fixes_Holds.f k N M a' = some (0, 3)) :
    Calls Try.prog 12 #[.agg #[.slice A0 nx.length c0, .slice A1 mk.length c1], .string a] w fun e w' => e = .returned (.bool true) ∧ Below w.heap.size w w' := by
  have hu := Try.underlying28
  have hu2 := Try.underlying24
  have HR0 := Lib.hid hr0
  have HR1 := Lib.hid hr1
  have HOF := Lib.hid hof
  have HQ := Lib.hid hq
  have HCL := Lib.hid hcl
  have HAW := Lib.hid haw
  have HV := Lib.hid hv
  have HVQ := Lib.hid hvq
  have HLN := Lib.hid hln
  have HOFQ := Lib.hid hofq
  have HCQ := Lib.hid hcq
  have HL2 := Lib.hid hl2
  have HTX := Lib.hid htx
  have HH := Lib.hid hh
  have HH2 := Lib.hid hh2
  clear hv hvq hln hofq hcq hl2 htx hh hh2
  clear hr0 hr1 hof hq hcl haw
  go_enter Try.func12, Try.ntmps12
  go_wp2_with (first | ((with_reducible refine gate_dst (N := 2) rfl ?_); refine box_event ?hg (N := 2) ?hd (cs := #[.slice A0 nx.length c0, .slice A1 mk.length c1]) (t := 24) ?hr ?_; (case hd => rfl); (case hg => rfl); (case hr => first | (go_simp; done) | (go_simp; rfl)); intro gw hgw wb hbw hbb; have HBX := Lib.hid hbw; have HB0 := Lib.hid (below_step (Below.refl w.heap.size w) hbb); have hw0 : wb.cell? ⟨gw, 0, none⟩ = some (.slice A0 nx.length c0) := (blk_cell hbw 0).trans rfl; have hw1 : wb.cell? ⟨gw, 1, none⟩ = some (.slice A1 mk.length c1) := (blk_cell hbw 1).trans rfl; clear hgw hbw hbb) | fail)
  refine (PA.comfitlaw08_Of.calls A0 c0 nx A1 c1 mk nx' mk' wb (Kd.C_below HR0.out HB0.out) hc0 (Kd.C_below HR1.out HB0.out) hc1 HOF.out).mono ?_
  rintro e w1 ⟨u0, u1, rfl, hu0, hu1, hb⟩
  obtain ⟨B0, d0, rfl, hd0, hB0⟩ := readR hu0
  obtain ⟨B1, d1, rfl, hd1, hB1⟩ := readR hu1
  have HB1 := Lib.hid (below_step HB0.out hb)
  have HBX1 := Lib.hid (blk_below HBX.out hb)
  have HC0 := Lib.hid hB0
  have HC1 := Lib.hid hB1
  have HD0 := Lib.hid hd0
  have HD1 := Lib.hid hd1
  clear hb hu0 hu1 hw0 hw1 HB0 HBX hB0 hB1 hd0 hd1
  go_wp2_with fail
  refine (fixes_Quotient.calls k B0 d0 nx' B1 d1 mk' N M 0 w1 HC0.out HD0.out HC1.out HD1.out HQ.out).mono ?_
  rintro e w2 ⟨u0, u1, rfl, hu0, hu1, hb⟩
  obtain ⟨AN, cN, rfl, hcN, hN⟩ := readR hu0
  obtain ⟨AM, cM, rfl, hcM, hM⟩ := readR hu1
  have HB2 := Lib.hid (below_step HB1.out hb)
  have HBX2 := Lib.hid (blk_below HBX1.out hb)
  have HN := Lib.hid hN
  have HM := Lib.hid hM
  have HCN := Lib.hid hcN
  have HCM := Lib.hid hcM
  clear hb hu0 hu1 hN hM hcN hcM HB1 HBX1 HC0 HC1 HD0 HD1
  go_wp2_with (first | ((with_reducible refine gate_dst (N := 5) rfl ?_); refine box_event ?hg (N := 5) ?hd (cs := #[.slice none 0 0, .slice none 0 0]) (t := 28) ?hr ?_; (case hd => rfl); (case hg => rfl); (case hr => first | (go_simp; done) | (go_simp; rfl) | kernel_rfl); intro g5 hg5 w3 hbw hbb; have HG5 := Lib.hid (Nat.le_of_eq hg5.symm); have HBB := Lib.hid hbb; have HBM := Lib.hid hbw; clear hg5 hbw hbb) | ((with_reducible refine gate_op (op := .store 28 (.tmp 5) (.tmp 20)) rfl ?_); refine whole_store_event rfl rfl 28 (.tmp 5) (.tmp 20) rfl (g := g5) (cur := #[.slice none 0 0, .slice none 0 0]) (.agg #[.slice AN N.length cN, .slice AM M.length cM]) [.slice AN N.length cN, .slice AM M.length cM] rfl rfl rfl info28s rfl (by simp [Value.oneCell']) HBM.out ?_; intro w4 hw4 hk4 hb4; have HB4 := Lib.hid (hb4 _ _ HBB.out HG5.out); have HM4 := Lib.hid hw4; have hw0 : w4.cell? ⟨gw, 0, none⟩ = some (.slice A0 nx.length c0) := (blk_cell (blk_below HBX2.out HB4.out) 0).trans rfl; have hw1 : w4.cell? ⟨gw, 1, none⟩ = some (.slice A1 mk.length c1) := (blk_cell (blk_below HBX2.out HB4.out) 1).trans rfl; clear hw4 hk4 hb4 HBB HBM HG5) | fail)
  have HT := Lib.hid (show QT w gw g5 A0 A1 AN AM none c0 c1 cN cM 0 nx mk N M [] w4 from ⟨below_step HB2.out HB4.out, blk_below HBX2.out HB4.out, HM4.out, Kd.C_below HR0.out (below_step HB2.out HB4.out), Kd.C_below HR1.out (below_step HB2.out HB4.out), Kd.C_below HN.out HB4.out, Kd.C_below HM.out HB4.out, (readR (Kd.R_nil (Kd.int .i64) 3 w4 0 (fun _ => True))).elim fun A h => h.elim fun c h => by (obtain ⟨e, _, h⟩ := h; injection e with e1 _ _; subst e1; exact h)⟩)
  clear HB2 HBX2 HN HM HB4 HM4
  refine (PA.comfitlaw08_Of.calls A0 c0 nx A1 c1 mk nx' mk' w4 HT.out.r0 hc0 HT.out.r1 hc1 HOF.out).mono ?_
  rintro e w5 ⟨u0, u1, rfl, hu0, hu1, hb⟩
  obtain ⟨B0, d0, rfl, hd0, hB0⟩ := readR hu0
  obtain ⟨B1, d1, rfl, hd1, hB1⟩ := readR hu1
  have HT1 := Lib.hid (HT.out.step hb)
  have HC0 := Lib.hid hB0
  have HC1 := Lib.hid hB1
  have HD0 := Lib.hid hd0
  have HD1 := Lib.hid hd1
  clear hb hu0 hu1 hw0 hw1 HT hB0 hB1 hd0 hd1
  go_wp2_with fail
  refine (PF.fixes_Classes.calls k B0 d0 nx' B1 d1 mk' C 0 w5 HC0.out HD0.out HC1.out HD1.out HCL.out).mono ?_
  rintro e w6 ⟨u0, rfl, hu0, hb⟩
  obtain ⟨AC, cC, rfl, hcC, hC⟩ := readR hu0
  have HT2 := Lib.hid (show QT w gw g5 A0 A1 AN AM AC c0 c1 cN cM cC nx mk N M C w6 from ⟨(HT1.out.step hb).below, (HT1.out.step hb).box, (HT1.out.step hb).mid, (HT1.out.step hb).r0, (HT1.out.step hb).r1, (HT1.out.step hb).rN, (HT1.out.step hb).rM, hC⟩)
  clear hb hu0 hC hcC HT1 HC0 HC1 HD0 HD1
  obtain ⟨t0, t1, t2, t3⟩ := HT2.out.reads
  go_wp2_with fail
  refine (PB.comfitref08_Valid.calls k A0 c0 nx A1 c1 mk true w6 HT2.out.r0 hc0 HT2.out.r1 hc1 HV.out).mono ?_
  rintro e w7 ⟨rfl, hb⟩
  have HT3 := Lib.hid (HT2.out.step hb)
  clear hb t0 t1 t2 t3 HT2
  obtain ⟨t0, t1, t2, t3⟩ := HT3.out.reads
  go_wp2_with fail
  refine (own_same _ _ AN AM N.length cN M.length cM rfl rfl w7).mono ?_
  rintro e w8 ⟨rfl, hb⟩
  have HT4 := Lib.hid (HT3.out.step hb)
  clear hb t0 t1 t2 t3 HT3
  go_wp2_with fail
  refine (PB.comfitref08_Valid.calls k AN cN N AM cM M true w8 HT4.out.rN HCN.out HT4.out.rM HCM.out HVQ.out).mono ?_
  rintro e w9 ⟨rfl, hb⟩
  have HT5 := Lib.hid (HT4.out.step hb)
  clear hb HT4
  obtain ⟨t0, t1, t2, t3⟩ := HT5.out.reads
  have hl1 : (N.length : Int) = (C.length : Int) := by rw [HLN.out]
  have hl2 : ((N.length : Int) != (C.length : Int)) = false := bne_eq_false_iff_eq.mpr hl1
  have hl3 : (N.length != C.length) = false := bne_eq_false_iff_eq.mpr HLN.out
  clear hl1
  go_wp2_with fail
  clear hl2 hl3
  refine (own_same _ _ AN AM N.length cN M.length cM rfl rfl w9).mono ?_
  rintro e w10 ⟨rfl, hb⟩
  have HT6 := Lib.hid (HT5.out.step hb)
  clear hb t0 t1 t2 t3 HT5
  go_wp2_with fail
  refine (PA.comfitlaw08_Of.calls AN cN N AM cM M N M w10 HT6.out.rN HCN.out HT6.out.rM HCM.out HOFQ.out).mono ?_
  rintro e w11 ⟨u0, u1, rfl, hu0, hu1, hb⟩
  obtain ⟨B0, d0, rfl, hd0, hB0⟩ := readR hu0
  obtain ⟨B1, d1, rfl, hd1, hB1⟩ := readR hu1
  have HT7 := Lib.hid (HT6.out.step hb)
  have HC0 := Lib.hid hB0
  have HC1 := Lib.hid hB1
  have HD0 := Lib.hid hd0
  have HD1 := Lib.hid hd1
  clear hb hu0 hu1 HT6 hB0 hB1 hd0 hd1
  go_wp2_with fail
  refine (PF.fixes_Classes.calls k B0 d0 N B1 d1 M C2 0 w11 HC0.out HD0.out HC1.out HD1.out HCQ.out).mono ?_
  rintro e w12 ⟨u0, rfl, hu0, hb⟩
  obtain ⟨AC2, cC2, rfl, hcC2, hC2⟩ := readR hu0
  have HT8 := Lib.hid (HT7.out.step hb)
  clear hb hu0 hC2 hcC2 HT7 HC0 HC1 HD0 HD1
  obtain ⟨t0, t1, t2, t3⟩ := HT8.out.reads
  have hl1 : (C2.length : Int) = (C.length : Int) := by rw [HL2.out]
  have hl2 : ((C2.length : Int) != (C.length : Int)) = false := bne_eq_false_iff_eq.mpr hl1
  have hl3 : (C2.length != C.length) = false := bne_eq_false_iff_eq.mpr HL2.out
  clear hl1
  go_wp2_with fail
  clear hl2 hl3
  refine (PA.comfitlaw08_Of.calls A0 c0 nx A1 c1 mk nx' mk' w12 HT8.out.r0 hc0 HT8.out.r1 hc1 HOF.out).mono ?_
  rintro e w13 ⟨u0, u1, rfl, hu0, hu1, hb⟩
  obtain ⟨B0, d0, rfl, hd0, hB0⟩ := readR hu0
  obtain ⟨B1, d1, rfl, hd1, hB1⟩ := readR hu1
  have HTA := Lib.hid (HT8.out.step hb)
  have HC0 := Lib.hid hB0
  have HC1 := Lib.hid hB1
  have HD0 := Lib.hid hd0
  have HD1 := Lib.hid hd1
  clear hb hu0 hu1 HT8 hB0 hB1 hd0 hd1 t0 t1 t2 t3
  go_wp2_with fail
  refine (PA.comfitlaw08_text.calls a a' w13 HTX.out).mono ?_
  rintro e w14 ⟨rfl, hb⟩
  have HTB := Lib.hid (HTA.out.step hb)
  have HC2 := Lib.hid (Kd.C_below HC0.out hb)
  have HC3 := Lib.hid (Kd.C_below HC1.out hb)
  clear hb HTA HC0 HC1
  go_wp2_with fail
  refine (fixes_Holds.calls k B0 d0 nx' B1 d1 mk' a' 0 3 w14 HC2.out HD0.out HC3.out HD1.out HH.out).mono ?_
  rintro e w15 ⟨rfl, hb⟩
  have HTC := Lib.hid (HTB.out.step hb)
  clear hb HTB HC2 HC3 HD0 HD1
  go_wp2_with fail
  obtain ⟨t0, t1, t2, t3⟩ := HTC.out.reads
  have HTD := Lib.hid (HTC.out.step (below_drew1 (Below.refl w15.heap.size w15)))
  refine start_ (n := 9) (S := fun w' => w'.cell? ⟨g5, 0, none⟩ = some (.slice AN N.length cN) ∧ w'.cell? ⟨g5, 1, none⟩ = some (.slice AM M.length cM)) (ds := []) #[false, false, false, false, false, false, false, false, false] (by kernel_rfl) rfl rfl ⟨by simpa using t2, by simpa using t3⟩ (fun hHeld => ?_)
  clear t0 t1 t2 t3 HTC
  generalize w15.drew = wd at HTD hHeld ⊢
  refine take_ (i := 0) (N := (some 86)) (v := ?_) (a' := ?_) #[true, false, false, false, false, false, false, false, false] rfl rfl (by kernel_rfl) (fun _ _ _ h => h) (Or.inl ⟨by rfl, ?_⟩) hHeld ?_ ?_
  rotate_left
  · rintro w' ⟨s0, s1⟩; go_simp; first | done | with_reducible rfl
  rotate_left
  · simp only [Act.put, List.setIfInBounds_toArray, List.set_cons_zero, List.set_cons_succ, i64_w, i32_w]; rfl
  refine pure_ (i := 1) (N := (some 87)) (v := ?_) (a' := ?_) #[true, true, false, false, false, false, false, false, false] rfl rfl (by kernel_rfl) (fun _ _ _ h => h) (Or.inl ⟨by rfl, ?_⟩) ?_ ?_
  rotate_left
  · intro w'; go_simp; first | done | with_reducible rfl
  rotate_left
  · simp only [Act.put, List.setIfInBounds_toArray, List.set_cons_zero, List.set_cons_succ, i64_w, i32_w]; rfl
  refine one_ (i := 2) (N := (some 88)) #[true, true, true, false, false, false, false, false, false] rfl rfl (by kernel_rfl) (by decide) (fun K hK => ?_)
  refine goes_ Try.func18 (by kernel_rfl) rfl #[.string a] (by rfl) rfl rfl (by (try simp only [List.map_toArray, List.map_cons, List.map_nil]); first | done | rfl) ?_
  refine (PA.comfitlaw08_text.calls a a' wd HTX.out).mono ?_
  rintro e w16 ⟨rfl, hb⟩
  have HTE := Lib.hid (HTD.out.step hb)
  clear hb HTD
  refine ⟨_, rfl, ?_⟩
  refine hK.out _ _ ⟨HTE.out.reads.2.2.1, HTE.out.reads.2.2.2⟩ (fun hHeld => ?_)
  clear hK K
  refine norm_ (a' := ?_) ?_ ?_
  rotate_left
  · show Act.put _ (some 88) _ = _; simp only [Act.put, List.setIfInBounds_toArray, List.set_cons_zero, List.set_cons_succ, i64_w, i32_w]; rfl
  refine one_ (i := 3) (N := (some 89)) #[true, true, true, true, false, false, false, false, false] rfl rfl (by kernel_rfl) (by decide) (fun K hK => ?_)
  refine goes_ Try.func16 (by kernel_rfl) rfl #[.agg #[.slice AN N.length cN, .slice AM M.length cM], .string a'] (by rfl) rfl rfl (by (try simp only [List.map_toArray, List.map_cons, List.map_nil]); first | done | rfl) ?_
  refine (fixes_Holds.calls k AN cN N AM cM M a' 0 3 w16 HTE.out.rN HCN.out HTE.out.rM HCM.out HH2.out).mono ?_
  rintro e w17 ⟨rfl, hb⟩
  have HTF := Lib.hid (HTE.out.step hb)
  clear hb HTE
  refine ⟨_, rfl, ?_⟩
  refine hK.out _ _ ⟨HTF.out.reads.2.2.1, HTF.out.reads.2.2.2⟩ (fun hHeld => ?_)
  clear hK K
  refine norm_ (a' := ?_) ?_ ?_
  rotate_left
  · show Act.put _ (some 89) _ = _; simp only [Act.put, List.setIfInBounds_toArray, List.set_cons_zero, List.set_cons_succ, i64_w, i32_w]; rfl
  refine pure_ (i := 4) (N := (some 85)) (v := ?_) (a' := ?_) #[true, true, true, true, true, false, false, false, false] rfl rfl (by kernel_rfl) (fun _ _ _ h => h) (Or.inl ⟨by rfl, ?_⟩) ?_ ?_
  rotate_left
  · intro w'; go_simp; first | done | with_reducible rfl
  rotate_left
  · simp only [Act.put, List.setIfInBounds_toArray, List.set_cons_zero, List.set_cons_succ, i64_w, i32_w]; rfl
  refine pure_ (i := 5) (N := (some 90)) (v := ?_) (a' := ?_) #[true, true, true, true, true, true, false, false, false] rfl rfl (by kernel_rfl) (fun _ _ _ h => h) (Or.inl ⟨by rfl, ?_⟩) ?_ ?_
  rotate_left
  · intro w'; go_simp; first | done | with_reducible rfl
  rotate_left
  · simp only [Act.put, List.setIfInBounds_toArray, List.set_cons_zero, List.set_cons_succ, i64_w, i32_w]; rfl
  refine pure_ (i := 6) (N := (some 91)) (v := ?_) (a' := ?_) #[true, true, true, true, true, true, true, false, false] rfl rfl (by kernel_rfl) (fun _ _ _ h => h) (Or.inl ⟨by rfl, ?_⟩) ?_ ?_
  rotate_left
  · intro w'; go_simp; first | done | with_reducible rfl
  rotate_left
  · simp only [Act.put, List.setIfInBounds_toArray, List.set_cons_zero, List.set_cons_succ, i64_w, i32_w]; rfl
  refine pure_ (i := 7) (N := (some 12)) (v := ?_) (a' := ?_) #[true, true, true, true, true, true, true, true, false] rfl rfl (by kernel_rfl) (fun _ _ _ h => h) (Or.inl ⟨by rfl, ?_⟩) ?_ ?_
  rotate_left
  · intro w'; go_simp; first | done | with_reducible rfl
  rotate_left
  · simp only [Act.put, List.setIfInBounds_toArray, List.set_cons_zero, List.set_cons_succ, i64_w, i32_w]; rfl
  refine pure_ (i := 8) (N := (some 13)) (v := ?_) (a' := ?_) #[true, true, true, true, true, true, true, true, true] rfl rfl (by kernel_rfl) (fun _ _ _ h => h) (Or.inl ⟨by rfl, ?_⟩) ?_ ?_
  rotate_left
  · intro w'; go_simp; first | done | with_reducible rfl
  rotate_left
  · simp only [Act.put, List.setIfInBounds_toArray, List.set_cons_zero, List.set_cons_succ, i64_w, i32_w]; rfl
  refine done_ (by kernel_rfl) ?_
  clear hHeld
  go_wp2_with fail
  refine (PB.comfitlaw08_awake.calls k true w17 HAW.out).mono ?_
  rintro e w9 ⟨rfl, hb⟩
  have HT9 := Lib.hid (HTF.out.step hb)
  clear hb
  go_wp2
  go_ret
  exact ⟨rfl, HT9.out.below⟩
set_option maxRecDepth 100000 in
set_option maxHeartbeats 4000000 in
theorem law12_good (k : Nat) (A0 : Option Addr) (c0 : Nat) (nx : List Int) (A1 : Option Addr) (c1 : Nat) (mk : List Int) (a : ByteArray) (nx' mk' N M C : List Int) (C2 : List Int) (a' : ByteArray) (n b : Int) (w : World) (hr0 : Kd.C (Kd.int .i64) w A0 nx.length nx) (hc0 : nx.length ≤ c0) (hr1 : Kd.C (Kd.int .i64) w A1 mk.length mk) (hc1 : mk.length ≤ c1)
    (hof : PA.comfitlaw08_Of.f nx mk = some (nx', mk')) (hq : fixes_Quotient.f k nx' mk' = some (N, M, 0)) (hcl : PF.fixes_Classes.f k nx' mk' = some (C, 0)) (haw : PB.comfitlaw08_awake.f k = some true) (hv : PB.comfitref08_Valid.f k nx mk = some true) (hvq : PB.comfitref08_Valid.f k N M = some true) (hln : N.length = C.length) (hofq : PA.comfitlaw08_Of.f N M = some (N, M)) (hcq : PF.fixes_Classes.f k N M = some (C2, 0)) (hl2 : C2.length = C.length) (htx : PA.comfitlaw08_text.f a = some a') (hh : fixes_Holds.f k nx' mk' a' = some (n, 0)) (hh2 : fixes_Holds.f k N M a' = some (b, 0)) (hlp : ∀ i : Nat, i < C.length → (bits .and .i64 n (rd C i) != 0) = (bits .and .i64 (b / 2 ^ i) 1 == 1)) (h61 : C.length ≤ 61) :
    Calls Try.prog 12 #[.agg #[.slice A0 nx.length c0, .slice A1 mk.length c1], .string a] w fun e w' => e = .returned (.bool true) ∧ Below w.heap.size w w' := by
  have hu := Try.underlying28
  have hu2 := Try.underlying24
  have HR0 := Lib.hid hr0
  have HR1 := Lib.hid hr1
  have HOF := Lib.hid hof
  have HQ := Lib.hid hq
  have HCL := Lib.hid hcl
  have HAW := Lib.hid haw
  have HV := Lib.hid hv
  have HVQ := Lib.hid hvq
  have HLN := Lib.hid hln
  have HOFQ := Lib.hid hofq
  have HCQ := Lib.hid hcq
  have HL2 := Lib.hid hl2
  have HTX := Lib.hid htx
  have HH := Lib.hid hh
  have HH2 := Lib.hid hh2
  clear hv hvq hln hofq hcq hl2 htx hh hh2
  have HLP := Lib.hid hlp
  clear hlp
  clear hr0 hr1 hof hq hcl haw
  go_enter Try.func12, Try.ntmps12
  go_wp2_with (first | ((with_reducible refine gate_dst (N := 2) rfl ?_); refine box_event ?hg (N := 2) ?hd (cs := #[.slice A0 nx.length c0, .slice A1 mk.length c1]) (t := 24) ?hr ?_; (case hd => rfl); (case hg => rfl); (case hr => first | (go_simp; done) | (go_simp; rfl)); intro gw hgw wb hbw hbb; have HBX := Lib.hid hbw; have HB0 := Lib.hid (below_step (Below.refl w.heap.size w) hbb); have hw0 : wb.cell? ⟨gw, 0, none⟩ = some (.slice A0 nx.length c0) := (blk_cell hbw 0).trans rfl; have hw1 : wb.cell? ⟨gw, 1, none⟩ = some (.slice A1 mk.length c1) := (blk_cell hbw 1).trans rfl; clear hgw hbw hbb) | fail)
  refine (PA.comfitlaw08_Of.calls A0 c0 nx A1 c1 mk nx' mk' wb (Kd.C_below HR0.out HB0.out) hc0 (Kd.C_below HR1.out HB0.out) hc1 HOF.out).mono ?_
  rintro e w1 ⟨u0, u1, rfl, hu0, hu1, hb⟩
  obtain ⟨B0, d0, rfl, hd0, hB0⟩ := readR hu0
  obtain ⟨B1, d1, rfl, hd1, hB1⟩ := readR hu1
  have HB1 := Lib.hid (below_step HB0.out hb)
  have HBX1 := Lib.hid (blk_below HBX.out hb)
  have HC0 := Lib.hid hB0
  have HC1 := Lib.hid hB1
  have HD0 := Lib.hid hd0
  have HD1 := Lib.hid hd1
  clear hb hu0 hu1 hw0 hw1 HB0 HBX hB0 hB1 hd0 hd1
  go_wp2_with fail
  refine (fixes_Quotient.calls k B0 d0 nx' B1 d1 mk' N M 0 w1 HC0.out HD0.out HC1.out HD1.out HQ.out).mono ?_
  rintro e w2 ⟨u0, u1, rfl, hu0, hu1, hb⟩
  obtain ⟨AN, cN, rfl, hcN, hN⟩ := readR hu0
  obtain ⟨AM, cM, rfl, hcM, hM⟩ := readR hu1
  have HB2 := Lib.hid (below_step HB1.out hb)
  have HBX2 := Lib.hid (blk_below HBX1.out hb)
  have HN := Lib.hid hN
  have HM := Lib.hid hM
  have HCN := Lib.hid hcN
  have HCM := Lib.hid hcM
  clear hb hu0 hu1 hN hM hcN hcM HB1 HBX1 HC0 HC1 HD0 HD1
  go_wp2_with (first | ((with_reducible refine gate_dst (N := 5) rfl ?_); refine box_event ?hg (N := 5) ?hd (cs := #[.slice none 0 0, .slice none 0 0]) (t := 28) ?hr ?_; (case hd => rfl); (case hg => rfl); (case hr => first | (go_simp; done) | (go_simp; rfl) | kernel_rfl); intro g5 hg5 w3 hbw hbb; have HG5 := Lib.hid (Nat.le_of_eq hg5.symm); have HBB := Lib.hid hbb; have HBM := Lib.hid hbw; clear hg5 hbw hbb) | ((with_reducible refine gate_op (op := .store 28 (.tmp 5) (.tmp 20)) rfl ?_); refine whole_store_event rfl rfl 28 (.tmp 5) (.tmp 20) rfl (g := g5) (cur := #[.slice none 0 0, .slice none 0 0]) (.agg #[.slice AN N.length cN, .slice AM M.length cM]) [.slice AN N.length cN, .slice AM M.length cM] rfl rfl rfl info28s rfl (by simp [Value.oneCell']) HBM.out ?_; intro w4 hw4 hk4 hb4; have HB4 := Lib.hid (hb4 _ _ HBB.out HG5.out); have HM4 := Lib.hid hw4; have hw0 : w4.cell? ⟨gw, 0, none⟩ = some (.slice A0 nx.length c0) := (blk_cell (blk_below HBX2.out HB4.out) 0).trans rfl; have hw1 : w4.cell? ⟨gw, 1, none⟩ = some (.slice A1 mk.length c1) := (blk_cell (blk_below HBX2.out HB4.out) 1).trans rfl; clear hw4 hk4 hb4 HBB HBM HG5) | fail)
  have HT := Lib.hid (show QT w gw g5 A0 A1 AN AM none c0 c1 cN cM 0 nx mk N M [] w4 from ⟨below_step HB2.out HB4.out, blk_below HBX2.out HB4.out, HM4.out, Kd.C_below HR0.out (below_step HB2.out HB4.out), Kd.C_below HR1.out (below_step HB2.out HB4.out), Kd.C_below HN.out HB4.out, Kd.C_below HM.out HB4.out, (readR (Kd.R_nil (Kd.int .i64) 3 w4 0 (fun _ => True))).elim fun A h => h.elim fun c h => by (obtain ⟨e, _, h⟩ := h; injection e with e1 _ _; subst e1; exact h)⟩)
  clear HB2 HBX2 HN HM HB4 HM4
  refine (PA.comfitlaw08_Of.calls A0 c0 nx A1 c1 mk nx' mk' w4 HT.out.r0 hc0 HT.out.r1 hc1 HOF.out).mono ?_
  rintro e w5 ⟨u0, u1, rfl, hu0, hu1, hb⟩
  obtain ⟨B0, d0, rfl, hd0, hB0⟩ := readR hu0
  obtain ⟨B1, d1, rfl, hd1, hB1⟩ := readR hu1
  have HT1 := Lib.hid (HT.out.step hb)
  have HC0 := Lib.hid hB0
  have HC1 := Lib.hid hB1
  have HD0 := Lib.hid hd0
  have HD1 := Lib.hid hd1
  clear hb hu0 hu1 hw0 hw1 HT hB0 hB1 hd0 hd1
  go_wp2_with fail
  refine (PF.fixes_Classes.calls k B0 d0 nx' B1 d1 mk' C 0 w5 HC0.out HD0.out HC1.out HD1.out HCL.out).mono ?_
  rintro e w6 ⟨u0, rfl, hu0, hb⟩
  obtain ⟨AC, cC, rfl, hcC, hC⟩ := readR hu0
  have HT2 := Lib.hid (show QT w gw g5 A0 A1 AN AM AC c0 c1 cN cM cC nx mk N M C w6 from ⟨(HT1.out.step hb).below, (HT1.out.step hb).box, (HT1.out.step hb).mid, (HT1.out.step hb).r0, (HT1.out.step hb).r1, (HT1.out.step hb).rN, (HT1.out.step hb).rM, hC⟩)
  clear hb hu0 hC hcC HT1 HC0 HC1 HD0 HD1
  obtain ⟨t0, t1, t2, t3⟩ := HT2.out.reads
  go_wp2_with fail
  refine (PB.comfitref08_Valid.calls k A0 c0 nx A1 c1 mk true w6 HT2.out.r0 hc0 HT2.out.r1 hc1 HV.out).mono ?_
  rintro e w7 ⟨rfl, hb⟩
  have HT3 := Lib.hid (HT2.out.step hb)
  clear hb t0 t1 t2 t3 HT2
  obtain ⟨t0, t1, t2, t3⟩ := HT3.out.reads
  go_wp2_with fail
  refine (own_same _ _ AN AM N.length cN M.length cM rfl rfl w7).mono ?_
  rintro e w8 ⟨rfl, hb⟩
  have HT4 := Lib.hid (HT3.out.step hb)
  clear hb t0 t1 t2 t3 HT3
  go_wp2_with fail
  refine (PB.comfitref08_Valid.calls k AN cN N AM cM M true w8 HT4.out.rN HCN.out HT4.out.rM HCM.out HVQ.out).mono ?_
  rintro e w9 ⟨rfl, hb⟩
  have HT5 := Lib.hid (HT4.out.step hb)
  clear hb HT4
  obtain ⟨t0, t1, t2, t3⟩ := HT5.out.reads
  have hl1 : (N.length : Int) = (C.length : Int) := by rw [HLN.out]
  have hl2 : ((N.length : Int) != (C.length : Int)) = false := bne_eq_false_iff_eq.mpr hl1
  have hl3 : (N.length != C.length) = false := bne_eq_false_iff_eq.mpr HLN.out
  clear hl1
  go_wp2_with fail
  clear hl2 hl3
  refine (own_same _ _ AN AM N.length cN M.length cM rfl rfl w9).mono ?_
  rintro e w10 ⟨rfl, hb⟩
  have HT6 := Lib.hid (HT5.out.step hb)
  clear hb t0 t1 t2 t3 HT5
  go_wp2_with fail
  refine (PA.comfitlaw08_Of.calls AN cN N AM cM M N M w10 HT6.out.rN HCN.out HT6.out.rM HCM.out HOFQ.out).mono ?_
  rintro e w11 ⟨u0, u1, rfl, hu0, hu1, hb⟩
  obtain ⟨B0, d0, rfl, hd0, hB0⟩ := readR hu0
  obtain ⟨B1, d1, rfl, hd1, hB1⟩ := readR hu1
  have HT7 := Lib.hid (HT6.out.step hb)
  have HC0 := Lib.hid hB0
  have HC1 := Lib.hid hB1
  have HD0 := Lib.hid hd0
  have HD1 := Lib.hid hd1
  clear hb hu0 hu1 HT6 hB0 hB1 hd0 hd1
  go_wp2_with fail
  refine (PF.fixes_Classes.calls k B0 d0 N B1 d1 M C2 0 w11 HC0.out HD0.out HC1.out HD1.out HCQ.out).mono ?_
  rintro e w12 ⟨u0, rfl, hu0, hb⟩
  obtain ⟨AC2, cC2, rfl, hcC2, hC2⟩ := readR hu0
  have HT8 := Lib.hid (HT7.out.step hb)
  clear hb hu0 hC2 hcC2 HT7 HC0 HC1 HD0 HD1
  obtain ⟨t0, t1, t2, t3⟩ := HT8.out.reads
  have hl1 : (C2.length : Int) = (C.length : Int) := by rw [HL2.out]
  have hl2 : ((C2.length : Int) != (C.length : Int)) = false := bne_eq_false_iff_eq.mpr hl1
  have hl3 : (C2.length != C.length) = false := bne_eq_false_iff_eq.mpr HL2.out
  clear hl1
  go_wp2_with fail
  clear hl2 hl3
  refine (PA.comfitlaw08_Of.calls A0 c0 nx A1 c1 mk nx' mk' w12 HT8.out.r0 hc0 HT8.out.r1 hc1 HOF.out).mono ?_
  rintro e w13 ⟨u0, u1, rfl, hu0, hu1, hb⟩
  obtain ⟨B0, d0, rfl, hd0, hB0⟩ := readR hu0
  obtain ⟨B1, d1, rfl, hd1, hB1⟩ := readR hu1
  have HTA := Lib.hid (HT8.out.step hb)
  have HC0 := Lib.hid hB0
  have HC1 := Lib.hid hB1
  have HD0 := Lib.hid hd0
  have HD1 := Lib.hid hd1
  clear hb hu0 hu1 HT8 hB0 hB1 hd0 hd1 t0 t1 t2 t3
  go_wp2_with fail
  refine (PA.comfitlaw08_text.calls a a' w13 HTX.out).mono ?_
  rintro e w14 ⟨rfl, hb⟩
  have HTB := Lib.hid (HTA.out.step hb)
  have HC2 := Lib.hid (Kd.C_below HC0.out hb)
  have HC3 := Lib.hid (Kd.C_below HC1.out hb)
  clear hb HTA HC0 HC1
  go_wp2_with fail
  refine (fixes_Holds.calls k B0 d0 nx' B1 d1 mk' a' n 0 w14 HC2.out HD0.out HC3.out HD1.out HH.out).mono ?_
  rintro e w15 ⟨rfl, hb⟩
  have HTC := Lib.hid (HTB.out.step hb)
  clear hb HTB HC2 HC3 HD0 HD1
  go_wp2_with fail
  obtain ⟨t0, t1, t2, t3⟩ := HTC.out.reads
  have HTD := Lib.hid (HTC.out.step (below_drew1 (Below.refl w15.heap.size w15)))
  refine start_ (n := 9) (S := fun w' => w'.cell? ⟨g5, 0, none⟩ = some (.slice AN N.length cN) ∧ w'.cell? ⟨g5, 1, none⟩ = some (.slice AM M.length cM)) (ds := []) #[false, false, false, false, false, false, false, false, false] (by kernel_rfl) rfl rfl ⟨by simpa using t2, by simpa using t3⟩ (fun hHeld => ?_)
  clear t0 t1 t2 t3 HTC
  generalize w15.drew = wd at HTD hHeld ⊢
  refine take_ (i := 0) (N := (some 86)) (v := ?_) (a' := ?_) #[true, false, false, false, false, false, false, false, false] rfl rfl (by kernel_rfl) (fun _ _ _ h => h) (Or.inl ⟨by rfl, ?_⟩) hHeld ?_ ?_
  rotate_left
  · rintro w' ⟨s0, s1⟩; go_simp; first | done | with_reducible rfl
  rotate_left
  · simp only [Act.put, List.setIfInBounds_toArray, List.set_cons_zero, List.set_cons_succ, i64_w, i32_w]; rfl
  refine pure_ (i := 1) (N := (some 87)) (v := ?_) (a' := ?_) #[true, true, false, false, false, false, false, false, false] rfl rfl (by kernel_rfl) (fun _ _ _ h => h) (Or.inl ⟨by rfl, ?_⟩) ?_ ?_
  rotate_left
  · intro w'; go_simp; first | done | with_reducible rfl
  rotate_left
  · simp only [Act.put, List.setIfInBounds_toArray, List.set_cons_zero, List.set_cons_succ, i64_w, i32_w]; rfl
  refine one_ (i := 2) (N := (some 88)) #[true, true, true, false, false, false, false, false, false] rfl rfl (by kernel_rfl) (by decide) (fun K hK => ?_)
  refine goes_ Try.func18 (by kernel_rfl) rfl #[.string a] (by rfl) rfl rfl (by (try simp only [List.map_toArray, List.map_cons, List.map_nil]); first | done | rfl) ?_
  refine (PA.comfitlaw08_text.calls a a' wd HTX.out).mono ?_
  rintro e w16 ⟨rfl, hb⟩
  have HTE := Lib.hid (HTD.out.step hb)
  clear hb HTD
  refine ⟨_, rfl, ?_⟩
  refine hK.out _ _ ⟨HTE.out.reads.2.2.1, HTE.out.reads.2.2.2⟩ (fun hHeld => ?_)
  clear hK K
  refine norm_ (a' := ?_) ?_ ?_
  rotate_left
  · show Act.put _ (some 88) _ = _; simp only [Act.put, List.setIfInBounds_toArray, List.set_cons_zero, List.set_cons_succ, i64_w, i32_w]; rfl
  refine one_ (i := 3) (N := (some 89)) #[true, true, true, true, false, false, false, false, false] rfl rfl (by kernel_rfl) (by decide) (fun K hK => ?_)
  refine goes_ Try.func16 (by kernel_rfl) rfl #[.agg #[.slice AN N.length cN, .slice AM M.length cM], .string a'] (by rfl) rfl rfl (by (try simp only [List.map_toArray, List.map_cons, List.map_nil]); first | done | rfl) ?_
  refine (fixes_Holds.calls k AN cN N AM cM M a' b 0 w16 HTE.out.rN HCN.out HTE.out.rM HCM.out HH2.out).mono ?_
  rintro e w17 ⟨rfl, hb⟩
  have HTF := Lib.hid (HTE.out.step hb)
  clear hb HTE
  refine ⟨_, rfl, ?_⟩
  refine hK.out _ _ ⟨HTF.out.reads.2.2.1, HTF.out.reads.2.2.2⟩ (fun hHeld => ?_)
  clear hK K
  refine norm_ (a' := ?_) ?_ ?_
  rotate_left
  · show Act.put _ (some 89) _ = _; simp only [Act.put, List.setIfInBounds_toArray, List.set_cons_zero, List.set_cons_succ, i64_w, i32_w]; rfl
  refine pure_ (i := 4) (N := (some 85)) (v := ?_) (a' := ?_) #[true, true, true, true, true, false, false, false, false] rfl rfl (by kernel_rfl) (fun _ _ _ h => h) (Or.inl ⟨by rfl, ?_⟩) ?_ ?_
  rotate_left
  · intro w'; go_simp; first | done | with_reducible rfl
  rotate_left
  · simp only [Act.put, List.setIfInBounds_toArray, List.set_cons_zero, List.set_cons_succ, i64_w, i32_w]; rfl
  refine pure_ (i := 5) (N := (some 90)) (v := ?_) (a' := ?_) #[true, true, true, true, true, true, false, false, false] rfl rfl (by kernel_rfl) (fun _ _ _ h => h) (Or.inl ⟨by rfl, ?_⟩) ?_ ?_
  rotate_left
  · intro w'; go_simp; first | done | with_reducible rfl
  rotate_left
  · simp only [Act.put, List.setIfInBounds_toArray, List.set_cons_zero, List.set_cons_succ, i64_w, i32_w]; rfl
  refine pure_ (i := 6) (N := (some 91)) (v := ?_) (a' := ?_) #[true, true, true, true, true, true, true, false, false] rfl rfl (by kernel_rfl) (fun _ _ _ h => h) (Or.inl ⟨by rfl, ?_⟩) ?_ ?_
  rotate_left
  · intro w'; go_simp; first | done | with_reducible rfl
  rotate_left
  · simp only [Act.put, List.setIfInBounds_toArray, List.set_cons_zero, List.set_cons_succ, i64_w, i32_w]; rfl
  refine pure_ (i := 7) (N := (some 12)) (v := ?_) (a' := ?_) #[true, true, true, true, true, true, true, true, false] rfl rfl (by kernel_rfl) (fun _ _ _ h => h) (Or.inl ⟨by rfl, ?_⟩) ?_ ?_
  rotate_left
  · intro w'; go_simp; first | done | with_reducible rfl
  rotate_left
  · simp only [Act.put, List.setIfInBounds_toArray, List.set_cons_zero, List.set_cons_succ, i64_w, i32_w]; rfl
  refine pure_ (i := 8) (N := (some 13)) (v := ?_) (a' := ?_) #[true, true, true, true, true, true, true, true, true] rfl rfl (by kernel_rfl) (fun _ _ _ h => h) (Or.inl ⟨by rfl, ?_⟩) ?_ ?_
  rotate_left
  · intro w'; go_simp; first | done | with_reducible rfl
  rotate_left
  · simp only [Act.put, List.setIfInBounds_toArray, List.set_cons_zero, List.set_cons_succ, i64_w, i32_w]; rfl
  refine done_ (by kernel_rfl) ?_
  clear hHeld
  go_wp2_with fail
  go_loop [111] (fun v => ∃ i : Nat, i ≤ C.length ∧ v = .int .i64 i) (fun v => C.length - (intOf v).toNat)
  case atStart => exact ⟨0, by omega, rfl⟩
  case round =>
    obtain ⟨i, hi, rfl⟩ := hrel
    by_cases hlt : i < C.length
    · obtain ⟨bc, oc, rfl, _, hcc⟩ := ints_at HTF.out.rC (by omega)
      have hci := hcc i hlt
      have hlp := HLP.out i hlt
      have hi62 : i ≤ 62 := by omega
      clear hcc
      cases hq : (bits .and .i64 (b / 2 ^ i) 1 == 1) with
      | true =>
        rw [hq] at hlp
        go_wp2
        go_round
        case rel => exact ⟨i + 1, by omega, by go_num⟩
        case measure => simp [intOf]; omega
      | false =>
        rw [hq] at hlp
        go_wp2
        go_round
        case rel => exact ⟨i + 1, by omega, by go_num⟩
        case measure => simp [intOf]; omega
    · obtain rfl : i = C.length := by omega
      go_wp2_with fail
      refine (PB.comfitlaw08_awake.calls k true w17 HAW.out).mono ?_
      rintro e w9 ⟨rfl, hb⟩
      have HT9 := Lib.hid (HTF.out.step hb)
      clear hb
      go_wp2
      go_ret
      exact ⟨rfl, HT9.out.below⟩
end Go.Proofs.Ytjffhhalmicodaa.X
end

section
set_option linter.unusedVariables false
namespace Go.Proofs.Ytjffhhalmicodaa.X
open Go.RowKit Go.Proofs.YtjffhhalmicodaaW.PrintWords Go.Proofs.YtjffhhalmicodaaW.PrintLast Go.Proofs.YtjffhhalmicodaaW.PrintMore
inductive Good12 (k : Nat) (nx mk : List Int) (a : ByteArray) : Prop
  | bad (nx' mk' N M C : List Int) (hof : PA.comfitlaw08_Of.f nx mk = some (nx', mk')) (hq : fixes_Quotient.f k nx' mk' = some (N, M, 2)) (hcl : PF.fixes_Classes.f k nx' mk' = some (C, 2)) (haw : PB.comfitlaw08_awake.f k = some true)
  | form (nx' mk' N M C C2 : List Int) (a' : ByteArray) (hof : PA.comfitlaw08_Of.f nx mk = some (nx', mk')) (hq : fixes_Quotient.f k nx' mk' = some (N, M, 0)) (hcl : PF.fixes_Classes.f k nx' mk' = some (C, 0)) (haw : PB.comfitlaw08_awake.f k = some true)
      (hv : PB.comfitref08_Valid.f k nx mk = some true) (hvq : PB.comfitref08_Valid.f k N M = some true) (hln : N.length = C.length) (hofq : PA.comfitlaw08_Of.f N M = some (N, M)) (hcq : PF.fixes_Classes.f k N M = some (C2, 0)) (hl2 : C2.length = C.length) (htx : PA.comfitlaw08_text.f a = some a') (hh : fixes_Holds.f k nx' mk' a' = some (0, 3)) (hh2 : fixes_Holds.f k N M a' = some (0, 3))
  | good (nx' mk' N M C C2 : List Int) (a' : ByteArray) (n b : Int) (hof : PA.comfitlaw08_Of.f nx mk = some (nx', mk')) (hq : fixes_Quotient.f k nx' mk' = some (N, M, 0)) (hcl : PF.fixes_Classes.f k nx' mk' = some (C, 0)) (haw : PB.comfitlaw08_awake.f k = some true)
      (hv : PB.comfitref08_Valid.f k nx mk = some true) (hvq : PB.comfitref08_Valid.f k N M = some true) (hln : N.length = C.length) (hofq : PA.comfitlaw08_Of.f N M = some (N, M)) (hcq : PF.fixes_Classes.f k N M = some (C2, 0)) (hl2 : C2.length = C.length) (htx : PA.comfitlaw08_text.f a = some a') (hh : fixes_Holds.f k nx' mk' a' = some (n, 0)) (hh2 : fixes_Holds.f k N M a' = some (b, 0))
      (hlp : ∀ i : Nat, i < C.length → (bits .and .i64 n (rd C i) != 0) = (bits .and .i64 (b / 2 ^ i) 1 == 1)) (h61 : C.length ≤ 61)
open Classical in
noncomputable def law12.f (k : Nat) (nx mk : List Int) (a : ByteArray) : Option Bool := if Good12 k nx mk a then some true else none
theorem law12.calls (k : Nat) (A0 : Option Addr) (c0 : Nat) (nx : List Int) (A1 : Option Addr) (c1 : Nat) (mk : List Int) (a : ByteArray) (r : Bool) (w : World) (hr0 : Kd.C (Kd.int .i64) w A0 nx.length nx) (hc0 : nx.length ≤ c0) (hr1 : Kd.C (Kd.int .i64) w A1 mk.length mk) (hc1 : mk.length ≤ c1) (h : law12.f k nx mk a = some r) :
    Calls Try.prog 12 #[.agg #[.slice A0 nx.length c0, .slice A1 mk.length c1], .string a] w fun e w' => e = .returned (.bool r) ∧ Below w.heap.size w w' := by
  unfold law12.f at h
  split at h
  · rename_i hg
    injection h with h
    subst h
    cases hg with
    | bad nx' mk' N M C hof hq hcl haw => exact law12_bad k A0 c0 nx A1 c1 mk a nx' mk' N M C w hr0 hc0 hr1 hc1 hof hq hcl haw
    | form nx' mk' N M C C2 a' hof hq hcl haw hv hvq hln hofq hcq hl2 htx hh hh2 => exact law12_form k A0 c0 nx A1 c1 mk a nx' mk' N M C C2 a' w hr0 hc0 hr1 hc1 hof hq hcl haw hv hvq hln hofq hcq hl2 htx hh hh2
    | good nx' mk' N M C C2 a' n b hof hq hcl haw hv hvq hln hofq hcq hl2 htx hh hh2 hlp h61 => exact law12_good k A0 c0 nx A1 c1 mk a nx' mk' N M C C2 a' n b w hr0 hc0 hr1 hc1 hof hq hcl haw hv hvq hln hofq hcq hl2 htx hh hh2 hlp h61
  · cases h
end Go.Proofs.Ytjffhhalmicodaa.X
end

section
set_option linter.unusedVariables false
namespace Go.Proofs.Ytjffhhalmicodaa.L
open Go.RowKit Go.Proofs.YtjffhhalmicodaaW.PrintWords Go.Proofs.YtjffhhalmicodaaW.PrintLast Go.Proofs.YtjffhhalmicodaaW.PrintMore Go.Proofs.Ytjffhhalmicodaa.X Go.Proofs.Ytjffhhalmicodaa.PF Go.Proofs.Ytjffhhalmicodaa.PA Go.Proofs.Ytjffhhalmicodaa.PB
theorem coarsest {nx mk : List Int} (hv : VW nx mk) {R : Nat → Nat → Prop} (hR : Bi nx mk nx mk R) : ∀ k s t, R s t → E nx mk k s t := by
  intro k
  induction k with
  | zero => exact fun s t h => (E_zero (hR.l s t h) (hR.r s t h)).2 (hR.m s t h)
  | succ k ih =>
    intro s t h
    refine (E_succ hv (hR.l s t h) (hR.r s t h)).2 ⟨ih s t h, fun u hu hb => ?_, fun v hw hb => ?_⟩
    · obtain ⟨v, a, b, c⟩ := hR.f s t u h hu hb
      exact ⟨v, a, b, ih u v c⟩
    · obtain ⟨u, a, b, c⟩ := hR.b s t v h hw hb
      exact ⟨u, a, b, ih u v c⟩
theorem cnt_all {key : Nat → Int × Int} : ∀ n, (∀ i j, i < n → j < n → key i = key j → i = j) → cnt key n = n
  | 0, _ => rfl
  | n + 1, h => by
    have ih := cnt_all n (fun i j hi hj => h i j (by omega) (by omega))
    rcases cnt_step key n with ⟨_, j, hj, e⟩ | ⟨e, _⟩
    · have := h j n (by omega) (by omega) e
      omega
    · omega
theorem rep_of {nx mk : List Int} (_hv : VW nx mk) {K : Nat} (_hK : Last nx mk K) {i : Nat} (hi : i < nc nx mk K) : ∃ s, s < nx.length ∧ rd (lv nx mk K) s = (i : Int) := by
  obtain ⟨s, a, b, _⟩ := cls_has (lkey nx mk K) nx.length i hi
  exact ⟨s, a, by rw [lv_rd _ _ _ _ a, b]⟩
section
variable {nx mk : List Int} (hv : VW nx mk) {K : Nat} (hK : Last nx mk K)
include hv hK
theorem VQ : VW (QN nx mk K) (QM nx mk K) := by
  obtain ⟨⟨q1, q2⟩, q3⟩ := Q_spec hv hK
  have hn := nc_le nx mk K
  have hp := nc_pos hv K
  refine ⟨by omega, by have := hv.le; omega, by omega, fun i hi => ?_, fun i hi => ?_⟩
  · obtain ⟨s, s1, s2⟩ := rep_of hv hK (i := i) (by omega)
    rw [q1]
    exact (q3 s s1 i s2).2.1
  · obtain ⟨s, s1, s2⟩ := rep_of hv hK (i := i) (by omega)
    rw [(q3 s s1 i s2).1]
    exact hv.marks s s1
theorem bi_Q : Bi nx mk (QN nx mk K) (QM nx mk K) (fun s i => s < nx.length ∧ i < nc nx mk K ∧ rd (lv nx mk K) s = (i : Int)) where
  l := fun s i h => h.1
  r := fun s i h => by rw [(Q_spec hv hK).1.1]; exact h.2.1
  m := fun s i h => ((Q_spec hv hK).2 s h.1 i h.2.2).1.symm
  f := fun s i u h hu hb => by
    obtain ⟨v, hv'⟩ := Int.eq_ofNat_of_zero_le (lv_nc nx mk K hu).1
    have hvn : v < nc nx mk K := by have := (lv_nc nx mk K hu).2; omega
    exact ⟨v, by rw [(Q_spec hv hK).1.1]; exact hvn, (((Q_spec hv hK).2 s h.1 i h.2.2).2.2 v).2 ⟨u, hu, hb, hv'⟩, hu, hvn, hv'⟩
  b := fun s i v h hw hb => by
    obtain ⟨u, u1, u2, u3⟩ := (((Q_spec hv hK).2 s h.1 i h.2.2).2.2 v).1 hb
    rw [(Q_spec hv hK).1.1] at hw
    exact ⟨u, u1, u2, u1, hw, u3⟩
theorem Q_apart {K' : Nat} (hK' : Last (QN nx mk K) (QM nx mk K) K') : nc (QN nx mk K) (QM nx mk K) K' = nc nx mk K := by
  have hq := VQ hv hK
  obtain ⟨⟨q1, q2⟩, q3⟩ := Q_spec hv hK
  have hb := bi_Q hv hK
  have hbi : Bi nx mk nx mk (fun s t => ∃ i j, (s < nx.length ∧ i < nc nx mk K ∧ rd (lv nx mk K) s = (i : Int)) ∧ (t < nx.length ∧ j < nc nx mk K ∧ rd (lv nx mk K) t = (j : Int)) ∧ E (QN nx mk K) (QM nx mk K) K' i j) := by
    refine ⟨fun s t ⟨i, j, h1, h2, _⟩ => h1.1, fun s t ⟨i, j, h1, h2, _⟩ => h2.1, fun s t ⟨i, j, h1, h2, h3⟩ => ?_, fun s t u ⟨i, j, h1, h2, h3⟩ hu hbu => ?_, fun s t u ⟨i, j, h1, h2, h3⟩ hu hbu => ?_⟩
    · rw [hb.m s i h1, hb.m t j h2]
      exact (hK'.bis hq (by omega) (by omega) h3).1
    · obtain ⟨u', a1, a2, a3⟩ := hb.f s i u h1 hu hbu
      obtain ⟨v', b1, b2, b3⟩ := (hK'.bis hq (by omega) (by omega) h3).2 u' a1 a2
      obtain ⟨v, c1, c2, c3⟩ := hb.b t j v' h2 b1 b2
      exact ⟨v, c1, c2, u', v', a3, c3, b3⟩
    · obtain ⟨u', a1, a2, a3⟩ := hb.f t j u h2 hu hbu
      obtain ⟨v', b1, b2, b3⟩ := (hK'.bis hq (by omega) (by omega) h3.symm).2 u' a1 a2
      obtain ⟨v, c1, c2, c3⟩ := hb.b s i v' h1 b1 b2
      exact ⟨v, c1, c2, v', u', c3, a3, b3.symm⟩
  unfold nc
  rw [show cnt (lkey (QN nx mk K) (QM nx mk K) K') (QN nx mk K).length = (QN nx mk K).length from cnt_all _ fun i j hi hj h => ?_]
  · exact q1
  · have he : E (QN nx mk K) (QM nx mk K) K' i j := (E_key hi hj).2 h
    obtain ⟨s, s1, s2⟩ := rep_of hv hK (i := i) (by omega)
    obtain ⟨t, t1, t2⟩ := rep_of hv hK (i := j) (by omega)
    have := coarsest hv hbi K s t ⟨i, j, ⟨s1, by omega, s2⟩, ⟨t1, by omega, t2⟩, he⟩
    unfold E at this
    omega
end
theorem take_q {N : List Int} (h : N.length ≤ 6) : N.take 9 = N := List.take_of_length_le (by omega)
theorem Pure_FixesQuotient (nx mk : List Int) (a : ByteArray) : ∃ k, law12.f k nx mk a = some true := by
  have fin : (∃ k, Good12 k nx mk a) → ∃ k, law12.f k nx mk a = some true := fun ⟨k, h⟩ => ⟨k, by unfold law12.f; rw [if_pos h]⟩
  apply fin
  obtain ⟨ka, haw⟩ := awake_ev
  by_cases hv : VW nx mk
  · obtain ⟨e1, e2⟩ := take_of hv
    obtain ⟨K, hK, _⟩ := lv_last hv
    have hq := VQ hv hK
    obtain ⟨K', hK', _⟩ := lv_last hq
    obtain ⟨⟨q1, q2⟩, q3⟩ := Q_spec hv hK
    have hn := nc_le nx mk K
    have h6 := hv.le
    obtain ⟨k1, h1⟩ := Quotient_ev hv hK
    obtain ⟨k2, h2⟩ := Classes_ev hv hK
    obtain ⟨k3, h3⟩ := Valid_ev nx mk
    obtain ⟨k4, h4⟩ := Valid_ev (QN nx mk K) (QM nx mk K)
    obtain ⟨k5, h5⟩ := Classes_ev hq hK'
    simp only [hv, hq, decide_true] at h3 h4
    have hof : PA.comfitlaw08_Of.f nx mk = some (nx, mk) := by rw [Of_eq, e1, e2]
    have hofq : PA.comfitlaw08_Of.f (QN nx mk K) (QM nx mk K) = some (QN nx mk K, QM nx mk K) := by rw [Of_eq, take_q (by omega), take_q (by omega)]
    have hl : (QN nx mk K).length = (CL nx mk K).length := by rw [q1, CL_len]
    have hl2 : (CL (QN nx mk K) (QM nx mk K) K').length = (CL nx mk K).length := by rw [CL_len, CL_len, Q_apart hv hK hK']
    cases hi : IsB a with
    | false =>
      have hh : ∀ k, fixes_Holds.f k nx mk (txt a) = some (0, 3) := fun k => by
        have := Holds_none hv hi k
        rwa [e1, e2] at this
      have hh2 : ∀ k, fixes_Holds.f k (QN nx mk K) (QM nx mk K) (txt a) = some (0, 3) := fun k => by
        have := Holds_none hq hi k
        rwa [take_q (by omega), take_q (by omega)] at this
      let k := max ka (max k1 (max k2 (max k3 (max k4 k5))))
      exact ⟨k, .form nx mk _ _ _ _ (txt a) hof (h1 k (by omega)) (h2 k (by omega)) (haw k (by omega)) (h3 k (by omega)) (h4 k (by omega)) hl hofq (h5 k (by omega)) hl2 (text_eq a) (hh k) (hh2 k)⟩
    | true =>
      obtain ⟨f, f1, f2, f3⟩ := wholeS_some hi
      have hw : WF f := (whole_str f2).2
      obtain ⟨k6, h7⟩ := Holds_ev hv f1
      obtain ⟨k7, h8⟩ := Holds_ev hq f1
      rw [e1, e2] at h7
      rw [take_q (by omega), take_q (by omega)] at h8
      let k := max ka (max k1 (max k2 (max k3 (max k4 (max k5 (max k6 k7))))))
      refine ⟨k, .good nx mk _ _ _ _ (txt a) _ _ hof (h1 k (by omega)) (h2 k (by omega)) (haw k (by omega)) (h3 k (by omega)) (h4 k (by omega)) hl hofq (h5 k (by omega)) hl2 (text_eq a) (h7 k (by omega)) (h8 k (by omega)) (fun i hi => ?_) (by rw [CL_len]; omega)⟩
      rw [CL_len] at hi
      have ha := (V_spec hv f hw).1 _ (inE_zero _)
      have hb := (V_spec hq f hw).1 _ (inE_zero _)
      obtain ⟨c1, c2⟩ := CL_spec hv hi
      have hag := V_ag hv hq (bi_Q hv hK) f hw _ _ (inE_zero _) (inE_zero _) (fun c s t _ => by rw [getL_zero, tb_zero, tb_zero])
      have hbit := bit_of (n := (QN nx mk K).length) (by omega) hb (t := i) (by omega)
      rw [shr_at _ (by omega)] at hbit
      rw [hbit, Bool.eq_iff_iff, bne_iff_ne, ne_eq, and_zero (by omega) ha c1]
      obtain ⟨s, s1, s2⟩ := rep_of hv hK hi
      have hs := hag s i ⟨s1, hi, s2⟩
      constructor
      · intro h
        have hex : ∃ t, tb (V nx mk f (0, 0, 0)) t = true ∧ tb (rd (CL nx mk K) (i : Int)) t = true := by
          apply Classical.byContradiction
          intro q
          apply h
          intro t ht
          cases hbt : tb (rd (CL nx mk K) (i : Int)) t
          · rfl
          · exact absurd ⟨t, ht, hbt⟩ q
        obtain ⟨t, t1, t2⟩ := hex
        rw [c2] at t2
        simp at t2
        have := hag t i ⟨t2.1, hi, t2.2⟩
        rw [t1] at this
        rw [← this]
        rfl
      · intro h hall
        have htb : tb (V (QN nx mk K) (QM nx mk K) f (0, 0, 0)) i = true := by
          cases q : tb (V (QN nx mk K) (QM nx mk K) f (0, 0, 0)) i
          · rw [q] at h; simp at h
          · rfl
        rw [htb] at hs
        have := hall s hs
        rw [c2, s2] at this
        simp [s1] at this
  · have hv' := vw_no hv
    exact ⟨ka, .bad _ _ _ _ _ (Of_eq nx mk) (Quotient_bad hv' ka) (Classes_bad hv' ka) (haw ka (Nat.le_refl _))⟩
end Go.Proofs.Ytjffhhalmicodaa.L
end
