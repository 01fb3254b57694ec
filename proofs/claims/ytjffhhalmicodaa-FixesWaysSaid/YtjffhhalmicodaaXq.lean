import Derived.Test.YtjffhhalmicodaaXp
set_option linter.unusedVariables false
set_option linter.unusedSimpArgs false
namespace Go.Proofs.Ytjffhhalmicodaa.X
open Go.RowKit Go.Proofs.YtjffhhalmicodaaW.PrintWords Go.Proofs.YtjffhhalmicodaaW.PrintLast Go.Proofs.YtjffhhalmicodaaW.PrintMore

mutual
/-- where a formula holds, with a map for its letters, within a number of rounds -/
def holdF (nx mk : List Int) : Nat → Fm → List (Int × Int) → Option (Int × List (Int × Int))
  | 0, _, _ => none
  | k + 1, .mark neg j, m => some (whereTo (fun s => markOf mk j s == if neg = true then 0 else 1) nx.length, m)
  | k + 1, .con c, m => if c = 116 then some (allOf nx, m) else if c = 102 then some (0, m) else none
  | k + 1, .var c, m => some ((findL m (c : Int)).getD 0, m)
  | k + 1, .two c a b, m => if c = 38 ∨ c = 124 then (holdF nx mk k a m).bind fun p => (holdF nx mk k b p.2).bind fun q => some (if c = 38 then bits .and .i64 p.1 q.1 else bits .or .i64 p.1 q.1, q.2) else none
  | k + 1, .one c a, m => if c = 60 ∨ c = 91 then (holdF nx mk k a m).bind fun p => some (if c = 60 then stepTo nx p.1 else boxTo nx p.1, p.2) else none
  | k + 1, .fix c x a, m => if c = 109 ∨ c = 103 then (loopF nx mk k x a (if c = 103 then allOf nx else 0) 0 m).bind fun p => some (p.1, p.2.2) else none
def loopF (nx mk : List Int) : Nat → Nat → Fm → Int → Int → List (Int × Int) → Option (Int × Int × List (Int × Int))
  | 0, _, _, _, _, _ => none
  | k + 1, x, a, set, cnt, m => (holdF nx mk k a (putL m (x : Int) set)).bind fun p => if p.1 = set then some (set, wrap64 (cnt + 1), p.2) else loopF nx mk k x a p.1 (wrap64 (cnt + 1)) p.2
end

set_option maxRecDepth 100000 in
set_option maxHeartbeats 2000000 in
theorem fix_g (A0 : Option Addr) (c0 : Nat) (nx : List Int) (A1 : Option Addr) (c1 : Nat) (mk : List Int) (gn r : Nat) (w : World) (hr0 : Kd.C (Kd.int .i64) w A0 nx.length nx) (hc0 : nx.length ≤ c0) (hr1 : Kd.C (Kd.int .i64) w A1 mk.length mk) (hc1 : mk.length ≤ c1) (hlen : nx.length = mk.length) (kb ko cp : Nat) (va : Value) (x : Nat) (a : Fm) (k : Nat) (m m1 : List (Int × Int)) (set cnt : Int) (ok : Nat → Prop) (hn0 : w.cell? ⟨gn, 0, none⟩ = some (.int .u8 103)) (hn2 : w.cell? ⟨gn, 2, none⟩ = some (.int .u8 x)) (hn3 : w.cell? ⟨gn, 3, none⟩ = some (.slice (some ⟨kb, ko, none⟩) 1 cp)) (hka : w.cell? ⟨kb, ko, none⟩ = some va) (ha : Tree w ok a va) (hm : IsM (Value.int .u8) (Value.int .i64) w r m) (ih : ∀ j, j < k → ∀ m res m', holdF nx mk j a m = some (res, m') → HoldsC nx mk a m res m') (hf : loopF nx mk k x a (allOf nx) 0 m = some (set, cnt, m1)) :
    Calls Try.prog 52 #[.agg #[.slice A0 nx.length c0, .slice A1 mk.length c1], .pointer (some ⟨gn, 0, none⟩), .map (some r)] w fun e w' => e = .returned (.tuple #[.int .i64 set, .int .i64 cnt]) ∧ HP r m1 w w' := by
  have HM := Lib.hid hm
  have HA := Lib.hid ha
  have IH := Lib.hid ih
  have HF := Lib.hid hf
  clear hm ha ih hf
  have hu := Try.underlying28
  have hu2 := Try.underlying74
  have HR0 := Lib.hid hr0
  have HR1 := Lib.hid hr1
  have HLEN := Lib.hid hlen
  have hle := hr0.2.1
  clear hr0 hr1 hlen
  go_enter Try.func52, Try.ntmps52
  go_wp2_with (first | ((with_reducible refine gate_dst (N := 3) rfl ?_); refine box_event ?hg (N := 3) ?hd (cs := #[.slice A0 nx.length c0, .slice A1 mk.length c1]) (t := 28) ?hr ?_; (case hd => rfl); (case hg => rfl); (case hr => first | (go_simp; done) | (go_simp; rfl)); intro gw hgw wb hbw hbb; have k0_ := pw_cell_below hbb hn0; have k1_ := pw_cell_below hbb hn2; have k2_ := pw_cell_below hbb hn3; have k3_ := pw_cell_below hbb hka; clear hn0 hn2 hn3 hka; have hn0 := k0_; have hn2 := k1_; have hn3 := k2_; have hka := k3_; clear k0_ k1_ k2_ k3_; have HBW := Lib.hid (below_step (Below.refl w.heap.size w) hbb); have hw0 : wb.cell? ⟨gw, 0, none⟩ = some (.slice A0 nx.length c0) := (blk_cell hbw 0).trans rfl; have hw1 : wb.cell? ⟨gw, 1, none⟩ = some (.slice A1 mk.length c1) := (blk_cell hbw 1).trans rfl; clear hgw hbb hbw) | fail)
  refine (PA.fixes_Works_all.calls A0 c0 nx A1 c1 mk (allOf nx) _ (Kd.C_below HR0.out HBW.out) hc0 (Kd.C_below HR1.out HBW.out) hc1 rfl).mono ?_
  rintro e wa ⟨rfl, hba⟩
  have HBA := Lib.hid (below_step HBW.out hba)
  have hw0a := pw_cell_below hba hw0
  have hw1a := pw_cell_below hba hw1
  have hn2a := pw_cell_below hba hn2
  have hn3a := pw_cell_below hba hn3
  have hkaa := pw_cell_below hba hka
  clear hba hw0 hw1 hn0 hn2 hn3 hka HBW
  go_wp2_with fail
  go_loopg [6, 7] k (fun kq v6 v7 wr => ∃ (s c : Int) (mm : List (Int × Int)), v6 = .int .i64 s ∧ v7 = .int .i64 c ∧ Hid (kq ≤ k) ∧ Hid (loopF nx mk kq x a s c mm = some (set, cnt, m1)) ∧ Hid (HP r mm w wr) ∧ wr.cell? ⟨gw, 0, none⟩ = some (.slice A0 nx.length c0) ∧ wr.cell? ⟨gw, 1, none⟩ = some (.slice A1 mk.length c1) ∧ wr.cell? ⟨gn, 2, none⟩ = some (.int .u8 x) ∧ wr.cell? ⟨gn, 3, none⟩ = some (.slice (some ⟨kb, ko, none⟩) 1 cp) ∧ wr.cell? ⟨kb, ko, none⟩ = some va)
  case atStart => exact ⟨_, _, m, rfl, rfl, Nat.le_refl _, HF.out, HP.of_below HM.out HBA.out, hw0a, hw1a, hn2a, hn3a, hkaa⟩
  case round =>
    clear hw0a hw1a hn2a hn3a hkaa HBA HF
    obtain ⟨s, c, mm, rfl, rfl, HK, HF, HPW, hw0, hw1, hn2, hn3, hka⟩ := hrel
    cases gk with
    | zero => exact absurd HF.out (by simp [loopF])
    | succ kq =>
      have hf := HF.out
      simp only [loopF] at hf
      obtain ⟨p, hp, hf⟩ := Option.bind_eq_some_iff.mp hf
      have HPP := Lib.hid hp
      have HF1 := Lib.hid hf
      clear hp hf HF
      have hcm := HPW.out.cells HM.out
      have HCM := Lib.hid hcm
      clear hcm
      go_wp2_with (first | ((with_reducible refine gate_op (op := .mapUpdate 65 (.tmp 16) (.tmp 20) (.tmp 21)) rfl ?_); refine map_put_event rfl 65 (.tmp 16) (.tmp 20) (.tmp 21) (Or.inr rfl) Try.underlying65 (keyOk_int Try.underlying5) (enc := Value.int .u8) (encv := Value.int .i64) (x : Int) s rfl rfl rfl HPW.out.map ?_; intro wm hmm hkm hlm; have n0_ := Lib.hid (HPW.out.trans (HP.mk hmm hkm hlm)); have k0_ := (HP.mk hmm hkm hlm).cells HPW.out.map; have j0_ := k0_ _ _ hw0; have j1_ := k0_ _ _ hw1; have j2_ := k0_ _ _ hn2; have j3_ := k0_ _ _ hn3; have j4_ := k0_ _ _ hka; have HC1 := Lib.hid (HCM.out.trans k0_); clear hmm hkm hlm k0_ HPW hw0 hw1 hn2 hn3 hka HCM; have HPW := n0_; have hw0 := j0_; have hw1 := j1_; have hn2 := j2_; have hn3 := j3_; have hka := j4_; clear n0_ j0_ j1_ j2_ j3_ j4_) | fail)
      have HS := Lib.hid (show (fun w' => w'.cell? ⟨gw, 0, none⟩ = some (.slice A0 nx.length c0) ∧ w'.cell? ⟨gw, 1, none⟩ = some (.slice A1 mk.length c1) ∧ w'.cell? ⟨gn, 3, none⟩ = some (.slice (some ⟨kb, ko, none⟩) 1 cp) ∧ w'.cell? ⟨kb, ko, none⟩ = some va) wm.drew from ⟨by simpa using hw0, by simpa using hw1, by simpa using hn3, by simpa using hka⟩)
      have HPD := Lib.hid (HPW.out.step (below_drew1 (Below.refl wm.heap.size wm)))
      have HCD := Lib.hid (HC1.out.trans (Cells.of_below (below_drew1 (Below.refl wm.heap.size wm))))
      have HN2 := Lib.hid (show wm.drew.cell? ⟨gn, 2, none⟩ = some (.int .u8 x) by simpa using hn2)
      clear hw0 hw1 hn2 hn3 hka HC1 HPW
      refine start_ (n := 10) (S := fun w' => w'.cell? ⟨gw, 0, none⟩ = some (.slice A0 nx.length c0) ∧ w'.cell? ⟨gw, 1, none⟩ = some (.slice A1 mk.length c1) ∧ w'.cell? ⟨gn, 3, none⟩ = some (.slice (some ⟨kb, ko, none⟩) 1 cp) ∧ w'.cell? ⟨kb, ko, none⟩ = some va) (ds := []) #[false, false, false, false, false, false, false, false, false, false] (by kernel_rfl) rfl rfl HS.out (fun hHeld => ?_)
      generalize wm.drew = wd at HS HPD HCD HN2 hHeld ⊢
      refine take_ (i := 0) (N := (some 22)) (v := ?_) (a' := ?_) #[true, false, false, false, false, false, false, false, false, false] rfl rfl (by kernel_rfl) (fun _ _ _ h => h) (Or.inl ⟨by rfl, ?_⟩) hHeld ?_ ?_
      rotate_left
      · rintro w' ⟨s0, s1, s2, s3⟩; go_simp; first | done | with_reducible rfl
      rotate_left
      · simp only [Act.put, List.setIfInBounds_toArray, List.set_cons_zero, List.set_cons_succ, i64_w, i32_w]; rfl
      refine pure_ (i := 1) (N := (some 23)) (v := ?_) (a' := ?_) #[true, true, false, false, false, false, false, false, false, false] rfl rfl (by kernel_rfl) (fun _ _ _ h => h) (Or.inl ⟨by rfl, ?_⟩) ?_ ?_
      rotate_left
      · intro w'; go_simp; first | done | with_reducible rfl
      rotate_left
      · simp only [Act.put, List.setIfInBounds_toArray, List.set_cons_zero, List.set_cons_succ, i64_w, i32_w]; rfl
      refine pure_ (i := 2) (N := (some 24)) (v := ?_) (a' := ?_) #[true, true, true, false, false, false, false, false, false, false] rfl rfl (by kernel_rfl) (fun _ _ _ h => h) (Or.inl ⟨by rfl, ?_⟩) ?_ ?_
      rotate_left
      · intro w'; go_simp; first | done | with_reducible rfl
      rotate_left
      · simp only [Act.put, List.setIfInBounds_toArray, List.set_cons_zero, List.set_cons_succ, i64_w, i32_w]; rfl
      refine pure_ (i := 3) (N := (some 25)) (v := ?_) (a' := ?_) #[true, true, true, true, false, false, false, false, false, false] rfl rfl (by kernel_rfl) (fun _ _ _ h => h) (Or.inl ⟨by rfl, ?_⟩) ?_ ?_
      rotate_left
      · intro w'; go_simp; first | done | with_reducible rfl
      rotate_left
      · simp only [Act.put, List.setIfInBounds_toArray, List.set_cons_zero, List.set_cons_succ, i64_w, i32_w]; rfl
      refine take_ (i := 4) (N := (some 26)) (v := ?_) (a' := ?_) #[true, true, true, true, true, false, false, false, false, false] rfl rfl (by kernel_rfl) (fun _ _ _ h => h) (Or.inl ⟨by rfl, ?_⟩) hHeld ?_ ?_
      rotate_left
      · rintro w' ⟨s0, s1, s2, s3⟩; go_simp; first | done | with_reducible rfl
      rotate_left
      · simp only [Act.put, List.setIfInBounds_toArray, List.set_cons_zero, List.set_cons_succ, i64_w, i32_w]; rfl
      refine pure_ (i := 5) (N := (some 27)) (v := ?_) (a' := ?_) #[true, true, true, true, true, true, false, false, false, false] rfl rfl (by kernel_rfl) (fun _ _ _ h => h) (Or.inl ⟨by rfl, ?_⟩) ?_ ?_
      rotate_left
      · intro w'; go_simp; first | done | with_reducible rfl
      rotate_left
      · simp only [Act.put, List.setIfInBounds_toArray, List.set_cons_zero, List.set_cons_succ, i64_w, i32_w]; rfl
      refine take_ (i := 6) (N := (some 28)) (v := ?_) (a' := ?_) #[true, true, true, true, true, true, true, false, false, false] rfl rfl (by kernel_rfl) (fun _ _ _ h => h) (Or.inl ⟨by rfl, ?_⟩) hHeld ?_ ?_
      rotate_left
      · rintro w' ⟨s0, s1, s2, s3⟩; go_simp; first | done | with_reducible rfl
      rotate_left
      · simp only [Act.put, List.setIfInBounds_toArray, List.set_cons_zero, List.set_cons_succ, i64_w, i32_w]; rfl
      refine pure_ (i := 7) (N := (some 29)) (v := ?_) (a' := ?_) #[true, true, true, true, true, true, true, true, false, false] rfl rfl (by kernel_rfl) (fun _ _ _ h => h) (Or.inl ⟨by rfl, ?_⟩) ?_ ?_
      rotate_left
      · intro w'; go_simp; first | done | with_reducible rfl
      rotate_left
      · simp only [Act.put, List.setIfInBounds_toArray, List.set_cons_zero, List.set_cons_succ, i64_w, i32_w]; rfl
      refine one_ (i := 8) (N := (some 30)) #[true, true, true, true, true, true, true, true, true, false] rfl rfl (by kernel_rfl) (by decide) (fun K hK => ?_)
      refine goes_ Try.func47 (by kernel_rfl) rfl #[.agg #[.slice A0 nx.length c0, .slice A1 mk.length c1], va, .map (some r)] (by rfl) rfl rfl (by (try simp only [List.map_toArray, List.map_cons, List.map_nil]); first | done | rfl) ?_
      refine (IH.out kq (by have := HK.out; omega) _ _ _ HPP.out A0 c0 A1 c1 ok va r wd (HCD.out.ints HR0.out) hc0 (HCD.out.ints HR1.out) hc1 (Tree.same HCD.out.same (fun _ _ h => h) _ _ HA.out) HPD.out.map).mono ?_
      rintro e w1 ⟨rfl, hp1⟩
      have hC1 := hp1.cells HPD.out.map
      have HP1 := Lib.hid (HPD.out.trans hp1)
      have hw0 := hC1 _ _ HS.out.1
      have hw1 := hC1 _ _ HS.out.2.1
      have hn3 := hC1 _ _ HS.out.2.2.1
      have hka := hC1 _ _ HS.out.2.2.2
      have hn2 := hC1 _ _ HN2.out
      clear hp1 hC1
      refine ⟨_, rfl, ?_⟩
      refine hK.out _ _ ⟨hw0, hw1, hn3, hka⟩ (fun hHeld => ?_)
      clear hK K
      refine norm_ (a' := ?_) ?_ ?_
      rotate_left
      · show Act.put _ (some 30) _ = _; simp only [Act.put, List.setIfInBounds_toArray, List.set_cons_zero, List.set_cons_succ, i64_w, i32_w]; rfl
      refine pure_ (i := 9) (N := (some 8)) (v := ?_) (a' := ?_) #[true, true, true, true, true, true, true, true, true, true] rfl rfl (by kernel_rfl) (fun _ _ _ h => h) (Or.inl ⟨by rfl, ?_⟩) ?_ ?_
      rotate_left
      · intro w'; go_simp; first | done | with_reducible rfl
      rotate_left
      · simp only [Act.put, List.setIfInBounds_toArray, List.set_cons_zero, List.set_cons_succ, i64_w, i32_w]; rfl
      refine done_ (by kernel_rfl) ?_
      clear hHeld
      by_cases he : p.1 = s
      · have e1 : (p.1 == s) = true := beq_iff_eq.2 he
        have HE := Lib.hid he
        clear he
        go_wp2
        go_ret2
        have hf := HF1.out
        rw [if_pos HE.out] at hf
        simp only [Option.some.injEq, Prod.mk.injEq] at hf
        obtain ⟨h1, h2, h3⟩ := hf
        exact ⟨by rw [h1, h2]; rfl, h3 ▸ HP1.out⟩
      · have e1 : (p.1 == s) = false := beq_eq_false_iff_ne.2 he
        have HE := Lib.hid he
        clear he
        go_wp2
        go_roundg kq
        case measure => omega
        case rel =>
          have hf := HF1.out
          rw [if_neg HE.out] at hf
          exact ⟨_, _, _, rfl, rfl, by have := HK.out; exact (by omega : kq ≤ k), hf, HP1.out, hw0, hw1, hn2, hn3, hka⟩

set_option maxRecDepth 100000 in
set_option maxHeartbeats 2000000 in
theorem fix_m (A0 : Option Addr) (c0 : Nat) (nx : List Int) (A1 : Option Addr) (c1 : Nat) (mk : List Int) (gn r : Nat) (w : World) (hr0 : Kd.C (Kd.int .i64) w A0 nx.length nx) (hc0 : nx.length ≤ c0) (hr1 : Kd.C (Kd.int .i64) w A1 mk.length mk) (hc1 : mk.length ≤ c1) (hlen : nx.length = mk.length) (kb ko cp : Nat) (va : Value) (x : Nat) (a : Fm) (k : Nat) (m m1 : List (Int × Int)) (set cnt : Int) (ok : Nat → Prop) (hn0 : w.cell? ⟨gn, 0, none⟩ = some (.int .u8 109)) (hn2 : w.cell? ⟨gn, 2, none⟩ = some (.int .u8 x)) (hn3 : w.cell? ⟨gn, 3, none⟩ = some (.slice (some ⟨kb, ko, none⟩) 1 cp)) (hka : w.cell? ⟨kb, ko, none⟩ = some va) (ha : Tree w ok a va) (hm : IsM (Value.int .u8) (Value.int .i64) w r m) (ih : ∀ j, j < k → ∀ m res m', holdF nx mk j a m = some (res, m') → HoldsC nx mk a m res m') (hf : loopF nx mk k x a 0 0 m = some (set, cnt, m1)) :
    Calls Try.prog 52 #[.agg #[.slice A0 nx.length c0, .slice A1 mk.length c1], .pointer (some ⟨gn, 0, none⟩), .map (some r)] w fun e w' => e = .returned (.tuple #[.int .i64 set, .int .i64 cnt]) ∧ HP r m1 w w' := by
  have HM := Lib.hid hm
  have HA := Lib.hid ha
  have IH := Lib.hid ih
  have HF := Lib.hid hf
  clear hm ha ih hf
  have hu := Try.underlying28
  have hu2 := Try.underlying74
  have HR0 := Lib.hid hr0
  have HR1 := Lib.hid hr1
  have HLEN := Lib.hid hlen
  have hle := hr0.2.1
  clear hr0 hr1 hlen
  go_enter Try.func52, Try.ntmps52
  go_wp2_with (first | ((with_reducible refine gate_dst (N := 3) rfl ?_); refine box_event ?hg (N := 3) ?hd (cs := #[.slice A0 nx.length c0, .slice A1 mk.length c1]) (t := 28) ?hr ?_; (case hd => rfl); (case hg => rfl); (case hr => first | (go_simp; done) | (go_simp; rfl)); intro gw hgw wb hbw hbb; have k0_ := pw_cell_below hbb hn0; have k1_ := pw_cell_below hbb hn2; have k2_ := pw_cell_below hbb hn3; have k3_ := pw_cell_below hbb hka; clear hn0 hn2 hn3 hka; have hn0 := k0_; have hn2 := k1_; have hn3 := k2_; have hka := k3_; clear k0_ k1_ k2_ k3_; have HBW := Lib.hid (below_step (Below.refl w.heap.size w) hbb); have hw0 : wb.cell? ⟨gw, 0, none⟩ = some (.slice A0 nx.length c0) := (blk_cell hbw 0).trans rfl; have hw1 : wb.cell? ⟨gw, 1, none⟩ = some (.slice A1 mk.length c1) := (blk_cell hbw 1).trans rfl; clear hgw hbb hbw) | fail)
  have HBA := HBW
  have hw0a := hw0
  have hw1a := hw1
  have hn2a := hn2
  have hn3a := hn3
  have hkaa := hka
  generalize wb = wa at HBA hw0a hw1a hn2a hn3a hkaa ⊢
  clear hw0 hw1 hn0 hn2 hn3 hka HBW
  go_loopg [6, 7] k (fun kq v6 v7 wr => ∃ (s c : Int) (mm : List (Int × Int)), v6 = .int .i64 s ∧ v7 = .int .i64 c ∧ Hid (kq ≤ k) ∧ Hid (loopF nx mk kq x a s c mm = some (set, cnt, m1)) ∧ Hid (HP r mm w wr) ∧ wr.cell? ⟨gw, 0, none⟩ = some (.slice A0 nx.length c0) ∧ wr.cell? ⟨gw, 1, none⟩ = some (.slice A1 mk.length c1) ∧ wr.cell? ⟨gn, 2, none⟩ = some (.int .u8 x) ∧ wr.cell? ⟨gn, 3, none⟩ = some (.slice (some ⟨kb, ko, none⟩) 1 cp) ∧ wr.cell? ⟨kb, ko, none⟩ = some va)
  case atStart => exact ⟨_, _, m, rfl, rfl, Nat.le_refl _, HF.out, HP.of_below HM.out HBA.out, hw0a, hw1a, hn2a, hn3a, hkaa⟩
  case round =>
    clear hw0a hw1a hn2a hn3a hkaa HBA HF
    obtain ⟨s, c, mm, rfl, rfl, HK, HF, HPW, hw0, hw1, hn2, hn3, hka⟩ := hrel
    cases gk with
    | zero => exact absurd HF.out (by simp [loopF])
    | succ kq =>
      have hf := HF.out
      simp only [loopF] at hf
      obtain ⟨p, hp, hf⟩ := Option.bind_eq_some_iff.mp hf
      have HPP := Lib.hid hp
      have HF1 := Lib.hid hf
      clear hp hf HF
      have hcm := HPW.out.cells HM.out
      have HCM := Lib.hid hcm
      clear hcm
      go_wp2_with (first | ((with_reducible refine gate_op (op := .mapUpdate 65 (.tmp 16) (.tmp 20) (.tmp 21)) rfl ?_); refine map_put_event rfl 65 (.tmp 16) (.tmp 20) (.tmp 21) (Or.inr rfl) Try.underlying65 (keyOk_int Try.underlying5) (enc := Value.int .u8) (encv := Value.int .i64) (x : Int) s rfl rfl rfl HPW.out.map ?_; intro wm hmm hkm hlm; have n0_ := Lib.hid (HPW.out.trans (HP.mk hmm hkm hlm)); have k0_ := (HP.mk hmm hkm hlm).cells HPW.out.map; have j0_ := k0_ _ _ hw0; have j1_ := k0_ _ _ hw1; have j2_ := k0_ _ _ hn2; have j3_ := k0_ _ _ hn3; have j4_ := k0_ _ _ hka; have HC1 := Lib.hid (HCM.out.trans k0_); clear hmm hkm hlm k0_ HPW hw0 hw1 hn2 hn3 hka HCM; have HPW := n0_; have hw0 := j0_; have hw1 := j1_; have hn2 := j2_; have hn3 := j3_; have hka := j4_; clear n0_ j0_ j1_ j2_ j3_ j4_) | fail)
      have HS := Lib.hid (show (fun w' => w'.cell? ⟨gw, 0, none⟩ = some (.slice A0 nx.length c0) ∧ w'.cell? ⟨gw, 1, none⟩ = some (.slice A1 mk.length c1) ∧ w'.cell? ⟨gn, 3, none⟩ = some (.slice (some ⟨kb, ko, none⟩) 1 cp) ∧ w'.cell? ⟨kb, ko, none⟩ = some va) wm.drew from ⟨by simpa using hw0, by simpa using hw1, by simpa using hn3, by simpa using hka⟩)
      have HPD := Lib.hid (HPW.out.step (below_drew1 (Below.refl wm.heap.size wm)))
      have HCD := Lib.hid (HC1.out.trans (Cells.of_below (below_drew1 (Below.refl wm.heap.size wm))))
      have HN2 := Lib.hid (show wm.drew.cell? ⟨gn, 2, none⟩ = some (.int .u8 x) by simpa using hn2)
      clear hw0 hw1 hn2 hn3 hka HC1 HPW
      refine start_ (n := 10) (S := fun w' => w'.cell? ⟨gw, 0, none⟩ = some (.slice A0 nx.length c0) ∧ w'.cell? ⟨gw, 1, none⟩ = some (.slice A1 mk.length c1) ∧ w'.cell? ⟨gn, 3, none⟩ = some (.slice (some ⟨kb, ko, none⟩) 1 cp) ∧ w'.cell? ⟨kb, ko, none⟩ = some va) (ds := []) #[false, false, false, false, false, false, false, false, false, false] (by kernel_rfl) rfl rfl HS.out (fun hHeld => ?_)
      generalize wm.drew = wd at HS HPD HCD HN2 hHeld ⊢
      refine take_ (i := 0) (N := (some 22)) (v := ?_) (a' := ?_) #[true, false, false, false, false, false, false, false, false, false] rfl rfl (by kernel_rfl) (fun _ _ _ h => h) (Or.inl ⟨by rfl, ?_⟩) hHeld ?_ ?_
      rotate_left
      · rintro w' ⟨s0, s1, s2, s3⟩; go_simp; first | done | with_reducible rfl
      rotate_left
      · simp only [Act.put, List.setIfInBounds_toArray, List.set_cons_zero, List.set_cons_succ, i64_w, i32_w]; rfl
      refine pure_ (i := 1) (N := (some 23)) (v := ?_) (a' := ?_) #[true, true, false, false, false, false, false, false, false, false] rfl rfl (by kernel_rfl) (fun _ _ _ h => h) (Or.inl ⟨by rfl, ?_⟩) ?_ ?_
      rotate_left
      · intro w'; go_simp; first | done | with_reducible rfl
      rotate_left
      · simp only [Act.put, List.setIfInBounds_toArray, List.set_cons_zero, List.set_cons_succ, i64_w, i32_w]; rfl
      refine pure_ (i := 2) (N := (some 24)) (v := ?_) (a' := ?_) #[true, true, true, false, false, false, false, false, false, false] rfl rfl (by kernel_rfl) (fun _ _ _ h => h) (Or.inl ⟨by rfl, ?_⟩) ?_ ?_
      rotate_left
      · intro w'; go_simp; first | done | with_reducible rfl
      rotate_left
      · simp only [Act.put, List.setIfInBounds_toArray, List.set_cons_zero, List.set_cons_succ, i64_w, i32_w]; rfl
      refine pure_ (i := 3) (N := (some 25)) (v := ?_) (a' := ?_) #[true, true, true, true, false, false, false, false, false, false] rfl rfl (by kernel_rfl) (fun _ _ _ h => h) (Or.inl ⟨by rfl, ?_⟩) ?_ ?_
      rotate_left
      · intro w'; go_simp; first | done | with_reducible rfl
      rotate_left
      · simp only [Act.put, List.setIfInBounds_toArray, List.set_cons_zero, List.set_cons_succ, i64_w, i32_w]; rfl
      refine take_ (i := 4) (N := (some 26)) (v := ?_) (a' := ?_) #[true, true, true, true, true, false, false, false, false, false] rfl rfl (by kernel_rfl) (fun _ _ _ h => h) (Or.inl ⟨by rfl, ?_⟩) hHeld ?_ ?_
      rotate_left
      · rintro w' ⟨s0, s1, s2, s3⟩; go_simp; first | done | with_reducible rfl
      rotate_left
      · simp only [Act.put, List.setIfInBounds_toArray, List.set_cons_zero, List.set_cons_succ, i64_w, i32_w]; rfl
      refine pure_ (i := 5) (N := (some 27)) (v := ?_) (a' := ?_) #[true, true, true, true, true, true, false, false, false, false] rfl rfl (by kernel_rfl) (fun _ _ _ h => h) (Or.inl ⟨by rfl, ?_⟩) ?_ ?_
      rotate_left
      · intro w'; go_simp; first | done | with_reducible rfl
      rotate_left
      · simp only [Act.put, List.setIfInBounds_toArray, List.set_cons_zero, List.set_cons_succ, i64_w, i32_w]; rfl
      refine take_ (i := 6) (N := (some 28)) (v := ?_) (a' := ?_) #[true, true, true, true, true, true, true, false, false, false] rfl rfl (by kernel_rfl) (fun _ _ _ h => h) (Or.inl ⟨by rfl, ?_⟩) hHeld ?_ ?_
      rotate_left
      · rintro w' ⟨s0, s1, s2, s3⟩; go_simp; first | done | with_reducible rfl
      rotate_left
      · simp only [Act.put, List.setIfInBounds_toArray, List.set_cons_zero, List.set_cons_succ, i64_w, i32_w]; rfl
      refine pure_ (i := 7) (N := (some 29)) (v := ?_) (a' := ?_) #[true, true, true, true, true, true, true, true, false, false] rfl rfl (by kernel_rfl) (fun _ _ _ h => h) (Or.inl ⟨by rfl, ?_⟩) ?_ ?_
      rotate_left
      · intro w'; go_simp; first | done | with_reducible rfl
      rotate_left
      · simp only [Act.put, List.setIfInBounds_toArray, List.set_cons_zero, List.set_cons_succ, i64_w, i32_w]; rfl
      refine one_ (i := 8) (N := (some 30)) #[true, true, true, true, true, true, true, true, true, false] rfl rfl (by kernel_rfl) (by decide) (fun K hK => ?_)
      refine goes_ Try.func47 (by kernel_rfl) rfl #[.agg #[.slice A0 nx.length c0, .slice A1 mk.length c1], va, .map (some r)] (by rfl) rfl rfl (by (try simp only [List.map_toArray, List.map_cons, List.map_nil]); first | done | rfl) ?_
      refine (IH.out kq (by have := HK.out; omega) _ _ _ HPP.out A0 c0 A1 c1 ok va r wd (HCD.out.ints HR0.out) hc0 (HCD.out.ints HR1.out) hc1 (Tree.same HCD.out.same (fun _ _ h => h) _ _ HA.out) HPD.out.map).mono ?_
      rintro e w1 ⟨rfl, hp1⟩
      have hC1 := hp1.cells HPD.out.map
      have HP1 := Lib.hid (HPD.out.trans hp1)
      have hw0 := hC1 _ _ HS.out.1
      have hw1 := hC1 _ _ HS.out.2.1
      have hn3 := hC1 _ _ HS.out.2.2.1
      have hka := hC1 _ _ HS.out.2.2.2
      have hn2 := hC1 _ _ HN2.out
      clear hp1 hC1
      refine ⟨_, rfl, ?_⟩
      refine hK.out _ _ ⟨hw0, hw1, hn3, hka⟩ (fun hHeld => ?_)
      clear hK K
      refine norm_ (a' := ?_) ?_ ?_
      rotate_left
      · show Act.put _ (some 30) _ = _; simp only [Act.put, List.setIfInBounds_toArray, List.set_cons_zero, List.set_cons_succ, i64_w, i32_w]; rfl
      refine pure_ (i := 9) (N := (some 8)) (v := ?_) (a' := ?_) #[true, true, true, true, true, true, true, true, true, true] rfl rfl (by kernel_rfl) (fun _ _ _ h => h) (Or.inl ⟨by rfl, ?_⟩) ?_ ?_
      rotate_left
      · intro w'; go_simp; first | done | with_reducible rfl
      rotate_left
      · simp only [Act.put, List.setIfInBounds_toArray, List.set_cons_zero, List.set_cons_succ, i64_w, i32_w]; rfl
      refine done_ (by kernel_rfl) ?_
      clear hHeld
      by_cases he : p.1 = s
      · have e1 : (p.1 == s) = true := beq_iff_eq.2 he
        have HE := Lib.hid he
        clear he
        go_wp2
        go_ret2
        have hf := HF1.out
        rw [if_pos HE.out] at hf
        simp only [Option.some.injEq, Prod.mk.injEq] at hf
        obtain ⟨h1, h2, h3⟩ := hf
        exact ⟨by rw [h1, h2]; rfl, h3 ▸ HP1.out⟩
      · have e1 : (p.1 == s) = false := beq_eq_false_iff_ne.2 he
        have HE := Lib.hid he
        clear he
        go_wp2
        go_roundg kq
        case measure => omega
        case rel =>
          have hf := HF1.out
          rw [if_neg HE.out] at hf
          exact ⟨_, _, _, rfl, rfl, by have := HK.out; exact (by omega : kq ≤ k), hf, HP1.out, hw0, hw1, hn2, hn3, hka⟩

set_option maxRecDepth 100000 in
set_option maxHeartbeats 2000000 in
theorem holds_g (A0 : Option Addr) (c0 : Nat) (nx : List Int) (A1 : Option Addr) (c1 : Nat) (mk : List Int) (gn r : Nat) (w : World) (hr0 : Kd.C (Kd.int .i64) w A0 nx.length nx) (hc0 : nx.length ≤ c0) (hr1 : Kd.C (Kd.int .i64) w A1 mk.length mk) (hc1 : mk.length ≤ c1) (hlen : nx.length = mk.length) (kb ko cp : Nat) (va : Value) (x : Nat) (a : Fm) (k : Nat) (m m1 : List (Int × Int)) (set cnt : Int) (ok : Nat → Prop) (hn0 : w.cell? ⟨gn, 0, none⟩ = some (.int .u8 103)) (hn2 : w.cell? ⟨gn, 2, none⟩ = some (.int .u8 x)) (hn3 : w.cell? ⟨gn, 3, none⟩ = some (.slice (some ⟨kb, ko, none⟩) 1 cp)) (hka : w.cell? ⟨kb, ko, none⟩ = some va) (ha : Tree w ok a va) (hm : IsM (Value.int .u8) (Value.int .i64) w r m) (ih : ∀ j, j < k → ∀ m res m', holdF nx mk j a m = some (res, m') → HoldsC nx mk a m res m') (hf : loopF nx mk k x a (allOf nx) 0 m = some (set, cnt, m1)) :
    Calls Try.prog 47 #[.agg #[.slice A0 nx.length c0, .slice A1 mk.length c1], .pointer (some ⟨gn, 0, none⟩), .map (some r)] w fun e w' => e = .returned (.int .i64 set) ∧ HP r m1 w w' := by
  have HM := Lib.hid hm
  have HA := Lib.hid ha
  have IH := Lib.hid ih
  have HF := Lib.hid hf
  have HN := Lib.hid (And.intro hn0 (And.intro hn2 (And.intro hn3 hka)))
  clear hm ha ih hf hn2 hn3 hka
  have hu := Try.underlying28
  have hu2 := Try.underlying74
  have HR0 := Lib.hid hr0
  have HR1 := Lib.hid hr1
  have HLEN := Lib.hid hlen
  have hle := hr0.2.1
  clear hr0 hr1 hlen
  go_enter Try.func47, Try.ntmps47
  go_wp2_with (first | ((with_reducible refine gate_dst (N := 3) rfl ?_); refine box_event ?hg (N := 3) ?hd (cs := #[.slice A0 nx.length c0, .slice A1 mk.length c1]) (t := 28) ?hr ?_; (case hd => rfl); (case hg => rfl); (case hr => first | (go_simp; done) | (go_simp; rfl)); intro gw hgw wb hbw hbb; have k0_ := pw_cell_below hbb hn0; clear hn0; have hn0 := k0_; clear k0_; have HGW := Lib.hid hbw; have HBW := Lib.hid (below_step (Below.refl w.heap.size w) hbb); clear hgw hbw hbb) | ((with_reducible refine gate_dst (N := 4) rfl ?_); refine box_event ?hg (N := 4) ?hd (cs := #[.pointer (some ⟨gn, 0, none⟩)]) (t := 60) ?hr ?_; (case hd => rfl); (case hg => rfl); (case hr => first | (go_simp; done) | (go_simp; rfl)); intro gf hgf wc hbf hbb; have k0_ := pw_cell_below hbb hn0; clear hn0; have hn0 := k0_; clear k0_; have k0_ := Lib.hid (blk_below HGW.out hbb); have k1_ := Lib.hid (below_step HBW.out hbb); clear HGW HBW; have HGW := k0_; have HBW := k1_; clear k0_ k1_; have HGF := Lib.hid hbf; have hw0 : wc.cell? ⟨gw, 0, none⟩ = some (.slice A0 nx.length c0) := (blk_cell HGW.out 0).trans rfl; have hw1 : wc.cell? ⟨gw, 1, none⟩ = some (.slice A1 mk.length c1) := (blk_cell HGW.out 1).trans rfl; have hf0 : wc.cell? ⟨gf, 0, none⟩ = some (.pointer (some ⟨gn, 0, none⟩)) := (blk_cell HGF.out 0).trans rfl; clear hgf hbf hbb) | fail)
  refine (fix_g A0 c0 nx A1 c1 mk gn r _ (Kd.C_below HR0.out HBW.out) hc0 (Kd.C_below HR1.out HBW.out) hc1 HLEN.out kb ko cp va x a k m m1 set cnt ok hn0 (pw_cell_below HBW.out HN.out.2.1) (pw_cell_below HBW.out HN.out.2.2.1) (pw_cell_below HBW.out HN.out.2.2.2) (Tree.same (Cells.of_below HBW.out).same (fun _ _ h => h) _ _ HA.out) (HM.out.below HBW.out) IH.out HF.out).mono ?_
  rintro e w9 ⟨rfl, hp⟩
  have HPW := Lib.hid ((HP.of_below HM.out HBW.out).trans hp)
  clear hp
  go_wp2
  go_ret
  exact ⟨rfl, HPW.out⟩

set_option maxRecDepth 100000 in
set_option maxHeartbeats 2000000 in
theorem holds_m (A0 : Option Addr) (c0 : Nat) (nx : List Int) (A1 : Option Addr) (c1 : Nat) (mk : List Int) (gn r : Nat) (w : World) (hr0 : Kd.C (Kd.int .i64) w A0 nx.length nx) (hc0 : nx.length ≤ c0) (hr1 : Kd.C (Kd.int .i64) w A1 mk.length mk) (hc1 : mk.length ≤ c1) (hlen : nx.length = mk.length) (kb ko cp : Nat) (va : Value) (x : Nat) (a : Fm) (k : Nat) (m m1 : List (Int × Int)) (set cnt : Int) (ok : Nat → Prop) (hn0 : w.cell? ⟨gn, 0, none⟩ = some (.int .u8 109)) (hn2 : w.cell? ⟨gn, 2, none⟩ = some (.int .u8 x)) (hn3 : w.cell? ⟨gn, 3, none⟩ = some (.slice (some ⟨kb, ko, none⟩) 1 cp)) (hka : w.cell? ⟨kb, ko, none⟩ = some va) (ha : Tree w ok a va) (hm : IsM (Value.int .u8) (Value.int .i64) w r m) (ih : ∀ j, j < k → ∀ m res m', holdF nx mk j a m = some (res, m') → HoldsC nx mk a m res m') (hf : loopF nx mk k x a 0 0 m = some (set, cnt, m1)) :
    Calls Try.prog 47 #[.agg #[.slice A0 nx.length c0, .slice A1 mk.length c1], .pointer (some ⟨gn, 0, none⟩), .map (some r)] w fun e w' => e = .returned (.int .i64 set) ∧ HP r m1 w w' := by
  have HM := Lib.hid hm
  have HA := Lib.hid ha
  have IH := Lib.hid ih
  have HF := Lib.hid hf
  have HN := Lib.hid (And.intro hn0 (And.intro hn2 (And.intro hn3 hka)))
  clear hm ha ih hf hn2 hn3 hka
  have hu := Try.underlying28
  have hu2 := Try.underlying74
  have HR0 := Lib.hid hr0
  have HR1 := Lib.hid hr1
  have HLEN := Lib.hid hlen
  have hle := hr0.2.1
  clear hr0 hr1 hlen
  go_enter Try.func47, Try.ntmps47
  go_wp2_with (first | ((with_reducible refine gate_dst (N := 3) rfl ?_); refine box_event ?hg (N := 3) ?hd (cs := #[.slice A0 nx.length c0, .slice A1 mk.length c1]) (t := 28) ?hr ?_; (case hd => rfl); (case hg => rfl); (case hr => first | (go_simp; done) | (go_simp; rfl)); intro gw hgw wb hbw hbb; have k0_ := pw_cell_below hbb hn0; clear hn0; have hn0 := k0_; clear k0_; have HGW := Lib.hid hbw; have HBW := Lib.hid (below_step (Below.refl w.heap.size w) hbb); clear hgw hbw hbb) | ((with_reducible refine gate_dst (N := 4) rfl ?_); refine box_event ?hg (N := 4) ?hd (cs := #[.pointer (some ⟨gn, 0, none⟩)]) (t := 60) ?hr ?_; (case hd => rfl); (case hg => rfl); (case hr => first | (go_simp; done) | (go_simp; rfl)); intro gf hgf wc hbf hbb; have k0_ := pw_cell_below hbb hn0; clear hn0; have hn0 := k0_; clear k0_; have k0_ := Lib.hid (blk_below HGW.out hbb); have k1_ := Lib.hid (below_step HBW.out hbb); clear HGW HBW; have HGW := k0_; have HBW := k1_; clear k0_ k1_; have HGF := Lib.hid hbf; have hw0 : wc.cell? ⟨gw, 0, none⟩ = some (.slice A0 nx.length c0) := (blk_cell HGW.out 0).trans rfl; have hw1 : wc.cell? ⟨gw, 1, none⟩ = some (.slice A1 mk.length c1) := (blk_cell HGW.out 1).trans rfl; have hf0 : wc.cell? ⟨gf, 0, none⟩ = some (.pointer (some ⟨gn, 0, none⟩)) := (blk_cell HGF.out 0).trans rfl; clear hgf hbf hbb) | fail)
  refine (fix_m A0 c0 nx A1 c1 mk gn r _ (Kd.C_below HR0.out HBW.out) hc0 (Kd.C_below HR1.out HBW.out) hc1 HLEN.out kb ko cp va x a k m m1 set cnt ok hn0 (pw_cell_below HBW.out HN.out.2.1) (pw_cell_below HBW.out HN.out.2.2.1) (pw_cell_below HBW.out HN.out.2.2.2) (Tree.same (Cells.of_below HBW.out).same (fun _ _ h => h) _ _ HA.out) (HM.out.below HBW.out) IH.out HF.out).mono ?_
  rintro e w9 ⟨rfl, hp⟩
  have HPW := Lib.hid ((HP.of_below HM.out HBW.out).trans hp)
  clear hp
  go_wp2
  go_ret
  exact ⟨rfl, HPW.out⟩


theorem Node.two {w : World} {ok : Nat → Prop} {v : Value} {d m nm : Int} {va vb : Value} (h : Node w ok v d m nm [va, vb]) : ∃ gn kb ko cp, v = .pointer (some ⟨gn, 0, none⟩) ∧ w.cell? ⟨gn, 0, none⟩ = some (.int .u8 d) ∧ w.cell? ⟨gn, 1, none⟩ = some (.int .i64 m) ∧ w.cell? ⟨gn, 2, none⟩ = some (.int .u8 nm) ∧ w.cell? ⟨gn, 3, none⟩ = some (.slice (some ⟨kb, ko, none⟩) 2 cp) ∧ w.cell? ⟨kb, ko, none⟩ = some va ∧ w.cell? ⟨kb, ko + 1, none⟩ = some vb := by
  obtain ⟨g, b, off, cap, rfl, o1, o2, h0, h1, h2, h3, h4⟩ := h
  exact ⟨g, b, off, cap, rfl, h0, h1, h2, h3, h4 0 va rfl, h4 1 vb rfl⟩
theorem Node.one {w : World} {ok : Nat → Prop} {v : Value} {d m nm : Int} {va : Value} (h : Node w ok v d m nm [va]) : ∃ gn kb ko cp, v = .pointer (some ⟨gn, 0, none⟩) ∧ w.cell? ⟨gn, 0, none⟩ = some (.int .u8 d) ∧ w.cell? ⟨gn, 1, none⟩ = some (.int .i64 m) ∧ w.cell? ⟨gn, 2, none⟩ = some (.int .u8 nm) ∧ w.cell? ⟨gn, 3, none⟩ = some (.slice (some ⟨kb, ko, none⟩) 1 cp) ∧ w.cell? ⟨kb, ko, none⟩ = some va := by
  obtain ⟨g, b, off, cap, rfl, o1, o2, h0, h1, h2, h3, h4⟩ := h
  exact ⟨g, b, off, cap, rfl, h0, h1, h2, h3, h4 0 va rfl⟩

theorem holds_all (nx mk : List Int) (hlen : nx.length = mk.length) : ∀ k f m res m', holdF nx mk k f m = some (res, m') → HoldsC nx mk f m res m' := by
  intro k
  induction k using Nat.strongRecOn with
  | _ k ih =>
    intro f m res m' hf A0 c0 A1 c1 ok v r w hr0 hc0 hr1 hc1 hT hM
    cases k with
    | zero => simp [holdF] at hf
    | succ k =>
      cases f with
      | mark neg j =>
        simp only [holdF, Option.some.injEq, Prod.mk.injEq] at hf
        obtain ⟨rfl, rfl⟩ := hf
        simp only [Tree] at hT
        obtain ⟨gn, b, off, cap, rfl, o1, o2, h0, h1, h2, h3, h4⟩ := hT
        cases neg
        · exact (holds_mark A0 c0 nx A1 c1 mk gn r w hr0 hc0 hr1 hc1 hlen j h0 h1).mono fun e w' ⟨he, hb⟩ => ⟨he, HP.of_below hM hb⟩
        · exact (holds_neg A0 c0 nx A1 c1 mk gn r w hr0 hc0 hr1 hc1 hlen j h0 h1).mono fun e w' ⟨he, hb⟩ => ⟨he, HP.of_below hM hb⟩
      | con c =>
        simp only [holdF] at hf
        simp only [Tree] at hT
        obtain ⟨gn, b, off, cap, rfl, o1, o2, h0, h1, h2, h3, h4⟩ := hT
        split at hf
        · rename_i hc
          subst hc
          simp only [Option.some.injEq, Prod.mk.injEq] at hf
          obtain ⟨rfl, rfl⟩ := hf
          exact (holds_t A0 c0 nx A1 c1 mk gn r w hr0 hc0 hr1 hc1 hlen h0).mono fun e w' ⟨he, hb⟩ => ⟨he, HP.of_below hM hb⟩
        · split at hf
          · rename_i hc
            subst hc
            simp only [Option.some.injEq, Prod.mk.injEq] at hf
            obtain ⟨rfl, rfl⟩ := hf
            exact (holds_f A0 c0 nx A1 c1 mk gn r w hr0 hc0 hr1 hc1 hlen h0).mono fun e w' ⟨he, hb⟩ => ⟨he, HP.of_below hM hb⟩
          · cases hf
      | var c =>
        simp only [holdF, Option.some.injEq, Prod.mk.injEq] at hf
        obtain ⟨rfl, rfl⟩ := hf
        simp only [Tree] at hT
        obtain ⟨gn, b, off, cap, rfl, o1, o2, h0, h1, h2, h3, h4⟩ := hT
        exact (holds_var A0 c0 nx A1 c1 mk gn r w hr0 hc0 hr1 hc1 hlen c m hM h0 h2).mono fun e w' ⟨he, hb⟩ => ⟨he, HP.of_below hM hb⟩
      | two c a b =>
        simp only [holdF] at hf
        split at hf
        · rename_i hc
          obtain ⟨p, hp, hf⟩ := Option.bind_eq_some_iff.mp hf
          obtain ⟨q, hq, hf⟩ := Option.bind_eq_some_iff.mp hf
          simp only [Option.some.injEq, Prod.mk.injEq] at hf
          obtain ⟨rfl, rfl⟩ := hf
          obtain ⟨va, vb, hn, ha, hb⟩ := hT
          obtain ⟨gn, kb, ko, cp, rfl, h0, h1, h2, h3, h4, h5⟩ := hn.two
          have ia := ih k (by omega) a m p.1 p.2 hp
          have ib := ih k (by omega) b p.2 q.1 q.2 hq
          rcases hc with rfl | rfl
          · exact holds_and A0 c0 nx A1 c1 mk gn r w hr0 hc0 hr1 hc1 hlen kb ko cp va vb a b m p.2 q.2 p.1 q.1 ok h0 h3 h4 h5 ha hb hM ia ib
          · exact holds_or A0 c0 nx A1 c1 mk gn r w hr0 hc0 hr1 hc1 hlen kb ko cp va vb a b m p.2 q.2 p.1 q.1 ok h0 h3 h4 h5 ha hb hM ia ib
        · cases hf
      | one c a =>
        simp only [holdF] at hf
        split at hf
        · rename_i hc
          obtain ⟨p, hp, hf⟩ := Option.bind_eq_some_iff.mp hf
          simp only [Option.some.injEq, Prod.mk.injEq] at hf
          obtain ⟨rfl, rfl⟩ := hf
          obtain ⟨va, hn, ha⟩ := hT
          obtain ⟨gn, kb, ko, cp, rfl, h0, h1, h2, h3, h4⟩ := hn.one
          have ia := ih k (by omega) a m p.1 p.2 hp
          rcases hc with rfl | rfl
          · exact holds_dia A0 c0 nx A1 c1 mk gn r w hr0 hc0 hr1 hc1 hlen kb ko cp va a m p.2 p.1 ok h0 h3 h4 ha hM ia
          · exact holds_box A0 c0 nx A1 c1 mk gn r w hr0 hc0 hr1 hc1 hlen kb ko cp va a m p.2 p.1 ok h0 h3 h4 ha hM ia
        · cases hf
      | fix c x a =>
        simp only [holdF] at hf
        split at hf
        · rename_i hc
          obtain ⟨p, hp, hf⟩ := Option.bind_eq_some_iff.mp hf
          simp only [Option.some.injEq, Prod.mk.injEq] at hf
          obtain ⟨rfl, rfl⟩ := hf
          obtain ⟨va, hn, ha⟩ := hT
          obtain ⟨gn, kb, ko, cp, rfl, h0, h1, h2, h3, h4⟩ := hn.one
          have ia : ∀ j, j < k → ∀ m res m', holdF nx mk j a m = some (res, m') → HoldsC nx mk a m res m' := fun j hj m res m' h => ih j (by omega) a m res m' h
          rcases hc with rfl | rfl
          · exact holds_m A0 c0 nx A1 c1 mk gn r w hr0 hc0 hr1 hc1 hlen kb ko cp va x a k m p.2.2 p.1 p.2.1 ok h0 h2 h3 h4 ha hM ia hp
          · exact holds_g A0 c0 nx A1 c1 mk gn r w hr0 hc0 hr1 hc1 hlen kb ko cp va x a k m p.2.2 p.1 p.2.1 ok h0 h2 h3 h4 ha hM ia hp
        · cases hf
end Go.Proofs.Ytjffhhalmicodaa.X
