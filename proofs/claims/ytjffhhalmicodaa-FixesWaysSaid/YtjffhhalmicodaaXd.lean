import Derived.Test.YtjffhhalmicodaaXa
import Derived.Test.YtjffhhalmicodaaPAx1
import Derived.Test.YtjffhhalmicodaaPAx2
import Derived.Deep.RegionHeld3
set_option linter.unusedVariables false
set_option linter.unusedSimpArgs false
namespace Go.Proofs.Ytjffhhalmicodaa.X
open Go.RowKit Go.Proofs.YtjffhhalmicodaaW.PrintWords Go.Proofs.YtjffhhalmicodaaW.PrintLast Go.Proofs.YtjffhhalmicodaaW.PrintMore

set_option maxHeartbeats 1000000 in
theorem Reach1_calls (bw bs b off n c0 s : Nat) (x set : Int) (W : World) (hw : W.cell? ⟨bw, 0, none⟩ = some (.slice (some ⟨b, off, none⟩) n c0)) (hs : W.cell? ⟨bs, 0, none⟩ = some (.int .i64 set))
    (hsn : s < n) (_hn : n ≤ 9223372036854775807) (hx : W.cell? ⟨b, off + s, none⟩ = some (.int .i64 x)) :
    Calls Try.prog 56 #[.int .i64 s, .pointer (some ⟨bw, 0, none⟩), .pointer (some ⟨bs, 0, none⟩)] W fun e w' => e = .returned (.bool (bits .and .i64 x set != 0)) ∧ ∃ q, w' = W.drewN q := by
  have hu := Try.underlying28
  have h1 : (s : Int) < (n : Int) := by omega
  go_enter Try.func56, Try.ntmps56
  go_wp2_with fail
  go_quiet (fail)
  go_wp2
  go_ret
  exact ⟨rfl, _, rfl⟩
set_option maxHeartbeats 1000000 in
theorem Always1_calls (bw bs b off n c0 s : Nat) (x set : Int) (W : World) (hw : W.cell? ⟨bw, 0, none⟩ = some (.slice (some ⟨b, off, none⟩) n c0)) (hs : W.cell? ⟨bs, 0, none⟩ = some (.int .i64 set))
    (hsn : s < n) (_hn : n ≤ 9223372036854775807) (hx : W.cell? ⟨b, off + s, none⟩ = some (.int .i64 x)) :
    Calls Try.prog 57 #[.int .i64 s, .pointer (some ⟨bw, 0, none⟩), .pointer (some ⟨bs, 0, none⟩)] W fun e w' => e = .returned (.bool (bits .and .i64 x set != 0)) ∧ ∃ q, w' = W.drewN q := by
  have hu := Try.underlying28
  have h1 : (s : Int) < (n : Int) := by omega
  go_enter Try.func57, Try.ntmps57
  go_wp2_with fail
  go_quiet (fail)
  go_wp2
  go_ret
  exact ⟨rfl, _, rfl⟩

/-- the states from which one step leads into a set -/
def stepTo (nx : List Int) (set : Int) : Int := whereTo (fun s => bits .and .i64 (rd nx s) set != 0) nx.length
def reachTo (nx : List Int) (set : Int) : Nat → Int
  | 0 => set
  | k + 1 => bits .or .i64 (reachTo nx set k) (stepTo nx (reachTo nx set k))

theorem enters_of' {P : Program} {f : Nat} {fn : Func} (hf : P.funcs[f]? = some fn) (h1 : (fn.name == "runtime.NumGoroutine") = false) (h2 : fn.body.isSome = true) : ∀ args w, (callFunc f args).run P w = .ok (.enter f args) w := fun args w => enters_ hf h1 h2 args w

theorem pred_reach (w : World) (bw bs : Nat) (A0 : Option Addr) (c0 : Nat) (nx : List Int) (set : Int) (hr : Kd.C (Kd.int .i64) w A0 nx.length nx) (hw : w.cell? ⟨bw, 0, none⟩ = some (.slice A0 nx.length c0)) (hs : w.cell? ⟨bs, 0, none⟩ = some (.int .i64 set)) :
    Pred w 56 #[.pointer (some ⟨bw, 0, none⟩), .pointer (some ⟨bs, 0, none⟩)] nx.length (fun s => bits .and .i64 (rd nx s) set != 0) := by
  intro W s hsn hb
  obtain ⟨b, off, rfl, hlt, hc⟩ := ints_at hr (by omega)
  have k1 := (hb.cell (World.block_lt_of_cell? w _ hw)).trans hw
  have k2 := (hb.cell (World.block_lt_of_cell? w _ hs)).trans hs
  have k3 := (hb.cell (World.block_lt_of_cell? w _ (hc s hsn))).trans (hc s hsn)
  exact (Reach1_calls bw bs b off nx.length c0 s (rd nx s) set W k1 k2 hsn hr.2.1 k3).mono fun e w' ⟨he, q, hq⟩ => ⟨he, hq ▸ pw_below_drewN (Below.refl _ _) q⟩

theorem three_later {w wr w2 : World} {G : Nat} {a b c : Value} (h : wr.cell? ⟨G, 0, none⟩ = some a ∧ wr.cell? ⟨G, 1, none⟩ = some b ∧ wr.cell? ⟨G + 1, 0, none⟩ = some c ∧ wr.frozen? ⟨G + 1, 0, none⟩ = false ∧ G + 1 < wr.heap.size ∧ Hid (Below w.heap.size w wr)) (hb : Below wr.heap.size wr w2) :
    w2.cell? ⟨G, 0, none⟩ = some a ∧ w2.cell? ⟨G, 1, none⟩ = some b ∧ w2.cell? ⟨G + 1, 0, none⟩ = some c ∧ w2.frozen? ⟨G + 1, 0, none⟩ = false ∧ G + 1 < w2.heap.size ∧ Hid (Below w.heap.size w w2) := by
  obtain ⟨h0, h1, h2, h3, h4, h5⟩ := h
  refine ⟨?_, ?_, ?_, ?_, Nat.lt_of_lt_of_le h4 hb.size, h5.out.trans (hb.mono h5.out.size)⟩
  · exact (hb.cell (p := ⟨G, 0, none⟩) (by simp; omega)).trans h0
  · exact (hb.cell (p := ⟨G, 1, none⟩) (by simp; omega)).trans h1
  · exact (hb.cell (p := ⟨G + 1, 0, none⟩) h4).trans h2
  · exact (hb.frozen (p := ⟨G + 1, 0, none⟩) h4).trans h3

set_option maxRecDepth 100000 in
set_option maxHeartbeats 2000000 in
theorem Reach_yes (A0 : Option Addr) (c0 : Nat) (nx : List Int) (A1 : Option Addr) (c1 : Nat) (mk : List Int) (set : Int) (w : World) (hr0 : Kd.C (Kd.int .i64) w A0 nx.length nx) (hc0 : nx.length ≤ c0) (hr1 : Kd.C (Kd.int .i64) w A1 mk.length mk) (hc1 : mk.length ≤ c1)
    (h : PA.fixes_Works_isSet.f nx mk set = some true) :
    Calls Try.prog 26 #[.agg #[.slice A0 nx.length c0, .slice A1 mk.length c1], .int .i64 set] w fun e w' => e = .returned (.tuple #[.int .i64 (reachTo nx set nx.length), .int .i64 0]) ∧ Below w.heap.size w w' := by
  have hu := Try.underlying28
  have HR0 := Lib.hid hr0
  have HR1 := Lib.hid hr1
  have hlen := hr0.2.1
  have H := Lib.hid h
  clear hr0 hr1 h
  go_enter Try.func26, Try.ntmps26
  go_wp2_with fail
  refine (PA.fixes_Works_isSet.calls A0 c0 nx A1 c1 mk set true _ (Kd.C_below HR0.out ?_) hc0 (Kd.C_below HR1.out ?_) hc1 H.out).mono ?_
  · exact ((Below.refl _ _).alloc (Nat.le_refl _) _).alloc (by simp) _
  · exact ((Below.refl _ _).alloc (Nat.le_refl _) _).alloc (by simp) _
  rintro e w1 ⟨rfl, hb⟩
  have g0 : w1.cell? ⟨w.heap.size, 0, none⟩ = some (.slice A0 nx.length c0) := by rw [hb.cell (p := ⟨w.heap.size, 0, none⟩) (by simp; omega)]; simp
  have g1 : w1.cell? ⟨w.heap.size, 1, none⟩ = some (.slice A1 mk.length c1) := by rw [hb.cell (p := ⟨w.heap.size, 1, none⟩) (by simp; omega)]; simp
  have g2 : w1.cell? ⟨w.heap.size + 1, 0, none⟩ = some (.int .i64 set) := by rw [hb.cell (p := ⟨w.heap.size + 1, 0, none⟩) (by simp)]; simp
  have g3 : w1.frozen? ⟨w.heap.size + 1, 0, none⟩ = false := by rw [hb.frozen (p := ⟨w.heap.size + 1, 0, none⟩) (by simp)]; simp
  have gB : Below w.heap.size w w1 := (((Below.refl _ _).alloc (Nat.le_refl _) _).alloc (by simp) _).trans (hb.mono (by simp; omega))
  have gz : w.heap.size + 1 < w1.heap.size := by have := hb.size; simp at this; omega
  have GB := Lib.hid gB
  clear gB hb
  go_wp2_with fail
  go_loopw [13] (fun i wr => ∃ k : Nat, k ≤ nx.length ∧ i = .int .i64 k ∧ wr.cell? ⟨w.heap.size, 0, none⟩ = some (.slice A0 nx.length c0) ∧ wr.cell? ⟨w.heap.size, 1, none⟩ = some (.slice A1 mk.length c1) ∧ wr.cell? ⟨w.heap.size + 1, 0, none⟩ = some (.int .i64 (reachTo nx set k)) ∧ wr.frozen? ⟨w.heap.size + 1, 0, none⟩ = false ∧ w.heap.size + 1 < wr.heap.size ∧ Hid (Below w.heap.size w wr)) (fun i _ => nx.length - (intOf i).toNat)
  case atStart => exact ⟨0, by omega, rfl, g0, g1, g2, g3, gz, GB⟩
  case round =>
    clear g0 g1 g2 g3 gz GB
    obtain ⟨k, hk, rfl, g0, g1, g2, g3, gz, GB⟩ := hrel
    by_cases hlt : k < nx.length
    · have eg : ∀ args w, (callFunc 56 args).run Try.prog w = .ok (.enter 56 args) w := enters_of' Try.func56 (by kernel_rfl) rfl
      have EG := Lib.hid eg
      clear eg
      go_wp2_with fail
      generalize hX : reachTo nx set k = X at g2
      have HX := Lib.hid hX; clear hX
      refine start_ (n := 6) (S := fun w' => w'.cell? ⟨w.heap.size, 0, none⟩ = some (.slice A0 nx.length c0) ∧ w'.cell? ⟨w.heap.size, 1, none⟩ = some (.slice A1 mk.length c1) ∧ w'.cell? ⟨w.heap.size + 1, 0, none⟩ = some (.int .i64 X)) (ds := [5]) #[false, false, false, false, false, false] (by kernel_rfl) rfl rfl ⟨by simpa using g0, by simpa using g1, by simpa using g2⟩ (fun hHeld => ?_)
      refine take_ (i := 0) (N := (some 15)) (v := ?_) (a' := ?_) #[true, false, false, false, false, false] rfl rfl (by kernel_rfl) (fun _ _ _ h => h) (Or.inl ⟨by rfl, ?_⟩) hHeld ?_ ?_
      rotate_left
      · rintro w' ⟨s0, s1, s2⟩; go_simp; first | done | with_reducible rfl
      rotate_left
      · simp only [Act.put, List.setIfInBounds_toArray, List.set_cons_zero, List.set_cons_succ, i64_w, i32_w]; rfl
      refine take_ (i := 1) (N := (some 16)) (v := ?_) (a' := ?_) #[true, true, false, false, false, false] rfl rfl (by kernel_rfl) (fun _ _ _ h => h) (Or.inl ⟨by rfl, ?_⟩) hHeld ?_ ?_
      rotate_left
      · rintro w' ⟨s0, s1, s2⟩; go_simp; first | done | with_reducible rfl
      rotate_left
      · simp only [Act.put, List.setIfInBounds_toArray, List.set_cons_zero, List.set_cons_succ, i64_w, i32_w]; rfl
      refine pure_ (i := 2) (N := (some 17)) (v := ?_) (a' := ?_) #[true, true, true, false, false, false] rfl rfl (by kernel_rfl) (fun _ _ _ h => h) (Or.inl ⟨by rfl, ?_⟩) ?_ ?_
      rotate_left
      · intro w'; go_simp; first | done | with_reducible rfl
      rotate_left
      · simp only [Act.put, List.setIfInBounds_toArray, List.set_cons_zero, List.set_cons_succ, i64_w, i32_w]; rfl
      refine one_ (i := 3) (N := (some 18)) #[true, true, true, true, false, false] rfl rfl (by kernel_rfl) (by decide) (fun K hK => ?_)
      refine goes_ Try.func55 (by kernel_rfl) rfl #[.agg #[.slice A0 nx.length c0, .slice A1 mk.length c1], .func (.func 56) #[] #[.pointer (some ⟨w.heap.size, 0, none⟩), .pointer (some ⟨w.heap.size + 1, 0, none⟩)]] (by rfl) rfl rfl (by (try simp only [List.map_toArray, List.map_cons, List.map_nil]); first | done | rfl) ?_
      refine (where_calls 56 _ EG.out (fun s => bits .and .i64 (rd nx s) X != 0) A0 nx.length c0 A1 mk.length c1 _ hlen (pred_reach _ _ _ _ c0 _ _ (Kd.C_below HR0.out (GB.out.drew)) (by simpa using g0) (by simpa using g2))).mono ?_
      rintro e w2 ⟨rfl, hb⟩
      refine ⟨_, rfl, ?_⟩
      obtain ⟨g0, g1, g2, g3, gz, GB⟩ := three_later (G := w.heap.size) (wr := wr.drew) ⟨by simpa using g0, by simpa using g1, by simpa using g2, by simpa using g3, gz, GB.out.drew⟩ hb
      clear hb
      refine hK.out _ _ ⟨g0, g1, g2⟩ (fun hHeld => ?_)
      clear hK K
      refine norm_ (a' := ?_) ?_ ?_
      rotate_left
      · show Act.put _ (some 18) _ = _; simp only [Act.put, List.setIfInBounds_toArray, List.set_cons_zero, List.set_cons_succ, i64_w, i32_w]; rfl
      refine pure_ (i := 4) (N := (some 19)) (v := ?_) (a' := ?_) #[true, true, true, true, true, false] rfl rfl (by kernel_rfl) (fun _ _ _ h => h) (Or.inl ⟨by rfl, ?_⟩) ?_ ?_
      rotate_left
      · intro w'; go_simp; first | done | with_reducible rfl
      rotate_left
      · simp only [Act.put, List.setIfInBounds_toArray, List.set_cons_zero, List.set_cons_succ, i64_w, i32_w]; rfl
      refine last_ (i := 5) (N := none) #[true, true, true, true, true, true] rfl rfl (by kernel_rfl) (by decide) (fun K hK => ?_)
      refine skip_step (w1 := w2.setCell ⟨w.heap.size + 1, 0, none⟩ (.int .i64 (bits .or .i64 X (stepTo nx X)))) (by rfl) (by simp only [stepTo]; go_simp) ?_
      refine hK.out _ _ ?_
      clear hK K
      refine norm_ (a' := ?_) ?_ ?_
      rotate_left
      · show Act.put _ none _ = _; simp only [Act.put, List.setIfInBounds_toArray, List.set_cons_zero, List.set_cons_succ, i64_w, i32_w]; rfl
      refine done_ (by kernel_rfl) ?_
      go_wp2
      go_roundw
      case rel => exact ⟨k + 1, by omega, by go_num, (cell_set_other _ (by simp)).trans g0, (cell_set_other _ (by simp)).trans g1, by have := HX.out; simp only [reachTo, this]; exact cell_set_self _ g2, by simpa using g3, by simpa using gz, GB.out.setCell (by simp) _⟩
      case measure => simp [intOf]; omega
    · obtain rfl : k = nx.length := by omega
      go_wp2
      go_ret2
      exact ⟨rfl, GB.out⟩
set_option maxRecDepth 100000 in
set_option maxHeartbeats 2000000 in
theorem Reach_no (A0 : Option Addr) (c0 : Nat) (nx : List Int) (A1 : Option Addr) (c1 : Nat) (mk : List Int) (set : Int) (w : World) (hr0 : Kd.C (Kd.int .i64) w A0 nx.length nx) (hc0 : nx.length ≤ c0) (hr1 : Kd.C (Kd.int .i64) w A1 mk.length mk) (hc1 : mk.length ≤ c1)
    (h : PA.fixes_Works_isSet.f nx mk set = some false) :
    Calls Try.prog 26 #[.agg #[.slice A0 nx.length c0, .slice A1 mk.length c1], .int .i64 set] w fun e w' => e = .returned (.tuple #[.int .i64 0, .int .i64 2]) ∧ Below w.heap.size w w' := by
  have hu := Try.underlying28
  have HR0 := Lib.hid hr0
  have HR1 := Lib.hid hr1
  have H := Lib.hid h
  clear hr0 hr1 h
  go_enter Try.func26, Try.ntmps26
  go_wp2_with fail
  refine (PA.fixes_Works_isSet.calls A0 c0 nx A1 c1 mk set false _ (Kd.C_below HR0.out ?_) hc0 (Kd.C_below HR1.out ?_) hc1 H.out).mono ?_
  · exact ((Below.refl _ _).alloc (Nat.le_refl _) _).alloc (by simp) _
  · exact ((Below.refl _ _).alloc (Nat.le_refl _) _).alloc (by simp) _
  rintro e w1 ⟨rfl, hb⟩
  have gB : Below w.heap.size w w1 := (((Below.refl _ _).alloc (Nat.le_refl _) _).alloc (by simp) _).trans (hb.mono (by simp; omega))
  have GB := Lib.hid gB
  clear gB hb
  go_wp2
  go_ret2
  exact ⟨rfl, GB.out⟩

def fixes_Reach.f (nx mk : List Int) (set : Int) : Option (Int × Int) := (PA.fixes_Works_isSet.f nx mk set).bind fun b => if b = true then some (reachTo nx set nx.length, 0) else some (0, 2)
theorem fixes_Reach.calls (A0_0 : Option Addr) (c0_0 : Nat) (l0_0 : List Int) (A0_1 : Option Addr) (c0_1 : Nat) (l0_1 : List Int) (a1 : Int) (r1 : Int) (r2 : Int) (w : World) (hr0_0 : Kd.C (Kd.int .i64) w A0_0 l0_0.length l0_0) (hc0_0 : l0_0.length ≤ c0_0) (hr0_1 : Kd.C (Kd.int .i64) w A0_1 l0_1.length l0_1) (hc0_1 : l0_1.length ≤ c0_1) (h : fixes_Reach.f l0_0 l0_1 a1 = some (r1, r2)) :
    Calls Try.prog 26 #[.agg #[.slice A0_0 l0_0.length c0_0, .slice A0_1 l0_1.length c0_1], .int .i64 a1] w fun e w' => e = .returned (.tuple #[.int .i64 r1, .int .i64 r2]) ∧ Below w.heap.size w w' := by
  unfold fixes_Reach.f at h
  obtain ⟨b, hb, h⟩ := Option.bind_eq_some_iff.mp h
  cases b
  · simp only [Bool.false_eq_true, if_false, Option.some.injEq, Prod.mk.injEq] at h
    obtain ⟨rfl, rfl⟩ := h
    exact Reach_no A0_0 c0_0 l0_0 A0_1 c0_1 l0_1 a1 w hr0_0 hc0_0 hr0_1 hc0_1 hb
  · simp only [if_true, Option.some.injEq, Prod.mk.injEq] at h
    obtain ⟨rfl, rfl⟩ := h
    exact Reach_yes A0_0 c0_0 l0_0 A0_1 c0_1 l0_1 a1 w hr0_0 hc0_0 hr0_1 hc0_1 hb

def alwaysTo (nx : List Int) (set : Int) : Nat → Int
  | 0 => set
  | k + 1 => bits .and .i64 (alwaysTo nx set k) (stepTo nx (alwaysTo nx set k))

theorem pred_always (w : World) (bw bs : Nat) (A0 : Option Addr) (c0 : Nat) (nx : List Int) (set : Int) (hr : Kd.C (Kd.int .i64) w A0 nx.length nx) (hw : w.cell? ⟨bw, 0, none⟩ = some (.slice A0 nx.length c0)) (hs : w.cell? ⟨bs, 0, none⟩ = some (.int .i64 set)) :
    Pred w 57 #[.pointer (some ⟨bw, 0, none⟩), .pointer (some ⟨bs, 0, none⟩)] nx.length (fun s => bits .and .i64 (rd nx s) set != 0) := by
  intro W s hsn hb
  obtain ⟨b, off, rfl, hlt, hc⟩ := ints_at hr (by omega)
  have k1 := (hb.cell (World.block_lt_of_cell? w _ hw)).trans hw
  have k2 := (hb.cell (World.block_lt_of_cell? w _ hs)).trans hs
  have k3 := (hb.cell (World.block_lt_of_cell? w _ (hc s hsn))).trans (hc s hsn)
  exact (Always1_calls bw bs b off nx.length c0 s (rd nx s) set W k1 k2 hsn hr.2.1 k3).mono fun e w' ⟨he, q, hq⟩ => ⟨he, hq ▸ pw_below_drewN (Below.refl _ _) q⟩

set_option maxRecDepth 100000 in
set_option maxHeartbeats 2000000 in
theorem Always_yes (A0 : Option Addr) (c0 : Nat) (nx : List Int) (A1 : Option Addr) (c1 : Nat) (mk : List Int) (set : Int) (w : World) (hr0 : Kd.C (Kd.int .i64) w A0 nx.length nx) (hc0 : nx.length ≤ c0) (hr1 : Kd.C (Kd.int .i64) w A1 mk.length mk) (hc1 : mk.length ≤ c1)
    (h : PA.fixes_Works_isSet.f nx mk set = some true) :
    Calls Try.prog 27 #[.agg #[.slice A0 nx.length c0, .slice A1 mk.length c1], .int .i64 set] w fun e w' => e = .returned (.tuple #[.int .i64 (alwaysTo nx set nx.length), .int .i64 0]) ∧ Below w.heap.size w w' := by
  have hu := Try.underlying28
  have HR0 := Lib.hid hr0
  have HR1 := Lib.hid hr1
  have hlen := hr0.2.1
  have H := Lib.hid h
  clear hr0 hr1 h
  go_enter Try.func27, Try.ntmps27
  go_wp2_with fail
  refine (PA.fixes_Works_isSet.calls A0 c0 nx A1 c1 mk set true _ (Kd.C_below HR0.out ?_) hc0 (Kd.C_below HR1.out ?_) hc1 H.out).mono ?_
  · exact ((Below.refl _ _).alloc (Nat.le_refl _) _).alloc (by simp) _
  · exact ((Below.refl _ _).alloc (Nat.le_refl _) _).alloc (by simp) _
  rintro e w1 ⟨rfl, hb⟩
  have g0 : w1.cell? ⟨w.heap.size, 0, none⟩ = some (.slice A0 nx.length c0) := by rw [hb.cell (p := ⟨w.heap.size, 0, none⟩) (by simp; omega)]; simp
  have g1 : w1.cell? ⟨w.heap.size, 1, none⟩ = some (.slice A1 mk.length c1) := by rw [hb.cell (p := ⟨w.heap.size, 1, none⟩) (by simp; omega)]; simp
  have g2 : w1.cell? ⟨w.heap.size + 1, 0, none⟩ = some (.int .i64 set) := by rw [hb.cell (p := ⟨w.heap.size + 1, 0, none⟩) (by simp)]; simp
  have g3 : w1.frozen? ⟨w.heap.size + 1, 0, none⟩ = false := by rw [hb.frozen (p := ⟨w.heap.size + 1, 0, none⟩) (by simp)]; simp
  have gB : Below w.heap.size w w1 := (((Below.refl _ _).alloc (Nat.le_refl _) _).alloc (by simp) _).trans (hb.mono (by simp; omega))
  have gz : w.heap.size + 1 < w1.heap.size := by have := hb.size; simp at this; omega
  have GB := Lib.hid gB
  clear gB hb
  go_wp2_with fail
  go_loopw [13] (fun i wr => ∃ k : Nat, k ≤ nx.length ∧ i = .int .i64 k ∧ wr.cell? ⟨w.heap.size, 0, none⟩ = some (.slice A0 nx.length c0) ∧ wr.cell? ⟨w.heap.size, 1, none⟩ = some (.slice A1 mk.length c1) ∧ wr.cell? ⟨w.heap.size + 1, 0, none⟩ = some (.int .i64 (alwaysTo nx set k)) ∧ wr.frozen? ⟨w.heap.size + 1, 0, none⟩ = false ∧ w.heap.size + 1 < wr.heap.size ∧ Hid (Below w.heap.size w wr)) (fun i _ => nx.length - (intOf i).toNat)
  case atStart => exact ⟨0, by omega, rfl, g0, g1, g2, g3, gz, GB⟩
  case round =>
    clear g0 g1 g2 g3 gz GB
    obtain ⟨k, hk, rfl, g0, g1, g2, g3, gz, GB⟩ := hrel
    by_cases hlt : k < nx.length
    · have eg : ∀ args w, (callFunc 57 args).run Try.prog w = .ok (.enter 57 args) w := enters_of' Try.func57 (by kernel_rfl) rfl
      have EG := Lib.hid eg
      clear eg
      go_wp2_with fail
      generalize hX : alwaysTo nx set k = X at g2
      have HX := Lib.hid hX; clear hX
      refine start_ (n := 6) (S := fun w' => w'.cell? ⟨w.heap.size, 0, none⟩ = some (.slice A0 nx.length c0) ∧ w'.cell? ⟨w.heap.size, 1, none⟩ = some (.slice A1 mk.length c1) ∧ w'.cell? ⟨w.heap.size + 1, 0, none⟩ = some (.int .i64 X)) (ds := [5]) #[false, false, false, false, false, false] (by kernel_rfl) rfl rfl ⟨by simpa using g0, by simpa using g1, by simpa using g2⟩ (fun hHeld => ?_)
      refine take_ (i := 0) (N := (some 15)) (v := ?_) (a' := ?_) #[true, false, false, false, false, false] rfl rfl (by kernel_rfl) (fun _ _ _ h => h) (Or.inl ⟨by rfl, ?_⟩) hHeld ?_ ?_
      rotate_left
      · rintro w' ⟨s0, s1, s2⟩; go_simp; first | done | with_reducible rfl
      rotate_left
      · simp only [Act.put, List.setIfInBounds_toArray, List.set_cons_zero, List.set_cons_succ, i64_w, i32_w]; rfl
      refine take_ (i := 1) (N := (some 16)) (v := ?_) (a' := ?_) #[true, true, false, false, false, false] rfl rfl (by kernel_rfl) (fun _ _ _ h => h) (Or.inl ⟨by rfl, ?_⟩) hHeld ?_ ?_
      rotate_left
      · rintro w' ⟨s0, s1, s2⟩; go_simp; first | done | with_reducible rfl
      rotate_left
      · simp only [Act.put, List.setIfInBounds_toArray, List.set_cons_zero, List.set_cons_succ, i64_w, i32_w]; rfl
      refine pure_ (i := 2) (N := (some 17)) (v := ?_) (a' := ?_) #[true, true, true, false, false, false] rfl rfl (by kernel_rfl) (fun _ _ _ h => h) (Or.inl ⟨by rfl, ?_⟩) ?_ ?_
      rotate_left
      · intro w'; go_simp; first | done | with_reducible rfl
      rotate_left
      · simp only [Act.put, List.setIfInBounds_toArray, List.set_cons_zero, List.set_cons_succ, i64_w, i32_w]; rfl
      refine one_ (i := 3) (N := (some 18)) #[true, true, true, true, false, false] rfl rfl (by kernel_rfl) (by decide) (fun K hK => ?_)
      refine goes_ Try.func55 (by kernel_rfl) rfl #[.agg #[.slice A0 nx.length c0, .slice A1 mk.length c1], .func (.func 57) #[] #[.pointer (some ⟨w.heap.size, 0, none⟩), .pointer (some ⟨w.heap.size + 1, 0, none⟩)]] (by rfl) rfl rfl (by (try simp only [List.map_toArray, List.map_cons, List.map_nil]); first | done | rfl) ?_
      refine (where_calls 57 _ EG.out (fun s => bits .and .i64 (rd nx s) X != 0) A0 nx.length c0 A1 mk.length c1 _ hlen (pred_always _ _ _ _ c0 _ _ (Kd.C_below HR0.out (GB.out.drew)) (by simpa using g0) (by simpa using g2))).mono ?_
      rintro e w2 ⟨rfl, hb⟩
      refine ⟨_, rfl, ?_⟩
      obtain ⟨g0, g1, g2, g3, gz, GB⟩ := three_later (G := w.heap.size) (wr := wr.drew) ⟨by simpa using g0, by simpa using g1, by simpa using g2, by simpa using g3, gz, GB.out.drew⟩ hb
      clear hb
      refine hK.out _ _ ⟨g0, g1, g2⟩ (fun hHeld => ?_)
      clear hK K
      refine norm_ (a' := ?_) ?_ ?_
      rotate_left
      · show Act.put _ (some 18) _ = _; simp only [Act.put, List.setIfInBounds_toArray, List.set_cons_zero, List.set_cons_succ, i64_w, i32_w]; rfl
      refine pure_ (i := 4) (N := (some 19)) (v := ?_) (a' := ?_) #[true, true, true, true, true, false] rfl rfl (by kernel_rfl) (fun _ _ _ h => h) (Or.inl ⟨by rfl, ?_⟩) ?_ ?_
      rotate_left
      · intro w'; go_simp; first | done | with_reducible rfl
      rotate_left
      · simp only [Act.put, List.setIfInBounds_toArray, List.set_cons_zero, List.set_cons_succ, i64_w, i32_w]; rfl
      refine last_ (i := 5) (N := none) #[true, true, true, true, true, true] rfl rfl (by kernel_rfl) (by decide) (fun K hK => ?_)
      refine skip_step (w1 := w2.setCell ⟨w.heap.size + 1, 0, none⟩ (.int .i64 (bits .and .i64 X (stepTo nx X)))) (by rfl) (by simp only [stepTo]; go_simp) ?_
      refine hK.out _ _ ?_
      clear hK K
      refine norm_ (a' := ?_) ?_ ?_
      rotate_left
      · show Act.put _ none _ = _; simp only [Act.put, List.setIfInBounds_toArray, List.set_cons_zero, List.set_cons_succ, i64_w, i32_w]; rfl
      refine done_ (by kernel_rfl) ?_
      go_wp2
      go_roundw
      case rel => exact ⟨k + 1, by omega, by go_num, (cell_set_other _ (by simp)).trans g0, (cell_set_other _ (by simp)).trans g1, by have := HX.out; simp only [alwaysTo, this]; exact cell_set_self _ g2, by simpa using g3, by simpa using gz, GB.out.setCell (by simp) _⟩
      case measure => simp [intOf]; omega
    · obtain rfl : k = nx.length := by omega
      go_wp2
      go_ret2
      exact ⟨rfl, GB.out⟩
set_option maxRecDepth 100000 in
set_option maxHeartbeats 2000000 in
theorem Always_no (A0 : Option Addr) (c0 : Nat) (nx : List Int) (A1 : Option Addr) (c1 : Nat) (mk : List Int) (set : Int) (w : World) (hr0 : Kd.C (Kd.int .i64) w A0 nx.length nx) (hc0 : nx.length ≤ c0) (hr1 : Kd.C (Kd.int .i64) w A1 mk.length mk) (hc1 : mk.length ≤ c1)
    (h : PA.fixes_Works_isSet.f nx mk set = some false) :
    Calls Try.prog 27 #[.agg #[.slice A0 nx.length c0, .slice A1 mk.length c1], .int .i64 set] w fun e w' => e = .returned (.tuple #[.int .i64 0, .int .i64 2]) ∧ Below w.heap.size w w' := by
  have hu := Try.underlying28
  have HR0 := Lib.hid hr0
  have HR1 := Lib.hid hr1
  have H := Lib.hid h
  clear hr0 hr1 h
  go_enter Try.func27, Try.ntmps27
  go_wp2_with fail
  refine (PA.fixes_Works_isSet.calls A0 c0 nx A1 c1 mk set false _ (Kd.C_below HR0.out ?_) hc0 (Kd.C_below HR1.out ?_) hc1 H.out).mono ?_
  · exact ((Below.refl _ _).alloc (Nat.le_refl _) _).alloc (by simp) _
  · exact ((Below.refl _ _).alloc (Nat.le_refl _) _).alloc (by simp) _
  rintro e w1 ⟨rfl, hb⟩
  have gB : Below w.heap.size w w1 := (((Below.refl _ _).alloc (Nat.le_refl _) _).alloc (by simp) _).trans (hb.mono (by simp; omega))
  have GB := Lib.hid gB
  clear gB hb
  go_wp2
  go_ret2
  exact ⟨rfl, GB.out⟩

def fixes_Always.f (nx mk : List Int) (set : Int) : Option (Int × Int) := (PA.fixes_Works_isSet.f nx mk set).bind fun b => if b = true then some (alwaysTo nx set nx.length, 0) else some (0, 2)
theorem fixes_Always.calls (A0_0 : Option Addr) (c0_0 : Nat) (l0_0 : List Int) (A0_1 : Option Addr) (c0_1 : Nat) (l0_1 : List Int) (a1 : Int) (r1 : Int) (r2 : Int) (w : World) (hr0_0 : Kd.C (Kd.int .i64) w A0_0 l0_0.length l0_0) (hc0_0 : l0_0.length ≤ c0_0) (hr0_1 : Kd.C (Kd.int .i64) w A0_1 l0_1.length l0_1) (hc0_1 : l0_1.length ≤ c0_1) (h : fixes_Always.f l0_0 l0_1 a1 = some (r1, r2)) :
    Calls Try.prog 27 #[.agg #[.slice A0_0 l0_0.length c0_0, .slice A0_1 l0_1.length c0_1], .int .i64 a1] w fun e w' => e = .returned (.tuple #[.int .i64 r1, .int .i64 r2]) ∧ Below w.heap.size w w' := by
  unfold fixes_Always.f at h
  obtain ⟨b, hb, h⟩ := Option.bind_eq_some_iff.mp h
  cases b
  · simp only [Bool.false_eq_true, if_false, Option.some.injEq, Prod.mk.injEq] at h
    obtain ⟨rfl, rfl⟩ := h
    exact Always_no A0_0 c0_0 l0_0 A0_1 c0_1 l0_1 a1 w hr0_0 hc0_0 hr0_1 hc0_1 hb
  · simp only [if_true, Option.some.injEq, Prod.mk.injEq] at h
    obtain ⟨rfl, rfl⟩ := h
    exact Always_yes A0_0 c0_0 l0_0 A0_1 c0_1 l0_1 a1 w hr0_0 hc0_0 hr0_1 hc0_1 hb

end Go.Proofs.Ytjffhhalmicodaa.X
