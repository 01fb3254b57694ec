/- Texts of this claim, merged by a program (wip/tools/shake.py); what nothing names is left out. -/
import Derived.Test.YtpfenoioeajkmaaDoorProg
import Derived.Below
import Derived.Deep.Draws
import Derived.Deep.AppendLies
import Derived.Maps.AppendAt
import Derived.OwnWalk
import Derived.Laws.BytesArg
import Derived.Laws.MakeOwn
import Derived.Laws.OwnMore
import Derived.Deep.OwnRows
import Derived.Tactics
import Derived.Lib.ConvBytes
import Derived.Laws.Slices
import Derived.WalkKit
import Derived.KernelRfl
import Derived.RowKit3
import Derived.Deep.LoopGhost
import Derived.Deep.QuietTactic
import Derived.BigQuiet
import Derived.WideLaws
import Derived.Deep.DeepCutAuto
import Derived.Deep.CutBlock
import Derived.Deep.RegionHeld3
import Derived.Laws.Rows
import Derived.Lib.AppendStr
import Derived.ArgAppend
import Derived.Laws.IdiomCopy
import Derived.OrdersHeld
import Derived.Laws.BitsLemmas
import Derived.RowKit
import Derived.WideKeyPair
import Derived.Deep.Slices
import Derived.OpenShut
import Derived.DataElems
import Derived.Test.YtpfenoioeajkmaaDoorSra
section
set_option linter.unusedVariables false
set_option linter.unusedSimpArgs false
namespace Go.Proofs.YtpfenoioeajkmaaDoor.X
open Go.RowKit Go.Proofs.YtpfenoioeajkmaaDoorW.PrintWords Go.Proofs.YtpfenoioeajkmaaDoorW.PrintLast Go.Proofs.YtpfenoioeajkmaaDoorW.PrintMore
theorem ite_min (a b : Int) : (if b < a then b else a) = min a b := by split <;> omega
theorem ite_max (a b : Int) : (if a < b then b else a) = max a b := by split <;> omega
theorem run_min4 (a b c d : Int) (w : World) : (Builtin.min_ #[3, 3, 3, 3] 3 #[.int .i64 a, .int .i64 b, .int .i64 c, .int .i64 d]).run Tryd.prog w = .ok (.int .i64 (min (min (min a b) c) d)) w := by
  rw [min_four]
  simp only [min2_int, Sem.run_bind, Sem.run_pure, Result.andThen_ok, ite_min]
theorem run_max4 (a b c d : Int) (w : World) : (Builtin.max_ #[3, 3, 3, 3] 3 #[.int .i64 a, .int .i64 b, .int .i64 c, .int .i64 d]).run Tryd.prog w = .ok (.int .i64 (max (max (max a b) c) d)) w := by
  rw [max_four]
  simp only [max2_int, Sem.run_bind, Sem.run_pure, Result.andThen_ok, ite_max]
def near (v : Int × Int) : Bool := decide (-100 ≤ v.1 ∧ v.1 ≤ 100 ∧ -100 ≤ v.2 ∧ v.2 ≤ 100)
set_option maxHeartbeats 4000000 in
set_option maxRecDepth 100000 in
theorem Fills_bad (A : Option Addr) (n c : Nat) (x y : Nat → Int) (v0 v1 u0 u1 : Int) (w : World) (hA : Sl w A n c x y) (hn : n ≤ 9223372036854775807) (hb : goodL x y n = false ∨ (goodL x y n = true ∧ (min (min (min v0 v1) u0) u1 < -100 ∨ (-100 ≤ min (min (min v0 v1) u0) u1 ∧ 100 < max (max (max v0 v1) u0) u1)))) :
    Calls Tryd.prog 40 #[.slice A n c, ptV v0 v1, ptV u0 u1] w fun e w' => e = .returned (.tuple #[.bool false, .int .i64 2]) ∧ Below w.heap.size w w' := by
  have HA := Lib.hid hA
  clear hA
  unfold ptV
  rcases hb with hb | ⟨hb, hb2⟩
  · have HG := Lib.hid hb
    clear hb
    go_enter Tryd.func40, Tryd.ntmps40
    go_wp2_with fail
    refine (read_all A n c x y _ (HA.out.later ((below_one _).alloc (by simp) _)) hn).mono ?_
    rintro e w1 ⟨⟨h1, _⟩ | ⟨h1, rfl⟩, hb1⟩
    · rw [HG.out] at h1; cases h1
    · have HB := Lib.hid (((below_one (w := w) _).alloc (by simp) _).trans (hb1.mono (by simp; omega)))
      clear h1 hb1
      go_wp2
      go_ret2
      exact ⟨rfl, HB.out⟩
  · have HG := Lib.hid hb
    clear hb
    go_enter Tryd.func40, Tryd.ntmps40
    go_wp2_with fail
    refine (read_all A n c x y _ (HA.out.later ((below_one _).alloc (by simp) _)) hn).mono ?_
    rintro e w1 ⟨⟨h1, A', c', rfl, hS⟩ | ⟨h1, rfl⟩, hb1⟩
    · have HB := Lib.hid (((below_one (w := w) _).alloc (by simp) _).trans (hb1.mono (by simp; omega)))
      have a0 : w1.cell? ⟨w.heap.size, 0, none⟩ = some (.int .i64 v0) := by rw [hb1.cell (p := ⟨w.heap.size, 0, none⟩) (by simp; omega)]; simp
      have a1 : w1.cell? ⟨w.heap.size, 1, none⟩ = some (.int .i64 v1) := by rw [hb1.cell (p := ⟨w.heap.size, 1, none⟩) (by simp; omega)]; simp
      have a2 : w1.cell? ⟨w.heap.size + 1, 0, none⟩ = some (.int .i64 u0) := by rw [hb1.cell (p := ⟨w.heap.size + 1, 0, none⟩) (by simp)]; simp
      have a3 : w1.cell? ⟨w.heap.size + 1, 1, none⟩ = some (.int .i64 u1) := by rw [hb1.cell (p := ⟨w.heap.size + 1, 1, none⟩) (by simp)]; simp
      clear h1 hb1 hS
      have hmin := fun w => run_min4 v0 v1 u0 u1 w
      have hmax := fun w => run_max4 v0 v1 u0 u1 w
      generalize min (min (min v0 v1) u0) u1 = MN at hmin hb2
      generalize max (max (max v0 v1) u0) u1 = MX at hmax hb2
      rcases hb2 with hb2 | ⟨hb2, hb3⟩
      · go_wp2
        go_ret2
        exact ⟨rfl, HB.out⟩
      · go_wp2
        go_ret2
        exact ⟨rfl, HB.out⟩
    · rw [HG.out] at h1; cases h1
theorem mul_100 {a b : Int} (ha : -100 ≤ a ∧ a ≤ 100) (hb : -100 ≤ b ∧ b ≤ 100) : -10000 ≤ a * b ∧ a * b ≤ 10000 := by
  have h3 : (a * b).natAbs ≤ 100 * 100 := by rw [Int.natAbs_mul]; exact Nat.mul_le_mul (by omega) (by omega)
  omega
theorem mul_200 {a b : Int} (ha : -200 ≤ a ∧ a ≤ 200) (hb : -100 ≤ b ∧ b ≤ 100) : -20000 ≤ a * b ∧ a * b ≤ 20000 := by
  have h3 : (a * b).natAbs ≤ 200 * 100 := by rw [Int.natAbs_mul]; exact Nat.mul_le_mul (by omega) (by omega)
  omega
def hits (x y : Nat → Int) (v0 v1 u0 u1 D : Int) (i j : Nat) : Bool := Int.tmod ((x i - x j) * u1 - (y i - y j) * u0) D == 0 && Int.tmod (v0 * (y i - y j) - v1 * (x i - x j)) D == 0
def clear' (x y : Nat → Int) (v0 v1 u0 u1 D : Int) (k : Nat) : Prop := ∀ i j, i < k → j < i → hits x y v0 v1 u0 u1 D i j = false
set_option maxHeartbeats 4000000 in
set_option maxRecDepth 100000 in
theorem Fills_room (A : Option Addr) (n c : Nat) (x y : Nat → Int) (v0 v1 u0 u1 : Int) (w : World) (hA : Sl w A n c x y) (hn : n ≤ 9223372036854775807) (hg : goodL x y n = true)
    (hv : (-100 ≤ v0 ∧ v0 ≤ 100) ∧ (-100 ≤ v1 ∧ v1 ≤ 100) ∧ (-100 ≤ u0 ∧ u0 ≤ 100) ∧ (-100 ≤ u1 ∧ u1 ≤ 100)) (D : Int) (hD : v0 * u1 - v1 * u0 = D) (hr : ¬ max D (-D) = n) :
    Calls Tryd.prog 40 #[.slice A n c, ptV v0 v1, ptV u0 u1] w fun e w' => e = .returned (.tuple #[.bool false, .int .i64 0]) ∧ Below w.heap.size w w' := by
  have HA := Lib.hid hA
  have HG := Lib.hid hg
  obtain ⟨k1, k2, k3, k4⟩ := hv
  have p1 := mul_100 k1 k4
  have p2 := mul_100 k2 k3
  have hdet : wrap64 (wrap64 (v0 * u1) - wrap64 (v1 * u0)) = D := by
    rw [← hD]
    generalize v0 * u1 = a at *
    generalize v1 * u0 = b at *
    unfold wrap64
    omega
  have hDb : -20000 ≤ D ∧ D ≤ 20000 := by
    rw [← hD]
    generalize v0 * u1 = a at *
    generalize v1 * u0 = b at *
    omega
  have hneg : wrap64 (-D) = -D := by unfold wrap64; omega
  have hb2 : -100 ≤ min (min (min v0 v1) u0) u1 := by omega
  have hb3 : max (max (max v0 v1) u0) u1 ≤ 100 := by omega
  clear hA hg p1 p2 hD k1 k2 k3 k4
  unfold ptV
  go_enter Tryd.func40, Tryd.ntmps40
  go_wp2_with fail
  refine (read_all A n c x y _ (HA.out.later ((below_one _).alloc (by simp) _)) hn).mono ?_
  rintro e w1 ⟨⟨h1, A', c', rfl, hS⟩ | ⟨h1, rfl⟩, hb1⟩
  · have HB := Lib.hid (((below_one (w := w) _).alloc (by simp) _).trans (hb1.mono (by simp; omega)))
    have a0 : w1.cell? ⟨w.heap.size, 0, none⟩ = some (.int .i64 v0) := by rw [hb1.cell (p := ⟨w.heap.size, 0, none⟩) (by simp; omega)]; simp
    have a1 : w1.cell? ⟨w.heap.size, 1, none⟩ = some (.int .i64 v1) := by rw [hb1.cell (p := ⟨w.heap.size, 1, none⟩) (by simp; omega)]; simp
    have a2 : w1.cell? ⟨w.heap.size + 1, 0, none⟩ = some (.int .i64 u0) := by rw [hb1.cell (p := ⟨w.heap.size + 1, 0, none⟩) (by simp)]; simp
    have a3 : w1.cell? ⟨w.heap.size + 1, 1, none⟩ = some (.int .i64 u1) := by rw [hb1.cell (p := ⟨w.heap.size + 1, 1, none⟩) (by simp)]; simp
    clear h1 hb1 hS
    have hmin := fun w => run_min4 v0 v1 u0 u1 w
    have hmax := fun w => run_max4 v0 v1 u0 u1 w
    generalize min (min (min v0 v1) u0) u1 = MN at hmin hb2
    generalize max (max (max v0 v1) u0) u1 = MX at hmax hb3
    have hne : (max D (-D) == (n : Int)) = false := by simp [hr]
    clear hDb
    go_wp2
    go_ret2
    exact ⟨rfl, HB.out⟩
  · rw [HG.out] at h1; cases h1
theorem goodL_at {x y : Nat → Int} {n : Nat} (h : goodL x y n = true) : (1 ≤ n ∧ n ≤ 30) ∧ ∀ i, i < n → -100 ≤ x i ∧ x i ≤ 100 ∧ -100 ≤ y i ∧ y i ≤ 100 := by
  unfold goodL at h
  rw [Bool.and_eq_true, Bool.and_eq_true, decide_eq_true_eq, decide_eq_true_eq] at h
  exact ⟨h.1, fun i hi => (goodTo_at h.2 hi).1⟩
theorem q_small {a b c d : Int} (ha : -200 ≤ a ∧ a ≤ 200) (hb : -100 ≤ b ∧ b ≤ 100) (hc : -200 ≤ c ∧ c ≤ 200) (hd : -100 ≤ d ∧ d ≤ 100) : wrap64 (wrap64 (a * b) - wrap64 (c * d)) = a * b - c * d := by
  have p1 := mul_200 ha hb
  have p2 := mul_200 hc hd
  generalize a * b = e at *
  generalize c * d = f at *
  unfold wrap64
  omega
theorem two_cells (w : World) (t : TypeId) (u v : Value) : (w.alloc (.cells #[u, v] t)).cell? ⟨w.heap.size, 0, none⟩ = some u ∧ (w.alloc (.cells #[u, v] t)).cell? ⟨w.heap.size, 1, none⟩ = some v := by constructor <;> simp
set_option maxHeartbeats 8000000 in
set_option maxRecDepth 100000 in
theorem Fills_loop (A : Option Addr) (n c : Nat) (x y : Nat → Int) (v0 v1 u0 u1 : Int) (w : World) (hA : Sl w A n c x y) (hn : n ≤ 9223372036854775807) (hg : goodL x y n = true)
    (hv : (-100 ≤ v0 ∧ v0 ≤ 100) ∧ (-100 ≤ v1 ∧ v1 ≤ 100) ∧ (-100 ≤ u0 ∧ u0 ≤ 100) ∧ (-100 ≤ u1 ∧ u1 ≤ 100)) (D : Int) (hD : v0 * u1 - v1 * u0 = D) (hr : max D (-D) = n) (r : Bool) (hres : r = true ↔ clear' x y v0 v1 u0 u1 D n) :
    Calls Tryd.prog 40 #[.slice A n c, ptV v0 v1, ptV u0 u1] w fun e w' => e = .returned (.tuple #[.bool r, .int .i64 0]) ∧ Below w.heap.size w w' := by
  obtain ⟨⟨hn1, hn30⟩, hxy⟩ := goodL_at hg
  have HA := Lib.hid hA
  have HG := Lib.hid hg
  have HR := Lib.hid hres
  have HX := Lib.hid hxy
  have HV := Lib.hid hv
  obtain ⟨k1, k2, k3, k4⟩ := hv
  have p1 := mul_100 k1 k4
  have p2 := mul_100 k2 k3
  have hdet : wrap64 (wrap64 (v0 * u1) - wrap64 (v1 * u0)) = D := by
    rw [← hD]
    generalize v0 * u1 = a at *
    generalize v1 * u0 = b at *
    unfold wrap64
    omega
  have hDb : -20000 ≤ D ∧ D ≤ 20000 := by
    rw [← hD]
    generalize v0 * u1 = a at *
    generalize v1 * u0 = b at *
    omega
  have hneg : wrap64 (-D) = -D := by unfold wrap64; omega
  have hD0 : D ≠ 0 := by omega
  have hb2 : -100 ≤ min (min (min v0 v1) u0) u1 := by omega
  have hb3 : max (max (max v0 v1) u0) u1 ≤ 100 := by omega
  clear hA hg p1 p2 hD k1 k2 k3 k4 hres hxy
  unfold ptV
  go_enter Tryd.func40, Tryd.ntmps40
  go_wp2_with fail
  refine (read_all A n c x y _ (HA.out.later ((below_one _).alloc (by simp) _)) hn).mono ?_
  rintro e w1 ⟨⟨h1, A', c', rfl, hS⟩ | ⟨h1, rfl⟩, hb1⟩
  · have HB := Lib.hid (((below_one (w := w) _).alloc (by simp) _).trans (hb1.mono (by simp; omega)))
    have a0 : w1.cell? ⟨w.heap.size, 0, none⟩ = some (.int .i64 v0) := by rw [hb1.cell (p := ⟨w.heap.size, 0, none⟩) (by simp; omega)]; simp
    have a1 : w1.cell? ⟨w.heap.size, 1, none⟩ = some (.int .i64 v1) := by rw [hb1.cell (p := ⟨w.heap.size, 1, none⟩) (by simp; omega)]; simp
    have a2 : w1.cell? ⟨w.heap.size + 1, 0, none⟩ = some (.int .i64 u0) := by rw [hb1.cell (p := ⟨w.heap.size + 1, 0, none⟩) (by simp)]; simp
    have a3 : w1.cell? ⟨w.heap.size + 1, 1, none⟩ = some (.int .i64 u1) := by rw [hb1.cell (p := ⟨w.heap.size + 1, 1, none⟩) (by simp)]; simp
    have g1 : w.heap.size + 1 < w1.heap.size := World.block_lt_of_cell? _ _ a2
    obtain ⟨b, off, rfl, hnc, hP⟩ : ∃ b off, A' = some ⟨b, off, none⟩ ∧ n ≤ c' ∧ Pts w1 b off n x y := by
      rcases hS with ⟨_, h2, _⟩ | h | ⟨_, _, h2⟩
      · omega
      · exact h
      · omega
    have HP := Lib.hid hP
    clear h1 hb1 hS hP HA
    have hmin := fun w => run_min4 v0 v1 u0 u1 w
    have hmax := fun w => run_max4 v0 v1 u0 u1 w
    generalize min (min (min v0 v1) u0) u1 = MN at hmin hb2
    generalize max (max (max v0 v1) u0) u1 = MX at hmax hb3
    have hne : (max D (-D) == (n : Int)) = true := by simp [hr]
    clear hDb
    go_wp2_with fail
    rw [hdet]
    clear hdet hneg hmin hmax hb2 hb3 hne hr
    have HC := Lib.hid (And.intro a0 (And.intro a1 (And.intro a2 a3)))
    clear a0 a1 a2 a3
    have HB1 := Lib.hid (Below.refl w1.heap.size w1)
    go_loopw [67] (fun i wr => ∃ k : Nat, k ≤ n ∧ i = .int .i64 k ∧ Hid (clear' x y v0 v1 u0 u1 D k) ∧ Hid (Below w1.heap.size w1 wr)) (fun i _ => n - (intOf i).toNat)
    case atStart => exact ⟨0, by omega, rfl, Lib.hid (fun i j h => by omega), HB1⟩
    case round =>
      clear HB1
      obtain ⟨k, hk, rfl, HK, HB1⟩ := hrel
      by_cases hlt : k < n
      · have hp := HP.out.later HB1.out
        have q0 := hp.c0 k hlt
        have q1 := hp.c1 k hlt
        have hkc : k ≤ c' := by omega
        clear hp
        go_wp2_with fail
        obtain ⟨c0, c1⟩ := two_cells wr 63 (.int .i64 (x k)) (.int .i64 (y k))
        have hbo : Below w1.heap.size w1 (wr.alloc (.cells #[.int .i64 (x k), .int .i64 (y k)] 63)) := HB1.out.trans ((below_one _).mono HB1.out.size)
        generalize wr.heap.size = G at c0 c1 ⊢
        generalize wr.alloc (.cells #[.int .i64 (x k), .int .i64 (y k)] 63) = wo at c0 c1 hbo ⊢
        have HO := Lib.hid hbo
        have HC0 := Lib.hid (And.intro c0 c1)
        have HB2 := Lib.hid (Below.refl wo.heap.size wo)
        clear hbo c0 c1 q0 q1
        clear HB1
        clear wr
        go_loopw [76] (fun j wr => ∃ m : Nat, m ≤ k ∧ j = .int .i64 m ∧ Hid (∀ j, j < m → hits x y v0 v1 u0 u1 D k j = false) ∧ Hid (Below wo.heap.size wo wr)) (fun j _ => k - (intOf j).toNat)
        case atStart => exact ⟨0, by omega, rfl, Lib.hid (fun j h => by omega), HB2⟩
        case round =>
          clear HB2
          obtain ⟨m, hm, rfl, HM, HB2⟩ := hrel
          by_cases hmt : m < k
          · have hw1 := HO.out.trans (HB2.out.mono HO.out.size)
            have hp := HP.out.later hw1
            have q0 := hp.c0 m (by omega)
            have q1 := hp.c1 m (by omega)
            have c0 := (HB2.out.cell (p := ⟨G, 0, none⟩) (World.block_lt_of_cell? _ _ HC0.out.1)).trans HC0.out.1
            have c1 := (HB2.out.cell (p := ⟨G, 1, none⟩) (World.block_lt_of_cell? _ _ HC0.out.2)).trans HC0.out.2
            have hGl : G < wr.heap.size := World.block_lt_of_cell? _ _ c0
            have c0' := ((below_one (w := wr) (.cells #[.int .i64 (x m), .int .i64 (y m)] 63)).cell (p := ⟨G, 0, none⟩) hGl).trans c0
            have c1' := ((below_one (w := wr) (.cells #[.int .i64 (x m), .int .i64 (y m)] 63)).cell (p := ⟨G, 1, none⟩) hGl).trans c1
            have HW1 := Lib.hid hw1
            clear hp c0 c1 hw1
            go_wp2_with fail
            refine (minus_calls (x k) (y k) (x m) (y m) _).mono ?_
            rintro e w5 ⟨rfl, hb5⟩
            have hxk := HX.out k hlt
            have hxm := HX.out m (by omega)
            have hdx : wrap64 (x k - x m) = x k - x m := by unfold wrap64; omega
            have hdy : wrap64 (y k - y m) = y k - y m := by unfold wrap64; omega
            rw [hdx, hdy]
            have hq1 := q_small (a := x k - x m) (b := u1) (c := y k - y m) (d := u0) (by omega) HV.out.2.2.2 (by omega) HV.out.2.2.1
            have hq2 : wrap64 (wrap64 (v0 * (y k - y m)) - wrap64 (v1 * (x k - x m))) = v0 * (y k - y m) - v1 * (x k - x m) := by
              have := q_small (a := y k - y m) (b := v0) (c := x k - x m) (d := v1) (by omega) HV.out.1 (by omega) HV.out.2.1
              rw [Int.mul_comm v0, Int.mul_comm v1]
              exact this
            have hh : hits x y v0 v1 u0 u1 D k m = (Int.tmod ((x k - x m) * u1 - (y k - y m) * u0) D == 0 && Int.tmod (v0 * (y k - y m) - v1 * (x k - x m)) D == 0) := rfl
            generalize (x k - x m) * u1 - (y k - y m) * u0 = Q1 at hq1 hh
            generalize v0 * (y k - y m) - v1 * (x k - x m) = Q2 at hq2 hh
            unfold ptV
            generalize x k - x m = dx at hq1 hq2 ⊢
            generalize y k - y m = dy at hq1 hq2 ⊢
            have hb6 : Below w1.heap.size w1 (w5.alloc (.cells #[.int .i64 dx, .int .i64 dy] 63)) := HW1.out.trans ((((below_one _).trans (hb5.mono (by simp))).trans ((below_one _).mono (by have := hb5.size; simp at this; omega))).mono HW1.out.size)
            have hb7 : Below wo.heap.size wo (w5.alloc (.cells #[.int .i64 dx, .int .i64 dy] 63)) := HB2.out.trans ((((below_one _).trans (hb5.mono (by simp))).trans ((below_one _).mono (by have := hb5.size; simp at this; omega))).mono HB2.out.size)
            have r0 := (hb6.cell (p := ⟨w.heap.size, 0, none⟩) (by simp; omega)).trans HC.out.1
            have r1 := (hb6.cell (p := ⟨w.heap.size, 1, none⟩) (by simp; omega)).trans HC.out.2.1
            have r2 := (hb6.cell (p := ⟨w.heap.size + 1, 0, none⟩) (by simp; omega)).trans HC.out.2.2.1
            have r3 := (hb6.cell (p := ⟨w.heap.size + 1, 1, none⟩) (by simp; omega)).trans HC.out.2.2.2
            have HB7 := Lib.hid hb7
            have HB6 := Lib.hid hb6
            have HH := Lib.hid hh
            clear hb5 hb6 hb7 hxk hxm hdx hdy q0 q1 c0' c1' hh hGl
            cases t1 : (Int.tmod Q1 D == 0) with
            | false =>
              go_wp2_with fail
              refine ⟨⟨m + 1, by omega, by go_num, Lib.hid (fun j h1 => ?_), HB7⟩, by simp [intOf]; omega⟩
              by_cases e : j = m
              · subst e
                rw [HH.out, t1]
                rfl
              · exact HM.out j (by omega)
            | true =>
              cases t2 : (Int.tmod Q2 D == 0) with
              | false =>
                go_wp2_with fail
                refine ⟨⟨m + 1, by omega, by go_num, Lib.hid (fun j h1 => ?_), HB7⟩, by simp [intOf]; omega⟩
                by_cases e : j = m
                · subst e
                  rw [HH.out, t1, t2]
                  rfl
                · exact HM.out j (by omega)
              | true =>
                have hrf : r = false := by
                  rw [Bool.eq_false_iff]
                  intro q
                  have := HR.out.1 q k m hlt hmt
                  rw [HH.out, t1, t2] at this
                  cases this
                clear HR
                subst hrf
                go_wp2
                go_ret2
                exact ⟨rfl, HB.out.trans (HB6.out.mono HB.out.size)⟩
          · obtain rfl : m = k := by omega
            go_wp2_with fail
            refine ⟨⟨m + 1, by omega, by go_num, Lib.hid (fun i j h1 h2 => ?_), Lib.hid (HO.out.trans (HB2.out.mono HO.out.size))⟩, by simp [intOf]; omega⟩
            by_cases e : i = m
            · subst e
              exact HM.out j h2
            · exact HK.out i j (by omega) h2
      · obtain rfl : k = n := by omega
        have hrt : r = true := HR.out.2 HK.out
        clear HR
        subst hrt
        go_wp2
        go_ret2
        exact ⟨rfl, HB.out.trans (HB1.out.mono HB.out.size)⟩
  · rw [HG.out] at h1; cases h1
end Go.Proofs.YtpfenoioeajkmaaDoor.X
end

section
set_option linter.unusedVariables false
set_option linter.unusedSimpArgs false
namespace Go.Proofs.YtpfenoioeajkmaaDoor.X
open Go.RowKit Go.Proofs.YtpfenoioeajkmaaDoorW.PrintWords Go.Proofs.YtpfenoioeajkmaaDoorW.PrintLast Go.Proofs.YtpfenoioeajkmaaDoorW.PrintMore
theorem goodL_no {x y : Nat → Int} {n : Nat} (h : goodTo x y n = false) : goodL x y n = false := by unfold goodL; rw [h, Bool.and_false]
theorem cmpP_iff (a b c d : Int) : cmpP a b c d < 0 ↔ a < c ∨ (a = c ∧ b < d) := by
  unfold cmpP cmpI
  by_cases h1 : a < c
  · simp [h1]
  · by_cases h2 : a > c
    · simp [h1, h2]
      omega
    · have : a = c := by omega
      subst this
      simp
      by_cases h3 : b < d
      · simp [h3]
      · by_cases h4 : d < b
        · simp [h3, h4]
        · simp [h3, h4]
set_option maxHeartbeats 16000000 in
set_option maxRecDepth 100000 in
theorem List_calls (A : Option Addr) (n c : Nat) (x y : Nat → Int) (w : World) (hA : Sl w A n c x y) (hn : n ≤ 9223372036854775807) :
    Calls Tryd.prog 42 #[.slice A n c] w fun e w' => e = .returned (.bool (goodL x y n)) ∧ Below w.heap.size w w' := by
  have HP := Lib.hid (show 0 < n → ∃ b off, A = some ⟨b, off, none⟩ ∧ Pts w b off n x y from fun h => by
    rcases hA with ⟨_, h2, _⟩ | ⟨b, off, h1, _, h3⟩ | ⟨_, _, h2⟩
    · omega
    · exact ⟨b, off, h1, h3⟩
    · omega)
  clear hA
  go_enter Tryd.func42, Tryd.ntmps42
  go_wp2_with fail
  have HB := Lib.hid (Below.refl w.heap.size w)
  go_loopw [7] (fun i wr => ∃ k : Nat, k ≤ n ∧ i = .int .i64 k ∧ Hid (goodTo x y k = true) ∧ Hid (Below w.heap.size w wr)) (fun i _ => n - (intOf i).toNat)
  case atStart => exact ⟨0, by omega, rfl, Lib.hid rfl, HB⟩
  case round =>
    clear HB
    obtain ⟨k, hk, rfl, HG, HB⟩ := hrel
    by_cases hlt : k < n
    · obtain ⟨b, off, rfl, hP0⟩ := HP.out (by omega)
      have hP := hP0.later HB.out
      have h0 := hP.c0 k hlt
      have h1 := hP.c1 k hlt
      obtain ⟨z0, z1⟩ := two_cells wr 29 (.int .i64 (x k)) (.int .i64 (y k))
      have HGN := fun q => Lib.hid (goodTo_bad (x := x) (y := y) hlt q)
      by_cases hx : -100 ≤ x k ∧ x k ≤ 100 ∧ -100 ≤ y k ∧ y k ≤ 100
      · obtain ⟨x1, x2, x3, x4⟩ := hx
        go_wp2_with fail
        have hba := below_one (w := wr) (.cells #[.int .i64 (x k), .int .i64 (y k)] 29)
        have HBA := Lib.hid (HB.out.trans (hba.mono HB.out.size))
        have HPA := Lib.hid (hP.later hba)
        generalize hwa : wr.alloc (.cells #[.int .i64 (x k), .int .i64 (y k)] 29) = wa at z0 z1 hba HBA HPA ⊢
        generalize wr.heap.size = G at z0 z1 ⊢
        have q0 := z0
        have q1 := z1
        clear hwa hba hP hP0 z0 z1
        rcases Nat.eq_zero_or_pos k with hk0 | hk0
        · subst hk0
          have HGK := Lib.hid (show (-100 ≤ x 0 ∧ x 0 ≤ 100 ∧ -100 ≤ y 0 ∧ y 0 ≤ 100) ∧ (0 = 0 ∨ cmpP (x (0 - 1)) (y (0 - 1)) (x 0) (y 0) < 0) from ⟨⟨x1, x2, x3, x4⟩, .inl rfl⟩)
          refine start_ (n := 35) (S := fun w' => w'.cell? ⟨G, 0, none⟩ = some (.int .i64 (x 0)) ∧ w'.cell? ⟨G, 1, none⟩ = some (.int .i64 (y 0))) (ds := []) #[false, false, false, false, false, false, false, false, false, false, false, false, false, false, false, false, false, false, false, false, false, false, false, false, false, false, false, false, false, false, false, false, false, false, false] (by kernel_rfl) rfl rfl ⟨by simpa using q0, by simpa using q1⟩ (fun hHeld => ?_)
          refine pure_ (i := 0) (N := (some 30)) (v := ?_) (a' := ?_) #[true, false, false, false, false, false, false, false, false, false, false, false, false, false, false, false, false, false, false, false, false, false, false, false, false, false, false, false, false, false, false, false, false, false, false] rfl rfl (by kernel_rfl) (fun _ _ _ h => h) (Or.inl ⟨by rfl, ?_⟩) ?_ ?_
          rotate_left
          · intro w'; go_simp; first | done | with_reducible rfl
          rotate_left
          · simp only [Act.put, List.setIfInBounds_toArray, List.set_cons_zero, List.set_cons_succ, i64_w, i32_w]; rfl
          refine pure_ (i := 1) (N := (some 31)) (v := (.bool false)) (a' := ?_) #[true, true, false, false, false, false, false, false, false, false, false, false, false, false, false, false, false, false, false, false, false, false, false, false, false, false, false, false, false, false, false, false, false, false, false] rfl rfl (by kernel_rfl) (fun _ _ _ h => h) (Or.inl ⟨by rfl, ?_⟩) ?_ ?_
          · intro w'; go_simp; first | done | with_reducible rfl
          rotate_left
          · simp only [Act.put, List.setIfInBounds_toArray, List.set_cons_zero, List.set_cons_succ, i64_w, i32_w]; rfl
          refine pure_ (i := 2) (N := (some 32)) (v := ?_) (a' := ?_) #[true, true, true, false, false, false, false, false, false, false, false, false, false, false, false, false, false, false, false, false, false, false, false, false, false, false, false, false, false, false, false, false, false, false, false] rfl rfl (by kernel_rfl) (fun _ _ _ h => h) (Or.inl ⟨by rfl, ?_⟩) ?_ ?_
          rotate_left
          · intro w'; go_simp; first | done | with_reducible rfl
          rotate_left
          · simp only [Act.put, List.setIfInBounds_toArray, List.set_cons_zero, List.set_cons_succ, i64_w, i32_w]; rfl
          refine off_ (i := 3) (N := (some 33)) #[true, true, true, true, false, false, false, false, false, false, false, false, false, false, false, false, false, false, false, false, false, false, false, false, false, false, false, false, false, false, false, false, false, false, false] rfl rfl (by kernel_rfl) (fun _ _ _ h => h) (by rfl) (by simp only [Act.put, List.setIfInBounds_toArray, List.set_cons_zero, List.set_cons_succ, i64_w, i32_w]; rfl) ?_
          refine off_ (i := 4) (N := (some 34)) #[true, true, true, true, true, false, false, false, false, false, false, false, false, false, false, false, false, false, false, false, false, false, false, false, false, false, false, false, false, false, false, false, false, false, false] rfl rfl (by kernel_rfl) (fun _ _ _ h => h) (by rfl) (by simp only [Act.put, List.setIfInBounds_toArray, List.set_cons_zero, List.set_cons_succ, i64_w, i32_w]; rfl) ?_
          refine off_ (i := 5) (N := (some 35)) #[true, true, true, true, true, true, false, false, false, false, false, false, false, false, false, false, false, false, false, false, false, false, false, false, false, false, false, false, false, false, false, false, false, false, false] rfl rfl (by kernel_rfl) (fun _ _ _ h => h) (by rfl) (by simp only [Act.put, List.setIfInBounds_toArray, List.set_cons_zero, List.set_cons_succ, i64_w, i32_w]; rfl) ?_
          refine off_ (i := 6) (N := (some 36)) #[true, true, true, true, true, true, true, false, false, false, false, false, false, false, false, false, false, false, false, false, false, false, false, false, false, false, false, false, false, false, false, false, false, false, false] rfl rfl (by kernel_rfl) (fun _ _ _ h => h) (by rfl) (by simp only [Act.put, List.setIfInBounds_toArray, List.set_cons_zero, List.set_cons_succ, i64_w, i32_w]; rfl) ?_
          refine off_ (i := 7) (N := (some 37)) #[true, true, true, true, true, true, true, true, false, false, false, false, false, false, false, false, false, false, false, false, false, false, false, false, false, false, false, false, false, false, false, false, false, false, false] rfl rfl (by kernel_rfl) (fun _ _ _ h => h) (by rfl) (by simp only [Act.put, List.setIfInBounds_toArray, List.set_cons_zero, List.set_cons_succ, i64_w, i32_w]; rfl) ?_
          refine off_ (i := 8) (N := (some 38)) #[true, true, true, true, true, true, true, true, true, false, false, false, false, false, false, false, false, false, false, false, false, false, false, false, false, false, false, false, false, false, false, false, false, false, false] rfl rfl (by kernel_rfl) (fun _ _ _ h => h) (by rfl) (by simp only [Act.put, List.setIfInBounds_toArray, List.set_cons_zero, List.set_cons_succ, i64_w, i32_w]; rfl) ?_
          refine off_ (i := 9) (N := (some 39)) #[true, true, true, true, true, true, true, true, true, true, false, false, false, false, false, false, false, false, false, false, false, false, false, false, false, false, false, false, false, false, false, false, false, false, false] rfl rfl (by kernel_rfl) (fun _ _ _ h => h) (by rfl) (by simp only [Act.put, List.setIfInBounds_toArray, List.set_cons_zero, List.set_cons_succ, i64_w, i32_w]; rfl) ?_
          refine off_ (i := 10) (N := (some 40)) #[true, true, true, true, true, true, true, true, true, true, true, false, false, false, false, false, false, false, false, false, false, false, false, false, false, false, false, false, false, false, false, false, false, false, false] rfl rfl (by kernel_rfl) (fun _ _ _ h => h) (by rfl) (by simp only [Act.put, List.setIfInBounds_toArray, List.set_cons_zero, List.set_cons_succ, i64_w, i32_w]; rfl) ?_
          refine off_ (i := 11) (N := (some 41)) #[true, true, true, true, true, true, true, true, true, true, true, true, false, false, false, false, false, false, false, false, false, false, false, false, false, false, false, false, false, false, false, false, false, false, false] rfl rfl (by kernel_rfl) (fun _ _ _ h => h) (by rfl) (by simp only [Act.put, List.setIfInBounds_toArray, List.set_cons_zero, List.set_cons_succ, i64_w, i32_w]; rfl) ?_
          refine off_ (i := 12) (N := (some 42)) #[true, true, true, true, true, true, true, true, true, true, true, true, true, false, false, false, false, false, false, false, false, false, false, false, false, false, false, false, false, false, false, false, false, false, false] rfl rfl (by kernel_rfl) (fun _ _ _ h => h) (by rfl) (by simp only [Act.put, List.setIfInBounds_toArray, List.set_cons_zero, List.set_cons_succ, i64_w, i32_w]; rfl) ?_
          refine off_ (i := 13) (N := (some 43)) #[true, true, true, true, true, true, true, true, true, true, true, true, true, true, false, false, false, false, false, false, false, false, false, false, false, false, false, false, false, false, false, false, false, false, false] rfl rfl (by kernel_rfl) (fun _ _ _ h => h) (by rfl) (by simp only [Act.put, List.setIfInBounds_toArray, List.set_cons_zero, List.set_cons_succ, i64_w, i32_w]; rfl) ?_
          refine off_ (i := 14) (N := (some 44)) #[true, true, true, true, true, true, true, true, true, true, true, true, true, true, true, false, false, false, false, false, false, false, false, false, false, false, false, false, false, false, false, false, false, false, false] rfl rfl (by kernel_rfl) (fun _ _ _ h => h) (by rfl) (by simp only [Act.put, List.setIfInBounds_toArray, List.set_cons_zero, List.set_cons_succ, i64_w, i32_w]; rfl) ?_
          refine off_ (i := 15) (N := (some 45)) #[true, true, true, true, true, true, true, true, true, true, true, true, true, true, true, true, false, false, false, false, false, false, false, false, false, false, false, false, false, false, false, false, false, false, false] rfl rfl (by kernel_rfl) (fun _ _ _ h => h) (by rfl) (by simp only [Act.put, List.setIfInBounds_toArray, List.set_cons_zero, List.set_cons_succ, i64_w, i32_w]; rfl) ?_
          refine off_ (i := 16) (N := (some 46)) #[true, true, true, true, true, true, true, true, true, true, true, true, true, true, true, true, true, false, false, false, false, false, false, false, false, false, false, false, false, false, false, false, false, false, false] rfl rfl (by kernel_rfl) (fun _ _ _ h => h) (by rfl) (by simp only [Act.put, List.setIfInBounds_toArray, List.set_cons_zero, List.set_cons_succ, i64_w, i32_w]; rfl) ?_
          refine off_ (i := 17) (N := (some 47)) #[true, true, true, true, true, true, true, true, true, true, true, true, true, true, true, true, true, true, false, false, false, false, false, false, false, false, false, false, false, false, false, false, false, false, false] rfl rfl (by kernel_rfl) (fun _ _ _ h => h) (by rfl) (by simp only [Act.put, List.setIfInBounds_toArray, List.set_cons_zero, List.set_cons_succ, i64_w, i32_w]; rfl) ?_
          refine off_ (i := 18) (N := (some 48)) #[true, true, true, true, true, true, true, true, true, true, true, true, true, true, true, true, true, true, true, false, false, false, false, false, false, false, false, false, false, false, false, false, false, false, false] rfl rfl (by kernel_rfl) (fun _ _ _ h => h) (by rfl) (by simp only [Act.put, List.setIfInBounds_toArray, List.set_cons_zero, List.set_cons_succ, i64_w, i32_w]; rfl) ?_
          refine off_ (i := 19) (N := (some 49)) #[true, true, true, true, true, true, true, true, true, true, true, true, true, true, true, true, true, true, true, true, false, false, false, false, false, false, false, false, false, false, false, false, false, false, false] rfl rfl (by kernel_rfl) (fun _ _ _ h => h) (by rfl) (by simp only [Act.put, List.setIfInBounds_toArray, List.set_cons_zero, List.set_cons_succ, i64_w, i32_w]; rfl) ?_
          refine off_ (i := 20) (N := (some 50)) #[true, true, true, true, true, true, true, true, true, true, true, true, true, true, true, true, true, true, true, true, true, false, false, false, false, false, false, false, false, false, false, false, false, false, false] rfl rfl (by kernel_rfl) (fun _ _ _ h => h) (by rfl) (by simp only [Act.put, List.setIfInBounds_toArray, List.set_cons_zero, List.set_cons_succ, i64_w, i32_w]; rfl) ?_
          refine off_ (i := 21) (N := (some 51)) #[true, true, true, true, true, true, true, true, true, true, true, true, true, true, true, true, true, true, true, true, true, true, false, false, false, false, false, false, false, false, false, false, false, false, false] rfl rfl (by kernel_rfl) (fun _ _ _ h => h) (by rfl) (by simp only [Act.put, List.setIfInBounds_toArray, List.set_cons_zero, List.set_cons_succ, i64_w, i32_w]; rfl) ?_
          refine off_ (i := 22) (N := (some 52)) #[true, true, true, true, true, true, true, true, true, true, true, true, true, true, true, true, true, true, true, true, true, true, true, false, false, false, false, false, false, false, false, false, false, false, false] rfl rfl (by kernel_rfl) (fun _ _ _ h => h) (by rfl) (by simp only [Act.put, List.setIfInBounds_toArray, List.set_cons_zero, List.set_cons_succ, i64_w, i32_w]; rfl) ?_
          refine off_ (i := 23) (N := (some 53)) #[true, true, true, true, true, true, true, true, true, true, true, true, true, true, true, true, true, true, true, true, true, true, true, true, false, false, false, false, false, false, false, false, false, false, false] rfl rfl (by kernel_rfl) (fun _ _ _ h => h) (by rfl) (by simp only [Act.put, List.setIfInBounds_toArray, List.set_cons_zero, List.set_cons_succ, i64_w, i32_w]; rfl) ?_
          refine off_ (i := 24) (N := (some 54)) #[true, true, true, true, true, true, true, true, true, true, true, true, true, true, true, true, true, true, true, true, true, true, true, true, true, false, false, false, false, false, false, false, false, false, false] rfl rfl (by kernel_rfl) (fun _ _ _ h => h) (by rfl) (by simp only [Act.put, List.setIfInBounds_toArray, List.set_cons_zero, List.set_cons_succ, i64_w, i32_w]; rfl) ?_
          refine off_ (i := 25) (N := (some 55)) #[true, true, true, true, true, true, true, true, true, true, true, true, true, true, true, true, true, true, true, true, true, true, true, true, true, true, false, false, false, false, false, false, false, false, false] rfl rfl (by kernel_rfl) (fun _ _ _ h => h) (by rfl) (by simp only [Act.put, List.setIfInBounds_toArray, List.set_cons_zero, List.set_cons_succ, i64_w, i32_w]; rfl) ?_
          refine off_ (i := 26) (N := (some 56)) #[true, true, true, true, true, true, true, true, true, true, true, true, true, true, true, true, true, true, true, true, true, true, true, true, true, true, true, false, false, false, false, false, false, false, false] rfl rfl (by kernel_rfl) (fun _ _ _ h => h) (by rfl) (by simp only [Act.put, List.setIfInBounds_toArray, List.set_cons_zero, List.set_cons_succ, i64_w, i32_w]; rfl) ?_
          refine off_ (i := 27) (N := (some 57)) #[true, true, true, true, true, true, true, true, true, true, true, true, true, true, true, true, true, true, true, true, true, true, true, true, true, true, true, true, false, false, false, false, false, false, false] rfl rfl (by kernel_rfl) (fun _ _ _ h => h) (by rfl) (by simp only [Act.put, List.setIfInBounds_toArray, List.set_cons_zero, List.set_cons_succ, i64_w, i32_w]; rfl) ?_
          refine off_ (i := 28) (N := (some 58)) #[true, true, true, true, true, true, true, true, true, true, true, true, true, true, true, true, true, true, true, true, true, true, true, true, true, true, true, true, true, false, false, false, false, false, false] rfl rfl (by kernel_rfl) (fun _ _ _ h => h) (by rfl) (by simp only [Act.put, List.setIfInBounds_toArray, List.set_cons_zero, List.set_cons_succ, i64_w, i32_w]; rfl) ?_
          refine off_ (i := 29) (N := (some 59)) #[true, true, true, true, true, true, true, true, true, true, true, true, true, true, true, true, true, true, true, true, true, true, true, true, true, true, true, true, true, true, false, false, false, false, false] rfl rfl (by kernel_rfl) (fun _ _ _ h => h) (by rfl) (by simp only [Act.put, List.setIfInBounds_toArray, List.set_cons_zero, List.set_cons_succ, i64_w, i32_w]; rfl) ?_
          refine off_ (i := 30) (N := (some 60)) #[true, true, true, true, true, true, true, true, true, true, true, true, true, true, true, true, true, true, true, true, true, true, true, true, true, true, true, true, true, true, true, false, false, false, false] rfl rfl (by kernel_rfl) (fun _ _ _ h => h) (by rfl) (by simp only [Act.put, List.setIfInBounds_toArray, List.set_cons_zero, List.set_cons_succ, i64_w, i32_w]; rfl) ?_
          refine off_ (i := 31) (N := (some 61)) #[true, true, true, true, true, true, true, true, true, true, true, true, true, true, true, true, true, true, true, true, true, true, true, true, true, true, true, true, true, true, true, true, false, false, false] rfl rfl (by kernel_rfl) (fun _ _ _ h => h) (by rfl) (by simp only [Act.put, List.setIfInBounds_toArray, List.set_cons_zero, List.set_cons_succ, i64_w, i32_w]; rfl) ?_
          refine off_ (i := 32) (N := (some 62)) #[true, true, true, true, true, true, true, true, true, true, true, true, true, true, true, true, true, true, true, true, true, true, true, true, true, true, true, true, true, true, true, true, true, false, false] rfl rfl (by kernel_rfl) (fun _ _ _ h => h) (by rfl) (by simp only [Act.put, List.setIfInBounds_toArray, List.set_cons_zero, List.set_cons_succ, i64_w, i32_w]; rfl) ?_
          refine off_ (i := 33) (N := (some 63)) #[true, true, true, true, true, true, true, true, true, true, true, true, true, true, true, true, true, true, true, true, true, true, true, true, true, true, true, true, true, true, true, true, true, true, false] rfl rfl (by kernel_rfl) (fun _ _ _ h => h) (by rfl) (by simp only [Act.put, List.setIfInBounds_toArray, List.set_cons_zero, List.set_cons_succ, i64_w, i32_w]; rfl) ?_
          refine pure_ (i := 34) (N := (some 64)) (v := ?_) (a' := ?_) #[true, true, true, true, true, true, true, true, true, true, true, true, true, true, true, true, true, true, true, true, true, true, true, true, true, true, true, true, true, true, true, true, true, true, true] rfl rfl (by kernel_rfl) (fun _ _ _ h => h) (Or.inl ⟨by rfl, ?_⟩) ?_ ?_
          rotate_left
          · intro w'; go_simp; first | done | with_reducible rfl
          rotate_left
          · simp only [Act.put, List.setIfInBounds_toArray, List.set_cons_zero, List.set_cons_succ, i64_w, i32_w]; rfl
          refine done_ (by kernel_rfl) ?_
          clear q0 q1 h0 h1 hHeld
          go_wp2_with fail
          exact ⟨⟨0 + 1, by omega, by go_num, Lib.hid (goodTo_next HG.out HGK.out), Lib.hid HBA.out.drew⟩, by simp [intOf]; omega⟩
        · obtain ⟨m, rfl⟩ : ∃ m, k = m + 1 := ⟨k - 1, by omega⟩
          have q2 := HPA.out.c0 m (by omega)
          have q3 := HPA.out.c1 m (by omega)
          have hmn : m < n := by omega
          have hwm : wrap64 (m : Int) = m := by unfold wrap64; omega
          have hci := cmpP_iff (x m) (y m) (x (m + 1)) (y (m + 1))
          by_cases g1 : x m > x (m + 1)
          · have HGN := HGN (fun q => by
              have := q.2
              simp at this
              rw [hci] at this
              omega)
            clear hci
            refine start_ (n := 35) (S := fun w' => w'.cell? ⟨G, 0, none⟩ = some (.int .i64 (x (m + 1))) ∧ w'.cell? ⟨G, 1, none⟩ = some (.int .i64 (y (m + 1))) ∧ w'.cell? ⟨b, off + m * 2, none⟩ = some (.int .i64 (x m)) ∧ w'.cell? ⟨b, off + m * 2 + 1, none⟩ = some (.int .i64 (y m))) (ds := []) #[false, false, false, false, false, false, false, false, false, false, false, false, false, false, false, false, false, false, false, false, false, false, false, false, false, false, false, false, false, false, false, false, false, false, false] (by kernel_rfl) rfl rfl ⟨by simpa using q0, by simpa using q1, by simpa using q2, by simpa using q3⟩ (fun hHeld => ?_)
            refine pure_ (i := 0) (N := (some 30)) (v := ?_) (a' := ?_) #[true, false, false, false, false, false, false, false, false, false, false, false, false, false, false, false, false, false, false, false, false, false, false, false, false, false, false, false, false, false, false, false, false, false, false] rfl rfl (by kernel_rfl) (fun _ _ _ h => h) (Or.inl ⟨by rfl, ?_⟩) ?_ ?_
            rotate_left
            · intro w'; go_simp; first | done | with_reducible rfl
            rotate_left
            · simp only [Act.put, List.setIfInBounds_toArray, List.set_cons_zero, List.set_cons_succ, i64_w, i32_w]; rfl
            refine pure_ (i := 1) (N := (some 31)) (v := (.bool true)) (a' := ?_) #[true, true, false, false, false, false, false, false, false, false, false, false, false, false, false, false, false, false, false, false, false, false, false, false, false, false, false, false, false, false, false, false, false, false, false] rfl rfl (by kernel_rfl) (fun _ _ _ h => h) (Or.inl ⟨by rfl, ?_⟩) ?_ ?_
            · intro w'; go_simp; first | done | with_reducible rfl
            rotate_left
            · simp only [Act.put, List.setIfInBounds_toArray, List.set_cons_zero, List.set_cons_succ, i64_w, i32_w]; rfl
            refine pure_ (i := 2) (N := (some 32)) (v := ?_) (a' := ?_) #[true, true, true, false, false, false, false, false, false, false, false, false, false, false, false, false, false, false, false, false, false, false, false, false, false, false, false, false, false, false, false, false, false, false, false] rfl rfl (by kernel_rfl) (fun _ _ _ h => h) (Or.inl ⟨by rfl, ?_⟩) ?_ ?_
            rotate_left
            · intro w'; go_simp; first | done | with_reducible rfl
            rotate_left
            · simp only [Act.put, List.setIfInBounds_toArray, List.set_cons_zero, List.set_cons_succ, i64_w, i32_w]; rfl
            refine pure_ (i := 3) (N := (some 33)) (v := ?_) (a' := ?_) #[true, true, true, true, false, false, false, false, false, false, false, false, false, false, false, false, false, false, false, false, false, false, false, false, false, false, false, false, false, false, false, false, false, false, false] rfl rfl (by kernel_rfl) (fun _ _ _ h => h) (Or.inl ⟨by rfl, ?_⟩) ?_ ?_
            rotate_left
            · intro w'; go_simp; first | done | with_reducible rfl
            rotate_left
            · simp only [Act.put, List.setIfInBounds_toArray, List.set_cons_zero, List.set_cons_succ, i64_w, i32_w]; rfl
            refine pure_ (i := 4) (N := (some 34)) (v := ?_) (a' := ?_) #[true, true, true, true, true, false, false, false, false, false, false, false, false, false, false, false, false, false, false, false, false, false, false, false, false, false, false, false, false, false, false, false, false, false, false] rfl rfl (by kernel_rfl) (fun _ _ _ h => h) (Or.inl ⟨by rfl, ?_⟩) ?_ ?_
            rotate_left
            · intro w'; go_simp; first | done | with_reducible rfl
            rotate_left
            · simp only [Act.put, List.setIfInBounds_toArray, List.set_cons_zero, List.set_cons_succ, i64_w, i32_w]; rfl
            refine pure_ (i := 5) (N := (some 35)) (v := ?_) (a' := ?_) #[true, true, true, true, true, true, false, false, false, false, false, false, false, false, false, false, false, false, false, false, false, false, false, false, false, false, false, false, false, false, false, false, false, false, false] rfl rfl (by kernel_rfl) (fun _ _ _ h => h) (Or.inl ⟨by rfl, ?_⟩) ?_ ?_
            rotate_left
            · intro w'; go_simp; first | done | with_reducible rfl
            rotate_left
            · simp only [Act.put, List.setIfInBounds_toArray, List.set_cons_zero, List.set_cons_succ, i64_w, i32_w]; rfl
            refine pure_ (i := 6) (N := (some 36)) (v := ?_) (a' := ?_) #[true, true, true, true, true, true, true, false, false, false, false, false, false, false, false, false, false, false, false, false, false, false, false, false, false, false, false, false, false, false, false, false, false, false, false] rfl rfl (by kernel_rfl) (fun _ _ _ h => h) (Or.inl ⟨by rfl, ?_⟩) ?_ ?_
            rotate_left
            · intro w'; go_simp; first | done | with_reducible rfl
            rotate_left
            · simp only [Act.put, List.setIfInBounds_toArray, List.set_cons_zero, List.set_cons_succ, i64_w, i32_w]; rfl
            refine pure_ (i := 7) (N := (some 37)) (v := ?_) (a' := ?_) #[true, true, true, true, true, true, true, true, false, false, false, false, false, false, false, false, false, false, false, false, false, false, false, false, false, false, false, false, false, false, false, false, false, false, false] rfl rfl (by kernel_rfl) (fun _ _ _ h => h) (Or.inl ⟨by rfl, ?_⟩) ?_ ?_
            rotate_left
            · intro w'; go_simp; first | done | with_reducible rfl
            rotate_left
            · simp only [Act.put, List.setIfInBounds_toArray, List.set_cons_zero, List.set_cons_succ, i64_w, i32_w]; rfl
            refine take_ (i := 8) (N := (some 38)) (v := ?_) (a' := ?_) #[true, true, true, true, true, true, true, true, true, false, false, false, false, false, false, false, false, false, false, false, false, false, false, false, false, false, false, false, false, false, false, false, false, false, false] rfl rfl (by kernel_rfl) (fun _ _ _ h => h) (Or.inl ⟨by rfl, ?_⟩) hHeld ?_ ?_
            rotate_left
            · rintro w' ⟨s0, s1, s2, s3⟩; go_simp; first | done | with_reducible rfl
            rotate_left
            · simp only [Act.put, List.setIfInBounds_toArray, List.set_cons_zero, List.set_cons_succ, i64_w, i32_w]; rfl
            refine pure_ (i := 9) (N := (some 39)) (v := ?_) (a' := ?_) #[true, true, true, true, true, true, true, true, true, true, false, false, false, false, false, false, false, false, false, false, false, false, false, false, false, false, false, false, false, false, false, false, false, false, false] rfl rfl (by kernel_rfl) (fun _ _ _ h => h) (Or.inl ⟨by rfl, ?_⟩) ?_ ?_
            rotate_left
            · intro w'; go_simp; first | done | with_reducible rfl
            rotate_left
            · simp only [Act.put, List.setIfInBounds_toArray, List.set_cons_zero, List.set_cons_succ, i64_w, i32_w]; rfl
            refine take_ (i := 10) (N := (some 40)) (v := ?_) (a' := ?_) #[true, true, true, true, true, true, true, true, true, true, true, false, false, false, false, false, false, false, false, false, false, false, false, false, false, false, false, false, false, false, false, false, false, false, false] rfl rfl (by kernel_rfl) (fun _ _ _ h => h) (Or.inl ⟨by rfl, ?_⟩) hHeld ?_ ?_
            rotate_left
            · rintro w' ⟨s0, s1, s2, s3⟩; go_simp; first | done | with_reducible rfl
            rotate_left
            · simp only [Act.put, List.setIfInBounds_toArray, List.set_cons_zero, List.set_cons_succ, i64_w, i32_w]; rfl
            refine pure_ (i := 11) (N := (some 41)) (v := (.bool true)) (a' := ?_) #[true, true, true, true, true, true, true, true, true, true, true, true, false, false, false, false, false, false, false, false, false, false, false, false, false, false, false, false, false, false, false, false, false, false, false] rfl rfl (by kernel_rfl) (fun _ _ _ h => h) (Or.inl ⟨by rfl, ?_⟩) ?_ ?_
            · intro w'; go_simp; first | done | with_reducible rfl
            rotate_left
            · simp only [Act.put, List.setIfInBounds_toArray, List.set_cons_zero, List.set_cons_succ, i64_w, i32_w]; rfl
            refine pure_ (i := 12) (N := (some 42)) (v := ?_) (a' := ?_) #[true, true, true, true, true, true, true, true, true, true, true, true, true, false, false, false, false, false, false, false, false, false, false, false, false, false, false, false, false, false, false, false, false, false, false] rfl rfl (by kernel_rfl) (fun _ _ _ h => h) (Or.inl ⟨by rfl, ?_⟩) ?_ ?_
            rotate_left
            · intro w'; go_simp; first | done | with_reducible rfl
            rotate_left
            · simp only [Act.put, List.setIfInBounds_toArray, List.set_cons_zero, List.set_cons_succ, i64_w, i32_w]; rfl
            refine off_ (i := 13) (N := (some 43)) #[true, true, true, true, true, true, true, true, true, true, true, true, true, true, false, false, false, false, false, false, false, false, false, false, false, false, false, false, false, false, false, false, false, false, false] rfl rfl (by kernel_rfl) (fun _ _ _ h => h) (by rfl) (by simp only [Act.put, List.setIfInBounds_toArray, List.set_cons_zero, List.set_cons_succ, i64_w, i32_w]; rfl) ?_
            refine off_ (i := 14) (N := (some 44)) #[true, true, true, true, true, true, true, true, true, true, true, true, true, true, true, false, false, false, false, false, false, false, false, false, false, false, false, false, false, false, false, false, false, false, false] rfl rfl (by kernel_rfl) (fun _ _ _ h => h) (by rfl) (by simp only [Act.put, List.setIfInBounds_toArray, List.set_cons_zero, List.set_cons_succ, i64_w, i32_w]; rfl) ?_
            refine off_ (i := 15) (N := (some 45)) #[true, true, true, true, true, true, true, true, true, true, true, true, true, true, true, true, false, false, false, false, false, false, false, false, false, false, false, false, false, false, false, false, false, false, false] rfl rfl (by kernel_rfl) (fun _ _ _ h => h) (by rfl) (by simp only [Act.put, List.setIfInBounds_toArray, List.set_cons_zero, List.set_cons_succ, i64_w, i32_w]; rfl) ?_
            refine off_ (i := 16) (N := (some 46)) #[true, true, true, true, true, true, true, true, true, true, true, true, true, true, true, true, true, false, false, false, false, false, false, false, false, false, false, false, false, false, false, false, false, false, false] rfl rfl (by kernel_rfl) (fun _ _ _ h => h) (by rfl) (by simp only [Act.put, List.setIfInBounds_toArray, List.set_cons_zero, List.set_cons_succ, i64_w, i32_w]; rfl) ?_
            refine off_ (i := 17) (N := (some 47)) #[true, true, true, true, true, true, true, true, true, true, true, true, true, true, true, true, true, true, false, false, false, false, false, false, false, false, false, false, false, false, false, false, false, false, false] rfl rfl (by kernel_rfl) (fun _ _ _ h => h) (by rfl) (by simp only [Act.put, List.setIfInBounds_toArray, List.set_cons_zero, List.set_cons_succ, i64_w, i32_w]; rfl) ?_
            refine off_ (i := 18) (N := (some 48)) #[true, true, true, true, true, true, true, true, true, true, true, true, true, true, true, true, true, true, true, false, false, false, false, false, false, false, false, false, false, false, false, false, false, false, false] rfl rfl (by kernel_rfl) (fun _ _ _ h => h) (by rfl) (by simp only [Act.put, List.setIfInBounds_toArray, List.set_cons_zero, List.set_cons_succ, i64_w, i32_w]; rfl) ?_
            refine off_ (i := 19) (N := (some 49)) #[true, true, true, true, true, true, true, true, true, true, true, true, true, true, true, true, true, true, true, true, false, false, false, false, false, false, false, false, false, false, false, false, false, false, false] rfl rfl (by kernel_rfl) (fun _ _ _ h => h) (by rfl) (by simp only [Act.put, List.setIfInBounds_toArray, List.set_cons_zero, List.set_cons_succ, i64_w, i32_w]; rfl) ?_
            refine off_ (i := 20) (N := (some 50)) #[true, true, true, true, true, true, true, true, true, true, true, true, true, true, true, true, true, true, true, true, true, false, false, false, false, false, false, false, false, false, false, false, false, false, false] rfl rfl (by kernel_rfl) (fun _ _ _ h => h) (by rfl) (by simp only [Act.put, List.setIfInBounds_toArray, List.set_cons_zero, List.set_cons_succ, i64_w, i32_w]; rfl) ?_
            refine off_ (i := 21) (N := (some 51)) #[true, true, true, true, true, true, true, true, true, true, true, true, true, true, true, true, true, true, true, true, true, true, false, false, false, false, false, false, false, false, false, false, false, false, false] rfl rfl (by kernel_rfl) (fun _ _ _ h => h) (by rfl) (by simp only [Act.put, List.setIfInBounds_toArray, List.set_cons_zero, List.set_cons_succ, i64_w, i32_w]; rfl) ?_
            refine off_ (i := 22) (N := (some 52)) #[true, true, true, true, true, true, true, true, true, true, true, true, true, true, true, true, true, true, true, true, true, true, true, false, false, false, false, false, false, false, false, false, false, false, false] rfl rfl (by kernel_rfl) (fun _ _ _ h => h) (by rfl) (by simp only [Act.put, List.setIfInBounds_toArray, List.set_cons_zero, List.set_cons_succ, i64_w, i32_w]; rfl) ?_
            refine off_ (i := 23) (N := (some 53)) #[true, true, true, true, true, true, true, true, true, true, true, true, true, true, true, true, true, true, true, true, true, true, true, true, false, false, false, false, false, false, false, false, false, false, false] rfl rfl (by kernel_rfl) (fun _ _ _ h => h) (by rfl) (by simp only [Act.put, List.setIfInBounds_toArray, List.set_cons_zero, List.set_cons_succ, i64_w, i32_w]; rfl) ?_
            refine off_ (i := 24) (N := (some 54)) #[true, true, true, true, true, true, true, true, true, true, true, true, true, true, true, true, true, true, true, true, true, true, true, true, true, false, false, false, false, false, false, false, false, false, false] rfl rfl (by kernel_rfl) (fun _ _ _ h => h) (by rfl) (by simp only [Act.put, List.setIfInBounds_toArray, List.set_cons_zero, List.set_cons_succ, i64_w, i32_w]; rfl) ?_
            refine off_ (i := 25) (N := (some 55)) #[true, true, true, true, true, true, true, true, true, true, true, true, true, true, true, true, true, true, true, true, true, true, true, true, true, true, false, false, false, false, false, false, false, false, false] rfl rfl (by kernel_rfl) (fun _ _ _ h => h) (by rfl) (by simp only [Act.put, List.setIfInBounds_toArray, List.set_cons_zero, List.set_cons_succ, i64_w, i32_w]; rfl) ?_
            refine off_ (i := 26) (N := (some 56)) #[true, true, true, true, true, true, true, true, true, true, true, true, true, true, true, true, true, true, true, true, true, true, true, true, true, true, true, false, false, false, false, false, false, false, false] rfl rfl (by kernel_rfl) (fun _ _ _ h => h) (by rfl) (by simp only [Act.put, List.setIfInBounds_toArray, List.set_cons_zero, List.set_cons_succ, i64_w, i32_w]; rfl) ?_
            refine off_ (i := 27) (N := (some 57)) #[true, true, true, true, true, true, true, true, true, true, true, true, true, true, true, true, true, true, true, true, true, true, true, true, true, true, true, true, false, false, false, false, false, false, false] rfl rfl (by kernel_rfl) (fun _ _ _ h => h) (by rfl) (by simp only [Act.put, List.setIfInBounds_toArray, List.set_cons_zero, List.set_cons_succ, i64_w, i32_w]; rfl) ?_
            refine off_ (i := 28) (N := (some 58)) #[true, true, true, true, true, true, true, true, true, true, true, true, true, true, true, true, true, true, true, true, true, true, true, true, true, true, true, true, true, false, false, false, false, false, false] rfl rfl (by kernel_rfl) (fun _ _ _ h => h) (by rfl) (by simp only [Act.put, List.setIfInBounds_toArray, List.set_cons_zero, List.set_cons_succ, i64_w, i32_w]; rfl) ?_
            refine off_ (i := 29) (N := (some 59)) #[true, true, true, true, true, true, true, true, true, true, true, true, true, true, true, true, true, true, true, true, true, true, true, true, true, true, true, true, true, true, false, false, false, false, false] rfl rfl (by kernel_rfl) (fun _ _ _ h => h) (by rfl) (by simp only [Act.put, List.setIfInBounds_toArray, List.set_cons_zero, List.set_cons_succ, i64_w, i32_w]; rfl) ?_
            refine off_ (i := 30) (N := (some 60)) #[true, true, true, true, true, true, true, true, true, true, true, true, true, true, true, true, true, true, true, true, true, true, true, true, true, true, true, true, true, true, true, false, false, false, false] rfl rfl (by kernel_rfl) (fun _ _ _ h => h) (by rfl) (by simp only [Act.put, List.setIfInBounds_toArray, List.set_cons_zero, List.set_cons_succ, i64_w, i32_w]; rfl) ?_
            refine off_ (i := 31) (N := (some 61)) #[true, true, true, true, true, true, true, true, true, true, true, true, true, true, true, true, true, true, true, true, true, true, true, true, true, true, true, true, true, true, true, true, false, false, false] rfl rfl (by kernel_rfl) (fun _ _ _ h => h) (by rfl) (by simp only [Act.put, List.setIfInBounds_toArray, List.set_cons_zero, List.set_cons_succ, i64_w, i32_w]; rfl) ?_
            refine off_ (i := 32) (N := (some 62)) #[true, true, true, true, true, true, true, true, true, true, true, true, true, true, true, true, true, true, true, true, true, true, true, true, true, true, true, true, true, true, true, true, true, false, false] rfl rfl (by kernel_rfl) (fun _ _ _ h => h) (by rfl) (by simp only [Act.put, List.setIfInBounds_toArray, List.set_cons_zero, List.set_cons_succ, i64_w, i32_w]; rfl) ?_
            refine pure_ (i := 33) (N := (some 63)) (v := ?_) (a' := ?_) #[true, true, true, true, true, true, true, true, true, true, true, true, true, true, true, true, true, true, true, true, true, true, true, true, true, true, true, true, true, true, true, true, true, true, false] rfl rfl (by kernel_rfl) (fun _ _ _ h => h) (Or.inl ⟨by rfl, ?_⟩) ?_ ?_
            rotate_left
            · intro w'; go_simp; first | done | with_reducible rfl
            rotate_left
            · simp only [Act.put, List.setIfInBounds_toArray, List.set_cons_zero, List.set_cons_succ, i64_w, i32_w]; rfl
            refine pure_ (i := 34) (N := (some 64)) (v := ?_) (a' := ?_) #[true, true, true, true, true, true, true, true, true, true, true, true, true, true, true, true, true, true, true, true, true, true, true, true, true, true, true, true, true, true, true, true, true, true, true] rfl rfl (by kernel_rfl) (fun _ _ _ h => h) (Or.inl ⟨by rfl, ?_⟩) ?_ ?_
            rotate_left
            · intro w'; go_simp; first | done | with_reducible rfl
            rotate_left
            · simp only [Act.put, List.setIfInBounds_toArray, List.set_cons_zero, List.set_cons_succ, i64_w, i32_w]; rfl
            refine done_ (by kernel_rfl) ?_
            clear q2 q3 q0 q1 h0 h1 hHeld
            go_wp2
            go_ret
            exact ⟨by rw [goodL_no HGN.out]; rfl, HBA.out.drew⟩
          · by_cases g2 : x m = x (m + 1)
            · by_cases g3 : y m ≥ y (m + 1)
              · have HGN := HGN (fun q => by
                  have := q.2
                  simp at this
                  rw [hci] at this
                  omega)
                clear hci
                refine start_ (n := 35) (S := fun w' => w'.cell? ⟨G, 0, none⟩ = some (.int .i64 (x (m + 1))) ∧ w'.cell? ⟨G, 1, none⟩ = some (.int .i64 (y (m + 1))) ∧ w'.cell? ⟨b, off + m * 2, none⟩ = some (.int .i64 (x m)) ∧ w'.cell? ⟨b, off + m * 2 + 1, none⟩ = some (.int .i64 (y m))) (ds := []) #[false, false, false, false, false, false, false, false, false, false, false, false, false, false, false, false, false, false, false, false, false, false, false, false, false, false, false, false, false, false, false, false, false, false, false] (by kernel_rfl) rfl rfl ⟨by simpa using q0, by simpa using q1, by simpa using q2, by simpa using q3⟩ (fun hHeld => ?_)
                refine pure_ (i := 0) (N := (some 30)) (v := ?_) (a' := ?_) #[true, false, false, false, false, false, false, false, false, false, false, false, false, false, false, false, false, false, false, false, false, false, false, false, false, false, false, false, false, false, false, false, false, false, false] rfl rfl (by kernel_rfl) (fun _ _ _ h => h) (Or.inl ⟨by rfl, ?_⟩) ?_ ?_
                rotate_left
                · intro w'; go_simp; first | done | with_reducible rfl
                rotate_left
                · simp only [Act.put, List.setIfInBounds_toArray, List.set_cons_zero, List.set_cons_succ, i64_w, i32_w]; rfl
                refine pure_ (i := 1) (N := (some 31)) (v := (.bool true)) (a' := ?_) #[true, true, false, false, false, false, false, false, false, false, false, false, false, false, false, false, false, false, false, false, false, false, false, false, false, false, false, false, false, false, false, false, false, false, false] rfl rfl (by kernel_rfl) (fun _ _ _ h => h) (Or.inl ⟨by rfl, ?_⟩) ?_ ?_
                · intro w'; go_simp; first | done | with_reducible rfl
                rotate_left
                · simp only [Act.put, List.setIfInBounds_toArray, List.set_cons_zero, List.set_cons_succ, i64_w, i32_w]; rfl
                refine pure_ (i := 2) (N := (some 32)) (v := ?_) (a' := ?_) #[true, true, true, false, false, false, false, false, false, false, false, false, false, false, false, false, false, false, false, false, false, false, false, false, false, false, false, false, false, false, false, false, false, false, false] rfl rfl (by kernel_rfl) (fun _ _ _ h => h) (Or.inl ⟨by rfl, ?_⟩) ?_ ?_
                rotate_left
                · intro w'; go_simp; first | done | with_reducible rfl
                rotate_left
                · simp only [Act.put, List.setIfInBounds_toArray, List.set_cons_zero, List.set_cons_succ, i64_w, i32_w]; rfl
                refine pure_ (i := 3) (N := (some 33)) (v := ?_) (a' := ?_) #[true, true, true, true, false, false, false, false, false, false, false, false, false, false, false, false, false, false, false, false, false, false, false, false, false, false, false, false, false, false, false, false, false, false, false] rfl rfl (by kernel_rfl) (fun _ _ _ h => h) (Or.inl ⟨by rfl, ?_⟩) ?_ ?_
                rotate_left
                · intro w'; go_simp; first | done | with_reducible rfl
                rotate_left
                · simp only [Act.put, List.setIfInBounds_toArray, List.set_cons_zero, List.set_cons_succ, i64_w, i32_w]; rfl
                refine pure_ (i := 4) (N := (some 34)) (v := ?_) (a' := ?_) #[true, true, true, true, true, false, false, false, false, false, false, false, false, false, false, false, false, false, false, false, false, false, false, false, false, false, false, false, false, false, false, false, false, false, false] rfl rfl (by kernel_rfl) (fun _ _ _ h => h) (Or.inl ⟨by rfl, ?_⟩) ?_ ?_
                rotate_left
                · intro w'; go_simp; first | done | with_reducible rfl
                rotate_left
                · simp only [Act.put, List.setIfInBounds_toArray, List.set_cons_zero, List.set_cons_succ, i64_w, i32_w]; rfl
                refine pure_ (i := 5) (N := (some 35)) (v := ?_) (a' := ?_) #[true, true, true, true, true, true, false, false, false, false, false, false, false, false, false, false, false, false, false, false, false, false, false, false, false, false, false, false, false, false, false, false, false, false, false] rfl rfl (by kernel_rfl) (fun _ _ _ h => h) (Or.inl ⟨by rfl, ?_⟩) ?_ ?_
                rotate_left
                · intro w'; go_simp; first | done | with_reducible rfl
                rotate_left
                · simp only [Act.put, List.setIfInBounds_toArray, List.set_cons_zero, List.set_cons_succ, i64_w, i32_w]; rfl
                refine pure_ (i := 6) (N := (some 36)) (v := ?_) (a' := ?_) #[true, true, true, true, true, true, true, false, false, false, false, false, false, false, false, false, false, false, false, false, false, false, false, false, false, false, false, false, false, false, false, false, false, false, false] rfl rfl (by kernel_rfl) (fun _ _ _ h => h) (Or.inl ⟨by rfl, ?_⟩) ?_ ?_
                rotate_left
                · intro w'; go_simp; first | done | with_reducible rfl
                rotate_left
                · simp only [Act.put, List.setIfInBounds_toArray, List.set_cons_zero, List.set_cons_succ, i64_w, i32_w]; rfl
                refine pure_ (i := 7) (N := (some 37)) (v := ?_) (a' := ?_) #[true, true, true, true, true, true, true, true, false, false, false, false, false, false, false, false, false, false, false, false, false, false, false, false, false, false, false, false, false, false, false, false, false, false, false] rfl rfl (by kernel_rfl) (fun _ _ _ h => h) (Or.inl ⟨by rfl, ?_⟩) ?_ ?_
                rotate_left
                · intro w'; go_simp; first | done | with_reducible rfl
                rotate_left
                · simp only [Act.put, List.setIfInBounds_toArray, List.set_cons_zero, List.set_cons_succ, i64_w, i32_w]; rfl
                refine take_ (i := 8) (N := (some 38)) (v := ?_) (a' := ?_) #[true, true, true, true, true, true, true, true, true, false, false, false, false, false, false, false, false, false, false, false, false, false, false, false, false, false, false, false, false, false, false, false, false, false, false] rfl rfl (by kernel_rfl) (fun _ _ _ h => h) (Or.inl ⟨by rfl, ?_⟩) hHeld ?_ ?_
                rotate_left
                · rintro w' ⟨s0, s1, s2, s3⟩; go_simp; first | done | with_reducible rfl
                rotate_left
                · simp only [Act.put, List.setIfInBounds_toArray, List.set_cons_zero, List.set_cons_succ, i64_w, i32_w]; rfl
                refine pure_ (i := 9) (N := (some 39)) (v := ?_) (a' := ?_) #[true, true, true, true, true, true, true, true, true, true, false, false, false, false, false, false, false, false, false, false, false, false, false, false, false, false, false, false, false, false, false, false, false, false, false] rfl rfl (by kernel_rfl) (fun _ _ _ h => h) (Or.inl ⟨by rfl, ?_⟩) ?_ ?_
                rotate_left
                · intro w'; go_simp; first | done | with_reducible rfl
                rotate_left
                · simp only [Act.put, List.setIfInBounds_toArray, List.set_cons_zero, List.set_cons_succ, i64_w, i32_w]; rfl
                refine take_ (i := 10) (N := (some 40)) (v := ?_) (a' := ?_) #[true, true, true, true, true, true, true, true, true, true, true, false, false, false, false, false, false, false, false, false, false, false, false, false, false, false, false, false, false, false, false, false, false, false, false] rfl rfl (by kernel_rfl) (fun _ _ _ h => h) (Or.inl ⟨by rfl, ?_⟩) hHeld ?_ ?_
                rotate_left
                · rintro w' ⟨s0, s1, s2, s3⟩; go_simp; first | done | with_reducible rfl
                rotate_left
                · simp only [Act.put, List.setIfInBounds_toArray, List.set_cons_zero, List.set_cons_succ, i64_w, i32_w]; rfl
                refine pure_ (i := 11) (N := (some 41)) (v := (.bool false)) (a' := ?_) #[true, true, true, true, true, true, true, true, true, true, true, true, false, false, false, false, false, false, false, false, false, false, false, false, false, false, false, false, false, false, false, false, false, false, false] rfl rfl (by kernel_rfl) (fun _ _ _ h => h) (Or.inl ⟨by rfl, ?_⟩) ?_ ?_
                · intro w'; go_simp; first | done | with_reducible rfl
                rotate_left
                · simp only [Act.put, List.setIfInBounds_toArray, List.set_cons_zero, List.set_cons_succ, i64_w, i32_w]; rfl
                refine pure_ (i := 12) (N := (some 42)) (v := ?_) (a' := ?_) #[true, true, true, true, true, true, true, true, true, true, true, true, true, false, false, false, false, false, false, false, false, false, false, false, false, false, false, false, false, false, false, false, false, false, false] rfl rfl (by kernel_rfl) (fun _ _ _ h => h) (Or.inl ⟨by rfl, ?_⟩) ?_ ?_
                rotate_left
                · intro w'; go_simp; first | done | with_reducible rfl
                rotate_left
                · simp only [Act.put, List.setIfInBounds_toArray, List.set_cons_zero, List.set_cons_succ, i64_w, i32_w]; rfl
                refine pure_ (i := 13) (N := (some 43)) (v := ?_) (a' := ?_) #[true, true, true, true, true, true, true, true, true, true, true, true, true, true, false, false, false, false, false, false, false, false, false, false, false, false, false, false, false, false, false, false, false, false, false] rfl rfl (by kernel_rfl) (fun _ _ _ h => h) (Or.inl ⟨by rfl, ?_⟩) ?_ ?_
                rotate_left
                · intro w'; go_simp; first | done | with_reducible rfl
                rotate_left
                · simp only [Act.put, List.setIfInBounds_toArray, List.set_cons_zero, List.set_cons_succ, i64_w, i32_w]; rfl
                refine pure_ (i := 14) (N := (some 44)) (v := ?_) (a' := ?_) #[true, true, true, true, true, true, true, true, true, true, true, true, true, true, true, false, false, false, false, false, false, false, false, false, false, false, false, false, false, false, false, false, false, false, false] rfl rfl (by kernel_rfl) (fun _ _ _ h => h) (Or.inl ⟨by rfl, ?_⟩) ?_ ?_
                rotate_left
                · intro w'; go_simp; first | done | with_reducible rfl
                rotate_left
                · simp only [Act.put, List.setIfInBounds_toArray, List.set_cons_zero, List.set_cons_succ, i64_w, i32_w]; rfl
                refine pure_ (i := 15) (N := (some 45)) (v := ?_) (a' := ?_) #[true, true, true, true, true, true, true, true, true, true, true, true, true, true, true, true, false, false, false, false, false, false, false, false, false, false, false, false, false, false, false, false, false, false, false] rfl rfl (by kernel_rfl) (fun _ _ _ h => h) (Or.inl ⟨by rfl, ?_⟩) ?_ ?_
                rotate_left
                · intro w'; go_simp; first | done | with_reducible rfl
                rotate_left
                · simp only [Act.put, List.setIfInBounds_toArray, List.set_cons_zero, List.set_cons_succ, i64_w, i32_w]; rfl
                refine pure_ (i := 16) (N := (some 46)) (v := ?_) (a' := ?_) #[true, true, true, true, true, true, true, true, true, true, true, true, true, true, true, true, true, false, false, false, false, false, false, false, false, false, false, false, false, false, false, false, false, false, false] rfl rfl (by kernel_rfl) (fun _ _ _ h => h) (Or.inl ⟨by rfl, ?_⟩) ?_ ?_
                rotate_left
                · intro w'; go_simp; first | done | with_reducible rfl
                rotate_left
                · simp only [Act.put, List.setIfInBounds_toArray, List.set_cons_zero, List.set_cons_succ, i64_w, i32_w]; rfl
                refine pure_ (i := 17) (N := (some 47)) (v := ?_) (a' := ?_) #[true, true, true, true, true, true, true, true, true, true, true, true, true, true, true, true, true, true, false, false, false, false, false, false, false, false, false, false, false, false, false, false, false, false, false] rfl rfl (by kernel_rfl) (fun _ _ _ h => h) (Or.inl ⟨by rfl, ?_⟩) ?_ ?_
                rotate_left
                · intro w'; go_simp; first | done | with_reducible rfl
                rotate_left
                · simp only [Act.put, List.setIfInBounds_toArray, List.set_cons_zero, List.set_cons_succ, i64_w, i32_w]; rfl
                refine take_ (i := 18) (N := (some 48)) (v := ?_) (a' := ?_) #[true, true, true, true, true, true, true, true, true, true, true, true, true, true, true, true, true, true, true, false, false, false, false, false, false, false, false, false, false, false, false, false, false, false, false] rfl rfl (by kernel_rfl) (fun _ _ _ h => h) (Or.inl ⟨by rfl, ?_⟩) hHeld ?_ ?_
                rotate_left
                · rintro w' ⟨s0, s1, s2, s3⟩; go_simp; first | done | with_reducible rfl
                rotate_left
                · simp only [Act.put, List.setIfInBounds_toArray, List.set_cons_zero, List.set_cons_succ, i64_w, i32_w]; rfl
                refine pure_ (i := 19) (N := (some 49)) (v := ?_) (a' := ?_) #[true, true, true, true, true, true, true, true, true, true, true, true, true, true, true, true, true, true, true, true, false, false, false, false, false, false, false, false, false, false, false, false, false, false, false] rfl rfl (by kernel_rfl) (fun _ _ _ h => h) (Or.inl ⟨by rfl, ?_⟩) ?_ ?_
                rotate_left
                · intro w'; go_simp; first | done | with_reducible rfl
                rotate_left
                · simp only [Act.put, List.setIfInBounds_toArray, List.set_cons_zero, List.set_cons_succ, i64_w, i32_w]; rfl
                refine take_ (i := 20) (N := (some 50)) (v := ?_) (a' := ?_) #[true, true, true, true, true, true, true, true, true, true, true, true, true, true, true, true, true, true, true, true, true, false, false, false, false, false, false, false, false, false, false, false, false, false, false] rfl rfl (by kernel_rfl) (fun _ _ _ h => h) (Or.inl ⟨by rfl, ?_⟩) hHeld ?_ ?_
                rotate_left
                · rintro w' ⟨s0, s1, s2, s3⟩; go_simp; first | done | with_reducible rfl
                rotate_left
                · simp only [Act.put, List.setIfInBounds_toArray, List.set_cons_zero, List.set_cons_succ, i64_w, i32_w]; rfl
                refine pure_ (i := 21) (N := (some 51)) (v := (.bool true)) (a' := ?_) #[true, true, true, true, true, true, true, true, true, true, true, true, true, true, true, true, true, true, true, true, true, true, false, false, false, false, false, false, false, false, false, false, false, false, false] rfl rfl (by kernel_rfl) (fun _ _ _ h => h) (Or.inl ⟨by rfl, ?_⟩) ?_ ?_
                · intro w'; go_simp; first | done | with_reducible rfl
                rotate_left
                · simp only [Act.put, List.setIfInBounds_toArray, List.set_cons_zero, List.set_cons_succ, i64_w, i32_w]; rfl
                refine pure_ (i := 22) (N := (some 52)) (v := ?_) (a' := ?_) #[true, true, true, true, true, true, true, true, true, true, true, true, true, true, true, true, true, true, true, true, true, true, true, false, false, false, false, false, false, false, false, false, false, false, false] rfl rfl (by kernel_rfl) (fun _ _ _ h => h) (Or.inl ⟨by rfl, ?_⟩) ?_ ?_
                rotate_left
                · intro w'; go_simp; first | done | with_reducible rfl
                rotate_left
                · simp only [Act.put, List.setIfInBounds_toArray, List.set_cons_zero, List.set_cons_succ, i64_w, i32_w]; rfl
                refine pure_ (i := 23) (N := (some 53)) (v := ?_) (a' := ?_) #[true, true, true, true, true, true, true, true, true, true, true, true, true, true, true, true, true, true, true, true, true, true, true, true, false, false, false, false, false, false, false, false, false, false, false] rfl rfl (by kernel_rfl) (fun _ _ _ h => h) (Or.inl ⟨by rfl, ?_⟩) ?_ ?_
                rotate_left
                · intro w'; go_simp; first | done | with_reducible rfl
                rotate_left
                · simp only [Act.put, List.setIfInBounds_toArray, List.set_cons_zero, List.set_cons_succ, i64_w, i32_w]; rfl
                refine pure_ (i := 24) (N := (some 54)) (v := ?_) (a' := ?_) #[true, true, true, true, true, true, true, true, true, true, true, true, true, true, true, true, true, true, true, true, true, true, true, true, true, false, false, false, false, false, false, false, false, false, false] rfl rfl (by kernel_rfl) (fun _ _ _ h => h) (Or.inl ⟨by rfl, ?_⟩) ?_ ?_
                rotate_left
                · intro w'; go_simp; first | done | with_reducible rfl
                rotate_left
                · simp only [Act.put, List.setIfInBounds_toArray, List.set_cons_zero, List.set_cons_succ, i64_w, i32_w]; rfl
                refine pure_ (i := 25) (N := (some 55)) (v := ?_) (a' := ?_) #[true, true, true, true, true, true, true, true, true, true, true, true, true, true, true, true, true, true, true, true, true, true, true, true, true, true, false, false, false, false, false, false, false, false, false] rfl rfl (by kernel_rfl) (fun _ _ _ h => h) (Or.inl ⟨by rfl, ?_⟩) ?_ ?_
                rotate_left
                · intro w'; go_simp; first | done | with_reducible rfl
                rotate_left
                · simp only [Act.put, List.setIfInBounds_toArray, List.set_cons_zero, List.set_cons_succ, i64_w, i32_w]; rfl
                refine pure_ (i := 26) (N := (some 56)) (v := ?_) (a' := ?_) #[true, true, true, true, true, true, true, true, true, true, true, true, true, true, true, true, true, true, true, true, true, true, true, true, true, true, true, false, false, false, false, false, false, false, false] rfl rfl (by kernel_rfl) (fun _ _ _ h => h) (Or.inl ⟨by rfl, ?_⟩) ?_ ?_
                rotate_left
                · intro w'; go_simp; first | done | with_reducible rfl
                rotate_left
                · simp only [Act.put, List.setIfInBounds_toArray, List.set_cons_zero, List.set_cons_succ, i64_w, i32_w]; rfl
                refine pure_ (i := 27) (N := (some 57)) (v := ?_) (a' := ?_) #[true, true, true, true, true, true, true, true, true, true, true, true, true, true, true, true, true, true, true, true, true, true, true, true, true, true, true, true, false, false, false, false, false, false, false] rfl rfl (by kernel_rfl) (fun _ _ _ h => h) (Or.inl ⟨by rfl, ?_⟩) ?_ ?_
                rotate_left
                · intro w'; go_simp; first | done | with_reducible rfl
                rotate_left
                · simp only [Act.put, List.setIfInBounds_toArray, List.set_cons_zero, List.set_cons_succ, i64_w, i32_w]; rfl
                refine take_ (i := 28) (N := (some 58)) (v := ?_) (a' := ?_) #[true, true, true, true, true, true, true, true, true, true, true, true, true, true, true, true, true, true, true, true, true, true, true, true, true, true, true, true, true, false, false, false, false, false, false] rfl rfl (by kernel_rfl) (fun _ _ _ h => h) (Or.inl ⟨by rfl, ?_⟩) hHeld ?_ ?_
                rotate_left
                · rintro w' ⟨s0, s1, s2, s3⟩; go_simp; first | done | with_reducible rfl
                rotate_left
                · simp only [Act.put, List.setIfInBounds_toArray, List.set_cons_zero, List.set_cons_succ, i64_w, i32_w]; rfl
                refine pure_ (i := 29) (N := (some 59)) (v := ?_) (a' := ?_) #[true, true, true, true, true, true, true, true, true, true, true, true, true, true, true, true, true, true, true, true, true, true, true, true, true, true, true, true, true, true, false, false, false, false, false] rfl rfl (by kernel_rfl) (fun _ _ _ h => h) (Or.inl ⟨by rfl, ?_⟩) ?_ ?_
                rotate_left
                · intro w'; go_simp; first | done | with_reducible rfl
                rotate_left
                · simp only [Act.put, List.setIfInBounds_toArray, List.set_cons_zero, List.set_cons_succ, i64_w, i32_w]; rfl
                refine take_ (i := 30) (N := (some 60)) (v := ?_) (a' := ?_) #[true, true, true, true, true, true, true, true, true, true, true, true, true, true, true, true, true, true, true, true, true, true, true, true, true, true, true, true, true, true, true, false, false, false, false] rfl rfl (by kernel_rfl) (fun _ _ _ h => h) (Or.inl ⟨by rfl, ?_⟩) hHeld ?_ ?_
                rotate_left
                · rintro w' ⟨s0, s1, s2, s3⟩; go_simp; first | done | with_reducible rfl
                rotate_left
                · simp only [Act.put, List.setIfInBounds_toArray, List.set_cons_zero, List.set_cons_succ, i64_w, i32_w]; rfl
                refine pure_ (i := 31) (N := (some 61)) (v := (.bool true)) (a' := ?_) #[true, true, true, true, true, true, true, true, true, true, true, true, true, true, true, true, true, true, true, true, true, true, true, true, true, true, true, true, true, true, true, true, false, false, false] rfl rfl (by kernel_rfl) (fun _ _ _ h => h) (Or.inl ⟨by rfl, ?_⟩) ?_ ?_
                · intro w'; go_simp; first | done | with_reducible rfl
                rotate_left
                · simp only [Act.put, List.setIfInBounds_toArray, List.set_cons_zero, List.set_cons_succ, i64_w, i32_w]; rfl
                refine pure_ (i := 32) (N := (some 62)) (v := ?_) (a' := ?_) #[true, true, true, true, true, true, true, true, true, true, true, true, true, true, true, true, true, true, true, true, true, true, true, true, true, true, true, true, true, true, true, true, true, false, false] rfl rfl (by kernel_rfl) (fun _ _ _ h => h) (Or.inl ⟨by rfl, ?_⟩) ?_ ?_
                rotate_left
                · intro w'; go_simp; first | done | with_reducible rfl
                rotate_left
                · simp only [Act.put, List.setIfInBounds_toArray, List.set_cons_zero, List.set_cons_succ, i64_w, i32_w]; rfl
                refine pure_ (i := 33) (N := (some 63)) (v := ?_) (a' := ?_) #[true, true, true, true, true, true, true, true, true, true, true, true, true, true, true, true, true, true, true, true, true, true, true, true, true, true, true, true, true, true, true, true, true, true, false] rfl rfl (by kernel_rfl) (fun _ _ _ h => h) (Or.inl ⟨by rfl, ?_⟩) ?_ ?_
                rotate_left
                · intro w'; go_simp; first | done | with_reducible rfl
                rotate_left
                · simp only [Act.put, List.setIfInBounds_toArray, List.set_cons_zero, List.set_cons_succ, i64_w, i32_w]; rfl
                refine pure_ (i := 34) (N := (some 64)) (v := ?_) (a' := ?_) #[true, true, true, true, true, true, true, true, true, true, true, true, true, true, true, true, true, true, true, true, true, true, true, true, true, true, true, true, true, true, true, true, true, true, true] rfl rfl (by kernel_rfl) (fun _ _ _ h => h) (Or.inl ⟨by rfl, ?_⟩) ?_ ?_
                rotate_left
                · intro w'; go_simp; first | done | with_reducible rfl
                rotate_left
                · simp only [Act.put, List.setIfInBounds_toArray, List.set_cons_zero, List.set_cons_succ, i64_w, i32_w]; rfl
                refine done_ (by kernel_rfl) ?_
                clear q2 q3 q0 q1 h0 h1 hHeld
                go_wp2
                go_ret
                exact ⟨by rw [goodL_no HGN.out]; rfl, HBA.out.drew⟩
              · have HGK := Lib.hid (show (-100 ≤ x (m + 1) ∧ x (m + 1) ≤ 100 ∧ -100 ≤ y (m + 1) ∧ y (m + 1) ≤ 100) ∧ (m + 1 = 0 ∨ cmpP (x (m + 1 - 1)) (y (m + 1 - 1)) (x (m + 1)) (y (m + 1)) < 0) from ⟨⟨x1, x2, x3, x4⟩, .inr (hci.2 (.inr ⟨g2, by omega⟩))⟩)
                clear hci HGN
                refine start_ (n := 35) (S := fun w' => w'.cell? ⟨G, 0, none⟩ = some (.int .i64 (x (m + 1))) ∧ w'.cell? ⟨G, 1, none⟩ = some (.int .i64 (y (m + 1))) ∧ w'.cell? ⟨b, off + m * 2, none⟩ = some (.int .i64 (x m)) ∧ w'.cell? ⟨b, off + m * 2 + 1, none⟩ = some (.int .i64 (y m))) (ds := []) #[false, false, false, false, false, false, false, false, false, false, false, false, false, false, false, false, false, false, false, false, false, false, false, false, false, false, false, false, false, false, false, false, false, false, false] (by kernel_rfl) rfl rfl ⟨by simpa using q0, by simpa using q1, by simpa using q2, by simpa using q3⟩ (fun hHeld => ?_)
                refine pure_ (i := 0) (N := (some 30)) (v := ?_) (a' := ?_) #[true, false, false, false, false, false, false, false, false, false, false, false, false, false, false, false, false, false, false, false, false, false, false, false, false, false, false, false, false, false, false, false, false, false, false] rfl rfl (by kernel_rfl) (fun _ _ _ h => h) (Or.inl ⟨by rfl, ?_⟩) ?_ ?_
                rotate_left
                · intro w'; go_simp; first | done | with_reducible rfl
                rotate_left
                · simp only [Act.put, List.setIfInBounds_toArray, List.set_cons_zero, List.set_cons_succ, i64_w, i32_w]; rfl
                refine pure_ (i := 1) (N := (some 31)) (v := (.bool true)) (a' := ?_) #[true, true, false, false, false, false, false, false, false, false, false, false, false, false, false, false, false, false, false, false, false, false, false, false, false, false, false, false, false, false, false, false, false, false, false] rfl rfl (by kernel_rfl) (fun _ _ _ h => h) (Or.inl ⟨by rfl, ?_⟩) ?_ ?_
                · intro w'; go_simp; first | done | with_reducible rfl
                rotate_left
                · simp only [Act.put, List.setIfInBounds_toArray, List.set_cons_zero, List.set_cons_succ, i64_w, i32_w]; rfl
                refine pure_ (i := 2) (N := (some 32)) (v := ?_) (a' := ?_) #[true, true, true, false, false, false, false, false, false, false, false, false, false, false, false, false, false, false, false, false, false, false, false, false, false, false, false, false, false, false, false, false, false, false, false] rfl rfl (by kernel_rfl) (fun _ _ _ h => h) (Or.inl ⟨by rfl, ?_⟩) ?_ ?_
                rotate_left
                · intro w'; go_simp; first | done | with_reducible rfl
                rotate_left
                · simp only [Act.put, List.setIfInBounds_toArray, List.set_cons_zero, List.set_cons_succ, i64_w, i32_w]; rfl
                refine pure_ (i := 3) (N := (some 33)) (v := ?_) (a' := ?_) #[true, true, true, true, false, false, false, false, false, false, false, false, false, false, false, false, false, false, false, false, false, false, false, false, false, false, false, false, false, false, false, false, false, false, false] rfl rfl (by kernel_rfl) (fun _ _ _ h => h) (Or.inl ⟨by rfl, ?_⟩) ?_ ?_
                rotate_left
                · intro w'; go_simp; first | done | with_reducible rfl
                rotate_left
                · simp only [Act.put, List.setIfInBounds_toArray, List.set_cons_zero, List.set_cons_succ, i64_w, i32_w]; rfl
                refine pure_ (i := 4) (N := (some 34)) (v := ?_) (a' := ?_) #[true, true, true, true, true, false, false, false, false, false, false, false, false, false, false, false, false, false, false, false, false, false, false, false, false, false, false, false, false, false, false, false, false, false, false] rfl rfl (by kernel_rfl) (fun _ _ _ h => h) (Or.inl ⟨by rfl, ?_⟩) ?_ ?_
                rotate_left
                · intro w'; go_simp; first | done | with_reducible rfl
                rotate_left
                · simp only [Act.put, List.setIfInBounds_toArray, List.set_cons_zero, List.set_cons_succ, i64_w, i32_w]; rfl
                refine pure_ (i := 5) (N := (some 35)) (v := ?_) (a' := ?_) #[true, true, true, true, true, true, false, false, false, false, false, false, false, false, false, false, false, false, false, false, false, false, false, false, false, false, false, false, false, false, false, false, false, false, false] rfl rfl (by kernel_rfl) (fun _ _ _ h => h) (Or.inl ⟨by rfl, ?_⟩) ?_ ?_
                rotate_left
                · intro w'; go_simp; first | done | with_reducible rfl
                rotate_left
                · simp only [Act.put, List.setIfInBounds_toArray, List.set_cons_zero, List.set_cons_succ, i64_w, i32_w]; rfl
                refine pure_ (i := 6) (N := (some 36)) (v := ?_) (a' := ?_) #[true, true, true, true, true, true, true, false, false, false, false, false, false, false, false, false, false, false, false, false, false, false, false, false, false, false, false, false, false, false, false, false, false, false, false] rfl rfl (by kernel_rfl) (fun _ _ _ h => h) (Or.inl ⟨by rfl, ?_⟩) ?_ ?_
                rotate_left
                · intro w'; go_simp; first | done | with_reducible rfl
                rotate_left
                · simp only [Act.put, List.setIfInBounds_toArray, List.set_cons_zero, List.set_cons_succ, i64_w, i32_w]; rfl
                refine pure_ (i := 7) (N := (some 37)) (v := ?_) (a' := ?_) #[true, true, true, true, true, true, true, true, false, false, false, false, false, false, false, false, false, false, false, false, false, false, false, false, false, false, false, false, false, false, false, false, false, false, false] rfl rfl (by kernel_rfl) (fun _ _ _ h => h) (Or.inl ⟨by rfl, ?_⟩) ?_ ?_
                rotate_left
                · intro w'; go_simp; first | done | with_reducible rfl
                rotate_left
                · simp only [Act.put, List.setIfInBounds_toArray, List.set_cons_zero, List.set_cons_succ, i64_w, i32_w]; rfl
                refine take_ (i := 8) (N := (some 38)) (v := ?_) (a' := ?_) #[true, true, true, true, true, true, true, true, true, false, false, false, false, false, false, false, false, false, false, false, false, false, false, false, false, false, false, false, false, false, false, false, false, false, false] rfl rfl (by kernel_rfl) (fun _ _ _ h => h) (Or.inl ⟨by rfl, ?_⟩) hHeld ?_ ?_
                rotate_left
                · rintro w' ⟨s0, s1, s2, s3⟩; go_simp; first | done | with_reducible rfl
                rotate_left
                · simp only [Act.put, List.setIfInBounds_toArray, List.set_cons_zero, List.set_cons_succ, i64_w, i32_w]; rfl
                refine pure_ (i := 9) (N := (some 39)) (v := ?_) (a' := ?_) #[true, true, true, true, true, true, true, true, true, true, false, false, false, false, false, false, false, false, false, false, false, false, false, false, false, false, false, false, false, false, false, false, false, false, false] rfl rfl (by kernel_rfl) (fun _ _ _ h => h) (Or.inl ⟨by rfl, ?_⟩) ?_ ?_
                rotate_left
                · intro w'; go_simp; first | done | with_reducible rfl
                rotate_left
                · simp only [Act.put, List.setIfInBounds_toArray, List.set_cons_zero, List.set_cons_succ, i64_w, i32_w]; rfl
                refine take_ (i := 10) (N := (some 40)) (v := ?_) (a' := ?_) #[true, true, true, true, true, true, true, true, true, true, true, false, false, false, false, false, false, false, false, false, false, false, false, false, false, false, false, false, false, false, false, false, false, false, false] rfl rfl (by kernel_rfl) (fun _ _ _ h => h) (Or.inl ⟨by rfl, ?_⟩) hHeld ?_ ?_
                rotate_left
                · rintro w' ⟨s0, s1, s2, s3⟩; go_simp; first | done | with_reducible rfl
                rotate_left
                · simp only [Act.put, List.setIfInBounds_toArray, List.set_cons_zero, List.set_cons_succ, i64_w, i32_w]; rfl
                refine pure_ (i := 11) (N := (some 41)) (v := (.bool false)) (a' := ?_) #[true, true, true, true, true, true, true, true, true, true, true, true, false, false, false, false, false, false, false, false, false, false, false, false, false, false, false, false, false, false, false, false, false, false, false] rfl rfl (by kernel_rfl) (fun _ _ _ h => h) (Or.inl ⟨by rfl, ?_⟩) ?_ ?_
                · intro w'; go_simp; first | done | with_reducible rfl
                rotate_left
                · simp only [Act.put, List.setIfInBounds_toArray, List.set_cons_zero, List.set_cons_succ, i64_w, i32_w]; rfl
                refine pure_ (i := 12) (N := (some 42)) (v := ?_) (a' := ?_) #[true, true, true, true, true, true, true, true, true, true, true, true, true, false, false, false, false, false, false, false, false, false, false, false, false, false, false, false, false, false, false, false, false, false, false] rfl rfl (by kernel_rfl) (fun _ _ _ h => h) (Or.inl ⟨by rfl, ?_⟩) ?_ ?_
                rotate_left
                · intro w'; go_simp; first | done | with_reducible rfl
                rotate_left
                · simp only [Act.put, List.setIfInBounds_toArray, List.set_cons_zero, List.set_cons_succ, i64_w, i32_w]; rfl
                refine pure_ (i := 13) (N := (some 43)) (v := ?_) (a' := ?_) #[true, true, true, true, true, true, true, true, true, true, true, true, true, true, false, false, false, false, false, false, false, false, false, false, false, false, false, false, false, false, false, false, false, false, false] rfl rfl (by kernel_rfl) (fun _ _ _ h => h) (Or.inl ⟨by rfl, ?_⟩) ?_ ?_
                rotate_left
                · intro w'; go_simp; first | done | with_reducible rfl
                rotate_left
                · simp only [Act.put, List.setIfInBounds_toArray, List.set_cons_zero, List.set_cons_succ, i64_w, i32_w]; rfl
                refine pure_ (i := 14) (N := (some 44)) (v := ?_) (a' := ?_) #[true, true, true, true, true, true, true, true, true, true, true, true, true, true, true, false, false, false, false, false, false, false, false, false, false, false, false, false, false, false, false, false, false, false, false] rfl rfl (by kernel_rfl) (fun _ _ _ h => h) (Or.inl ⟨by rfl, ?_⟩) ?_ ?_
                rotate_left
                · intro w'; go_simp; first | done | with_reducible rfl
                rotate_left
                · simp only [Act.put, List.setIfInBounds_toArray, List.set_cons_zero, List.set_cons_succ, i64_w, i32_w]; rfl
                refine pure_ (i := 15) (N := (some 45)) (v := ?_) (a' := ?_) #[true, true, true, true, true, true, true, true, true, true, true, true, true, true, true, true, false, false, false, false, false, false, false, false, false, false, false, false, false, false, false, false, false, false, false] rfl rfl (by kernel_rfl) (fun _ _ _ h => h) (Or.inl ⟨by rfl, ?_⟩) ?_ ?_
                rotate_left
                · intro w'; go_simp; first | done | with_reducible rfl
                rotate_left
                · simp only [Act.put, List.setIfInBounds_toArray, List.set_cons_zero, List.set_cons_succ, i64_w, i32_w]; rfl
                refine pure_ (i := 16) (N := (some 46)) (v := ?_) (a' := ?_) #[true, true, true, true, true, true, true, true, true, true, true, true, true, true, true, true, true, false, false, false, false, false, false, false, false, false, false, false, false, false, false, false, false, false, false] rfl rfl (by kernel_rfl) (fun _ _ _ h => h) (Or.inl ⟨by rfl, ?_⟩) ?_ ?_
                rotate_left
                · intro w'; go_simp; first | done | with_reducible rfl
                rotate_left
                · simp only [Act.put, List.setIfInBounds_toArray, List.set_cons_zero, List.set_cons_succ, i64_w, i32_w]; rfl
                refine pure_ (i := 17) (N := (some 47)) (v := ?_) (a' := ?_) #[true, true, true, true, true, true, true, true, true, true, true, true, true, true, true, true, true, true, false, false, false, false, false, false, false, false, false, false, false, false, false, false, false, false, false] rfl rfl (by kernel_rfl) (fun _ _ _ h => h) (Or.inl ⟨by rfl, ?_⟩) ?_ ?_
                rotate_left
                · intro w'; go_simp; first | done | with_reducible rfl
                rotate_left
                · simp only [Act.put, List.setIfInBounds_toArray, List.set_cons_zero, List.set_cons_succ, i64_w, i32_w]; rfl
                refine take_ (i := 18) (N := (some 48)) (v := ?_) (a' := ?_) #[true, true, true, true, true, true, true, true, true, true, true, true, true, true, true, true, true, true, true, false, false, false, false, false, false, false, false, false, false, false, false, false, false, false, false] rfl rfl (by kernel_rfl) (fun _ _ _ h => h) (Or.inl ⟨by rfl, ?_⟩) hHeld ?_ ?_
                rotate_left
                · rintro w' ⟨s0, s1, s2, s3⟩; go_simp; first | done | with_reducible rfl
                rotate_left
                · simp only [Act.put, List.setIfInBounds_toArray, List.set_cons_zero, List.set_cons_succ, i64_w, i32_w]; rfl
                refine pure_ (i := 19) (N := (some 49)) (v := ?_) (a' := ?_) #[true, true, true, true, true, true, true, true, true, true, true, true, true, true, true, true, true, true, true, true, false, false, false, false, false, false, false, false, false, false, false, false, false, false, false] rfl rfl (by kernel_rfl) (fun _ _ _ h => h) (Or.inl ⟨by rfl, ?_⟩) ?_ ?_
                rotate_left
                · intro w'; go_simp; first | done | with_reducible rfl
                rotate_left
                · simp only [Act.put, List.setIfInBounds_toArray, List.set_cons_zero, List.set_cons_succ, i64_w, i32_w]; rfl
                refine take_ (i := 20) (N := (some 50)) (v := ?_) (a' := ?_) #[true, true, true, true, true, true, true, true, true, true, true, true, true, true, true, true, true, true, true, true, true, false, false, false, false, false, false, false, false, false, false, false, false, false, false] rfl rfl (by kernel_rfl) (fun _ _ _ h => h) (Or.inl ⟨by rfl, ?_⟩) hHeld ?_ ?_
                rotate_left
                · rintro w' ⟨s0, s1, s2, s3⟩; go_simp; first | done | with_reducible rfl
                rotate_left
                · simp only [Act.put, List.setIfInBounds_toArray, List.set_cons_zero, List.set_cons_succ, i64_w, i32_w]; rfl
                refine pure_ (i := 21) (N := (some 51)) (v := (.bool true)) (a' := ?_) #[true, true, true, true, true, true, true, true, true, true, true, true, true, true, true, true, true, true, true, true, true, true, false, false, false, false, false, false, false, false, false, false, false, false, false] rfl rfl (by kernel_rfl) (fun _ _ _ h => h) (Or.inl ⟨by rfl, ?_⟩) ?_ ?_
                · intro w'; go_simp; first | done | with_reducible rfl
                rotate_left
                · simp only [Act.put, List.setIfInBounds_toArray, List.set_cons_zero, List.set_cons_succ, i64_w, i32_w]; rfl
                refine pure_ (i := 22) (N := (some 52)) (v := ?_) (a' := ?_) #[true, true, true, true, true, true, true, true, true, true, true, true, true, true, true, true, true, true, true, true, true, true, true, false, false, false, false, false, false, false, false, false, false, false, false] rfl rfl (by kernel_rfl) (fun _ _ _ h => h) (Or.inl ⟨by rfl, ?_⟩) ?_ ?_
                rotate_left
                · intro w'; go_simp; first | done | with_reducible rfl
                rotate_left
                · simp only [Act.put, List.setIfInBounds_toArray, List.set_cons_zero, List.set_cons_succ, i64_w, i32_w]; rfl
                refine pure_ (i := 23) (N := (some 53)) (v := ?_) (a' := ?_) #[true, true, true, true, true, true, true, true, true, true, true, true, true, true, true, true, true, true, true, true, true, true, true, true, false, false, false, false, false, false, false, false, false, false, false] rfl rfl (by kernel_rfl) (fun _ _ _ h => h) (Or.inl ⟨by rfl, ?_⟩) ?_ ?_
                rotate_left
                · intro w'; go_simp; first | done | with_reducible rfl
                rotate_left
                · simp only [Act.put, List.setIfInBounds_toArray, List.set_cons_zero, List.set_cons_succ, i64_w, i32_w]; rfl
                refine pure_ (i := 24) (N := (some 54)) (v := ?_) (a' := ?_) #[true, true, true, true, true, true, true, true, true, true, true, true, true, true, true, true, true, true, true, true, true, true, true, true, true, false, false, false, false, false, false, false, false, false, false] rfl rfl (by kernel_rfl) (fun _ _ _ h => h) (Or.inl ⟨by rfl, ?_⟩) ?_ ?_
                rotate_left
                · intro w'; go_simp; first | done | with_reducible rfl
                rotate_left
                · simp only [Act.put, List.setIfInBounds_toArray, List.set_cons_zero, List.set_cons_succ, i64_w, i32_w]; rfl
                refine pure_ (i := 25) (N := (some 55)) (v := ?_) (a' := ?_) #[true, true, true, true, true, true, true, true, true, true, true, true, true, true, true, true, true, true, true, true, true, true, true, true, true, true, false, false, false, false, false, false, false, false, false] rfl rfl (by kernel_rfl) (fun _ _ _ h => h) (Or.inl ⟨by rfl, ?_⟩) ?_ ?_
                rotate_left
                · intro w'; go_simp; first | done | with_reducible rfl
                rotate_left
                · simp only [Act.put, List.setIfInBounds_toArray, List.set_cons_zero, List.set_cons_succ, i64_w, i32_w]; rfl
                refine pure_ (i := 26) (N := (some 56)) (v := ?_) (a' := ?_) #[true, true, true, true, true, true, true, true, true, true, true, true, true, true, true, true, true, true, true, true, true, true, true, true, true, true, true, false, false, false, false, false, false, false, false] rfl rfl (by kernel_rfl) (fun _ _ _ h => h) (Or.inl ⟨by rfl, ?_⟩) ?_ ?_
                rotate_left
                · intro w'; go_simp; first | done | with_reducible rfl
                rotate_left
                · simp only [Act.put, List.setIfInBounds_toArray, List.set_cons_zero, List.set_cons_succ, i64_w, i32_w]; rfl
                refine pure_ (i := 27) (N := (some 57)) (v := ?_) (a' := ?_) #[true, true, true, true, true, true, true, true, true, true, true, true, true, true, true, true, true, true, true, true, true, true, true, true, true, true, true, true, false, false, false, false, false, false, false] rfl rfl (by kernel_rfl) (fun _ _ _ h => h) (Or.inl ⟨by rfl, ?_⟩) ?_ ?_
                rotate_left
                · intro w'; go_simp; first | done | with_reducible rfl
                rotate_left
                · simp only [Act.put, List.setIfInBounds_toArray, List.set_cons_zero, List.set_cons_succ, i64_w, i32_w]; rfl
                refine take_ (i := 28) (N := (some 58)) (v := ?_) (a' := ?_) #[true, true, true, true, true, true, true, true, true, true, true, true, true, true, true, true, true, true, true, true, true, true, true, true, true, true, true, true, true, false, false, false, false, false, false] rfl rfl (by kernel_rfl) (fun _ _ _ h => h) (Or.inl ⟨by rfl, ?_⟩) hHeld ?_ ?_
                rotate_left
                · rintro w' ⟨s0, s1, s2, s3⟩; go_simp; first | done | with_reducible rfl
                rotate_left
                · simp only [Act.put, List.setIfInBounds_toArray, List.set_cons_zero, List.set_cons_succ, i64_w, i32_w]; rfl
                refine pure_ (i := 29) (N := (some 59)) (v := ?_) (a' := ?_) #[true, true, true, true, true, true, true, true, true, true, true, true, true, true, true, true, true, true, true, true, true, true, true, true, true, true, true, true, true, true, false, false, false, false, false] rfl rfl (by kernel_rfl) (fun _ _ _ h => h) (Or.inl ⟨by rfl, ?_⟩) ?_ ?_
                rotate_left
                · intro w'; go_simp; first | done | with_reducible rfl
                rotate_left
                · simp only [Act.put, List.setIfInBounds_toArray, List.set_cons_zero, List.set_cons_succ, i64_w, i32_w]; rfl
                refine take_ (i := 30) (N := (some 60)) (v := ?_) (a' := ?_) #[true, true, true, true, true, true, true, true, true, true, true, true, true, true, true, true, true, true, true, true, true, true, true, true, true, true, true, true, true, true, true, false, false, false, false] rfl rfl (by kernel_rfl) (fun _ _ _ h => h) (Or.inl ⟨by rfl, ?_⟩) hHeld ?_ ?_
                rotate_left
                · rintro w' ⟨s0, s1, s2, s3⟩; go_simp; first | done | with_reducible rfl
                rotate_left
                · simp only [Act.put, List.setIfInBounds_toArray, List.set_cons_zero, List.set_cons_succ, i64_w, i32_w]; rfl
                refine pure_ (i := 31) (N := (some 61)) (v := (.bool false)) (a' := ?_) #[true, true, true, true, true, true, true, true, true, true, true, true, true, true, true, true, true, true, true, true, true, true, true, true, true, true, true, true, true, true, true, true, false, false, false] rfl rfl (by kernel_rfl) (fun _ _ _ h => h) (Or.inl ⟨by rfl, ?_⟩) ?_ ?_
                · intro w'; go_simp; first | done | with_reducible rfl
                rotate_left
                · simp only [Act.put, List.setIfInBounds_toArray, List.set_cons_zero, List.set_cons_succ, i64_w, i32_w]; rfl
                refine pure_ (i := 32) (N := (some 62)) (v := ?_) (a' := ?_) #[true, true, true, true, true, true, true, true, true, true, true, true, true, true, true, true, true, true, true, true, true, true, true, true, true, true, true, true, true, true, true, true, true, false, false] rfl rfl (by kernel_rfl) (fun _ _ _ h => h) (Or.inl ⟨by rfl, ?_⟩) ?_ ?_
                rotate_left
                · intro w'; go_simp; first | done | with_reducible rfl
                rotate_left
                · simp only [Act.put, List.setIfInBounds_toArray, List.set_cons_zero, List.set_cons_succ, i64_w, i32_w]; rfl
                refine pure_ (i := 33) (N := (some 63)) (v := ?_) (a' := ?_) #[true, true, true, true, true, true, true, true, true, true, true, true, true, true, true, true, true, true, true, true, true, true, true, true, true, true, true, true, true, true, true, true, true, true, false] rfl rfl (by kernel_rfl) (fun _ _ _ h => h) (Or.inl ⟨by rfl, ?_⟩) ?_ ?_
                rotate_left
                · intro w'; go_simp; first | done | with_reducible rfl
                rotate_left
                · simp only [Act.put, List.setIfInBounds_toArray, List.set_cons_zero, List.set_cons_succ, i64_w, i32_w]; rfl
                refine pure_ (i := 34) (N := (some 64)) (v := ?_) (a' := ?_) #[true, true, true, true, true, true, true, true, true, true, true, true, true, true, true, true, true, true, true, true, true, true, true, true, true, true, true, true, true, true, true, true, true, true, true] rfl rfl (by kernel_rfl) (fun _ _ _ h => h) (Or.inl ⟨by rfl, ?_⟩) ?_ ?_
                rotate_left
                · intro w'; go_simp; first | done | with_reducible rfl
                rotate_left
                · simp only [Act.put, List.setIfInBounds_toArray, List.set_cons_zero, List.set_cons_succ, i64_w, i32_w]; rfl
                refine done_ (by kernel_rfl) ?_
                clear q2 q3 q0 q1 h0 h1 hHeld
                go_wp2_with fail
                exact ⟨⟨(m + 1) + 1, by omega, by go_num, Lib.hid (goodTo_next HG.out HGK.out), Lib.hid HBA.out.drew⟩, by simp [intOf]; omega⟩
            · have HGK := Lib.hid (show (-100 ≤ x (m + 1) ∧ x (m + 1) ≤ 100 ∧ -100 ≤ y (m + 1) ∧ y (m + 1) ≤ 100) ∧ (m + 1 = 0 ∨ cmpP (x (m + 1 - 1)) (y (m + 1 - 1)) (x (m + 1)) (y (m + 1)) < 0) from ⟨⟨x1, x2, x3, x4⟩, .inr (hci.2 (.inl (by omega)))⟩)
              clear hci HGN
              refine start_ (n := 35) (S := fun w' => w'.cell? ⟨G, 0, none⟩ = some (.int .i64 (x (m + 1))) ∧ w'.cell? ⟨G, 1, none⟩ = some (.int .i64 (y (m + 1))) ∧ w'.cell? ⟨b, off + m * 2, none⟩ = some (.int .i64 (x m)) ∧ w'.cell? ⟨b, off + m * 2 + 1, none⟩ = some (.int .i64 (y m))) (ds := []) #[false, false, false, false, false, false, false, false, false, false, false, false, false, false, false, false, false, false, false, false, false, false, false, false, false, false, false, false, false, false, false, false, false, false, false] (by kernel_rfl) rfl rfl ⟨by simpa using q0, by simpa using q1, by simpa using q2, by simpa using q3⟩ (fun hHeld => ?_)
              refine pure_ (i := 0) (N := (some 30)) (v := ?_) (a' := ?_) #[true, false, false, false, false, false, false, false, false, false, false, false, false, false, false, false, false, false, false, false, false, false, false, false, false, false, false, false, false, false, false, false, false, false, false] rfl rfl (by kernel_rfl) (fun _ _ _ h => h) (Or.inl ⟨by rfl, ?_⟩) ?_ ?_
              rotate_left
              · intro w'; go_simp; first | done | with_reducible rfl
              rotate_left
              · simp only [Act.put, List.setIfInBounds_toArray, List.set_cons_zero, List.set_cons_succ, i64_w, i32_w]; rfl
              refine pure_ (i := 1) (N := (some 31)) (v := (.bool true)) (a' := ?_) #[true, true, false, false, false, false, false, false, false, false, false, false, false, false, false, false, false, false, false, false, false, false, false, false, false, false, false, false, false, false, false, false, false, false, false] rfl rfl (by kernel_rfl) (fun _ _ _ h => h) (Or.inl ⟨by rfl, ?_⟩) ?_ ?_
              · intro w'; go_simp; first | done | with_reducible rfl
              rotate_left
              · simp only [Act.put, List.setIfInBounds_toArray, List.set_cons_zero, List.set_cons_succ, i64_w, i32_w]; rfl
              refine pure_ (i := 2) (N := (some 32)) (v := ?_) (a' := ?_) #[true, true, true, false, false, false, false, false, false, false, false, false, false, false, false, false, false, false, false, false, false, false, false, false, false, false, false, false, false, false, false, false, false, false, false] rfl rfl (by kernel_rfl) (fun _ _ _ h => h) (Or.inl ⟨by rfl, ?_⟩) ?_ ?_
              rotate_left
              · intro w'; go_simp; first | done | with_reducible rfl
              rotate_left
              · simp only [Act.put, List.setIfInBounds_toArray, List.set_cons_zero, List.set_cons_succ, i64_w, i32_w]; rfl
              refine pure_ (i := 3) (N := (some 33)) (v := ?_) (a' := ?_) #[true, true, true, true, false, false, false, false, false, false, false, false, false, false, false, false, false, false, false, false, false, false, false, false, false, false, false, false, false, false, false, false, false, false, false] rfl rfl (by kernel_rfl) (fun _ _ _ h => h) (Or.inl ⟨by rfl, ?_⟩) ?_ ?_
              rotate_left
              · intro w'; go_simp; first | done | with_reducible rfl
              rotate_left
              · simp only [Act.put, List.setIfInBounds_toArray, List.set_cons_zero, List.set_cons_succ, i64_w, i32_w]; rfl
              refine pure_ (i := 4) (N := (some 34)) (v := ?_) (a' := ?_) #[true, true, true, true, true, false, false, false, false, false, false, false, false, false, false, false, false, false, false, false, false, false, false, false, false, false, false, false, false, false, false, false, false, false, false] rfl rfl (by kernel_rfl) (fun _ _ _ h => h) (Or.inl ⟨by rfl, ?_⟩) ?_ ?_
              rotate_left
              · intro w'; go_simp; first | done | with_reducible rfl
              rotate_left
              · simp only [Act.put, List.setIfInBounds_toArray, List.set_cons_zero, List.set_cons_succ, i64_w, i32_w]; rfl
              refine pure_ (i := 5) (N := (some 35)) (v := ?_) (a' := ?_) #[true, true, true, true, true, true, false, false, false, false, false, false, false, false, false, false, false, false, false, false, false, false, false, false, false, false, false, false, false, false, false, false, false, false, false] rfl rfl (by kernel_rfl) (fun _ _ _ h => h) (Or.inl ⟨by rfl, ?_⟩) ?_ ?_
              rotate_left
              · intro w'; go_simp; first | done | with_reducible rfl
              rotate_left
              · simp only [Act.put, List.setIfInBounds_toArray, List.set_cons_zero, List.set_cons_succ, i64_w, i32_w]; rfl
              refine pure_ (i := 6) (N := (some 36)) (v := ?_) (a' := ?_) #[true, true, true, true, true, true, true, false, false, false, false, false, false, false, false, false, false, false, false, false, false, false, false, false, false, false, false, false, false, false, false, false, false, false, false] rfl rfl (by kernel_rfl) (fun _ _ _ h => h) (Or.inl ⟨by rfl, ?_⟩) ?_ ?_
              rotate_left
              · intro w'; go_simp; first | done | with_reducible rfl
              rotate_left
              · simp only [Act.put, List.setIfInBounds_toArray, List.set_cons_zero, List.set_cons_succ, i64_w, i32_w]; rfl
              refine pure_ (i := 7) (N := (some 37)) (v := ?_) (a' := ?_) #[true, true, true, true, true, true, true, true, false, false, false, false, false, false, false, false, false, false, false, false, false, false, false, false, false, false, false, false, false, false, false, false, false, false, false] rfl rfl (by kernel_rfl) (fun _ _ _ h => h) (Or.inl ⟨by rfl, ?_⟩) ?_ ?_
              rotate_left
              · intro w'; go_simp; first | done | with_reducible rfl
              rotate_left
              · simp only [Act.put, List.setIfInBounds_toArray, List.set_cons_zero, List.set_cons_succ, i64_w, i32_w]; rfl
              refine take_ (i := 8) (N := (some 38)) (v := ?_) (a' := ?_) #[true, true, true, true, true, true, true, true, true, false, false, false, false, false, false, false, false, false, false, false, false, false, false, false, false, false, false, false, false, false, false, false, false, false, false] rfl rfl (by kernel_rfl) (fun _ _ _ h => h) (Or.inl ⟨by rfl, ?_⟩) hHeld ?_ ?_
              rotate_left
              · rintro w' ⟨s0, s1, s2, s3⟩; go_simp; first | done | with_reducible rfl
              rotate_left
              · simp only [Act.put, List.setIfInBounds_toArray, List.set_cons_zero, List.set_cons_succ, i64_w, i32_w]; rfl
              refine pure_ (i := 9) (N := (some 39)) (v := ?_) (a' := ?_) #[true, true, true, true, true, true, true, true, true, true, false, false, false, false, false, false, false, false, false, false, false, false, false, false, false, false, false, false, false, false, false, false, false, false, false] rfl rfl (by kernel_rfl) (fun _ _ _ h => h) (Or.inl ⟨by rfl, ?_⟩) ?_ ?_
              rotate_left
              · intro w'; go_simp; first | done | with_reducible rfl
              rotate_left
              · simp only [Act.put, List.setIfInBounds_toArray, List.set_cons_zero, List.set_cons_succ, i64_w, i32_w]; rfl
              refine take_ (i := 10) (N := (some 40)) (v := ?_) (a' := ?_) #[true, true, true, true, true, true, true, true, true, true, true, false, false, false, false, false, false, false, false, false, false, false, false, false, false, false, false, false, false, false, false, false, false, false, false] rfl rfl (by kernel_rfl) (fun _ _ _ h => h) (Or.inl ⟨by rfl, ?_⟩) hHeld ?_ ?_
              rotate_left
              · rintro w' ⟨s0, s1, s2, s3⟩; go_simp; first | done | with_reducible rfl
              rotate_left
              · simp only [Act.put, List.setIfInBounds_toArray, List.set_cons_zero, List.set_cons_succ, i64_w, i32_w]; rfl
              refine pure_ (i := 11) (N := (some 41)) (v := (.bool false)) (a' := ?_) #[true, true, true, true, true, true, true, true, true, true, true, true, false, false, false, false, false, false, false, false, false, false, false, false, false, false, false, false, false, false, false, false, false, false, false] rfl rfl (by kernel_rfl) (fun _ _ _ h => h) (Or.inl ⟨by rfl, ?_⟩) ?_ ?_
              · intro w'; go_simp; first | done | with_reducible rfl
              rotate_left
              · simp only [Act.put, List.setIfInBounds_toArray, List.set_cons_zero, List.set_cons_succ, i64_w, i32_w]; rfl
              refine pure_ (i := 12) (N := (some 42)) (v := ?_) (a' := ?_) #[true, true, true, true, true, true, true, true, true, true, true, true, true, false, false, false, false, false, false, false, false, false, false, false, false, false, false, false, false, false, false, false, false, false, false] rfl rfl (by kernel_rfl) (fun _ _ _ h => h) (Or.inl ⟨by rfl, ?_⟩) ?_ ?_
              rotate_left
              · intro w'; go_simp; first | done | with_reducible rfl
              rotate_left
              · simp only [Act.put, List.setIfInBounds_toArray, List.set_cons_zero, List.set_cons_succ, i64_w, i32_w]; rfl
              refine pure_ (i := 13) (N := (some 43)) (v := ?_) (a' := ?_) #[true, true, true, true, true, true, true, true, true, true, true, true, true, true, false, false, false, false, false, false, false, false, false, false, false, false, false, false, false, false, false, false, false, false, false] rfl rfl (by kernel_rfl) (fun _ _ _ h => h) (Or.inl ⟨by rfl, ?_⟩) ?_ ?_
              rotate_left
              · intro w'; go_simp; first | done | with_reducible rfl
              rotate_left
              · simp only [Act.put, List.setIfInBounds_toArray, List.set_cons_zero, List.set_cons_succ, i64_w, i32_w]; rfl
              refine pure_ (i := 14) (N := (some 44)) (v := ?_) (a' := ?_) #[true, true, true, true, true, true, true, true, true, true, true, true, true, true, true, false, false, false, false, false, false, false, false, false, false, false, false, false, false, false, false, false, false, false, false] rfl rfl (by kernel_rfl) (fun _ _ _ h => h) (Or.inl ⟨by rfl, ?_⟩) ?_ ?_
              rotate_left
              · intro w'; go_simp; first | done | with_reducible rfl
              rotate_left
              · simp only [Act.put, List.setIfInBounds_toArray, List.set_cons_zero, List.set_cons_succ, i64_w, i32_w]; rfl
              refine pure_ (i := 15) (N := (some 45)) (v := ?_) (a' := ?_) #[true, true, true, true, true, true, true, true, true, true, true, true, true, true, true, true, false, false, false, false, false, false, false, false, false, false, false, false, false, false, false, false, false, false, false] rfl rfl (by kernel_rfl) (fun _ _ _ h => h) (Or.inl ⟨by rfl, ?_⟩) ?_ ?_
              rotate_left
              · intro w'; go_simp; first | done | with_reducible rfl
              rotate_left
              · simp only [Act.put, List.setIfInBounds_toArray, List.set_cons_zero, List.set_cons_succ, i64_w, i32_w]; rfl
              refine pure_ (i := 16) (N := (some 46)) (v := ?_) (a' := ?_) #[true, true, true, true, true, true, true, true, true, true, true, true, true, true, true, true, true, false, false, false, false, false, false, false, false, false, false, false, false, false, false, false, false, false, false] rfl rfl (by kernel_rfl) (fun _ _ _ h => h) (Or.inl ⟨by rfl, ?_⟩) ?_ ?_
              rotate_left
              · intro w'; go_simp; first | done | with_reducible rfl
              rotate_left
              · simp only [Act.put, List.setIfInBounds_toArray, List.set_cons_zero, List.set_cons_succ, i64_w, i32_w]; rfl
              refine pure_ (i := 17) (N := (some 47)) (v := ?_) (a' := ?_) #[true, true, true, true, true, true, true, true, true, true, true, true, true, true, true, true, true, true, false, false, false, false, false, false, false, false, false, false, false, false, false, false, false, false, false] rfl rfl (by kernel_rfl) (fun _ _ _ h => h) (Or.inl ⟨by rfl, ?_⟩) ?_ ?_
              rotate_left
              · intro w'; go_simp; first | done | with_reducible rfl
              rotate_left
              · simp only [Act.put, List.setIfInBounds_toArray, List.set_cons_zero, List.set_cons_succ, i64_w, i32_w]; rfl
              refine take_ (i := 18) (N := (some 48)) (v := ?_) (a' := ?_) #[true, true, true, true, true, true, true, true, true, true, true, true, true, true, true, true, true, true, true, false, false, false, false, false, false, false, false, false, false, false, false, false, false, false, false] rfl rfl (by kernel_rfl) (fun _ _ _ h => h) (Or.inl ⟨by rfl, ?_⟩) hHeld ?_ ?_
              rotate_left
              · rintro w' ⟨s0, s1, s2, s3⟩; go_simp; first | done | with_reducible rfl
              rotate_left
              · simp only [Act.put, List.setIfInBounds_toArray, List.set_cons_zero, List.set_cons_succ, i64_w, i32_w]; rfl
              refine pure_ (i := 19) (N := (some 49)) (v := ?_) (a' := ?_) #[true, true, true, true, true, true, true, true, true, true, true, true, true, true, true, true, true, true, true, true, false, false, false, false, false, false, false, false, false, false, false, false, false, false, false] rfl rfl (by kernel_rfl) (fun _ _ _ h => h) (Or.inl ⟨by rfl, ?_⟩) ?_ ?_
              rotate_left
              · intro w'; go_simp; first | done | with_reducible rfl
              rotate_left
              · simp only [Act.put, List.setIfInBounds_toArray, List.set_cons_zero, List.set_cons_succ, i64_w, i32_w]; rfl
              refine take_ (i := 20) (N := (some 50)) (v := ?_) (a' := ?_) #[true, true, true, true, true, true, true, true, true, true, true, true, true, true, true, true, true, true, true, true, true, false, false, false, false, false, false, false, false, false, false, false, false, false, false] rfl rfl (by kernel_rfl) (fun _ _ _ h => h) (Or.inl ⟨by rfl, ?_⟩) hHeld ?_ ?_
              rotate_left
              · rintro w' ⟨s0, s1, s2, s3⟩; go_simp; first | done | with_reducible rfl
              rotate_left
              · simp only [Act.put, List.setIfInBounds_toArray, List.set_cons_zero, List.set_cons_succ, i64_w, i32_w]; rfl
              refine pure_ (i := 21) (N := (some 51)) (v := (.bool false)) (a' := ?_) #[true, true, true, true, true, true, true, true, true, true, true, true, true, true, true, true, true, true, true, true, true, true, false, false, false, false, false, false, false, false, false, false, false, false, false] rfl rfl (by kernel_rfl) (fun _ _ _ h => h) (Or.inl ⟨by rfl, ?_⟩) ?_ ?_
              · intro w'; go_simp; first | done | with_reducible rfl
              rotate_left
              · simp only [Act.put, List.setIfInBounds_toArray, List.set_cons_zero, List.set_cons_succ, i64_w, i32_w]; rfl
              refine pure_ (i := 22) (N := (some 52)) (v := ?_) (a' := ?_) #[true, true, true, true, true, true, true, true, true, true, true, true, true, true, true, true, true, true, true, true, true, true, true, false, false, false, false, false, false, false, false, false, false, false, false] rfl rfl (by kernel_rfl) (fun _ _ _ h => h) (Or.inl ⟨by rfl, ?_⟩) ?_ ?_
              rotate_left
              · intro w'; go_simp; first | done | with_reducible rfl
              rotate_left
              · simp only [Act.put, List.setIfInBounds_toArray, List.set_cons_zero, List.set_cons_succ, i64_w, i32_w]; rfl
              refine off_ (i := 23) (N := (some 53)) #[true, true, true, true, true, true, true, true, true, true, true, true, true, true, true, true, true, true, true, true, true, true, true, true, false, false, false, false, false, false, false, false, false, false, false] rfl rfl (by kernel_rfl) (fun _ _ _ h => h) (by rfl) (by simp only [Act.put, List.setIfInBounds_toArray, List.set_cons_zero, List.set_cons_succ, i64_w, i32_w]; rfl) ?_
              refine off_ (i := 24) (N := (some 54)) #[true, true, true, true, true, true, true, true, true, true, true, true, true, true, true, true, true, true, true, true, true, true, true, true, true, false, false, false, false, false, false, false, false, false, false] rfl rfl (by kernel_rfl) (fun _ _ _ h => h) (by rfl) (by simp only [Act.put, List.setIfInBounds_toArray, List.set_cons_zero, List.set_cons_succ, i64_w, i32_w]; rfl) ?_
              refine off_ (i := 25) (N := (some 55)) #[true, true, true, true, true, true, true, true, true, true, true, true, true, true, true, true, true, true, true, true, true, true, true, true, true, true, false, false, false, false, false, false, false, false, false] rfl rfl (by kernel_rfl) (fun _ _ _ h => h) (by rfl) (by simp only [Act.put, List.setIfInBounds_toArray, List.set_cons_zero, List.set_cons_succ, i64_w, i32_w]; rfl) ?_
              refine off_ (i := 26) (N := (some 56)) #[true, true, true, true, true, true, true, true, true, true, true, true, true, true, true, true, true, true, true, true, true, true, true, true, true, true, true, false, false, false, false, false, false, false, false] rfl rfl (by kernel_rfl) (fun _ _ _ h => h) (by rfl) (by simp only [Act.put, List.setIfInBounds_toArray, List.set_cons_zero, List.set_cons_succ, i64_w, i32_w]; rfl) ?_
              refine off_ (i := 27) (N := (some 57)) #[true, true, true, true, true, true, true, true, true, true, true, true, true, true, true, true, true, true, true, true, true, true, true, true, true, true, true, true, false, false, false, false, false, false, false] rfl rfl (by kernel_rfl) (fun _ _ _ h => h) (by rfl) (by simp only [Act.put, List.setIfInBounds_toArray, List.set_cons_zero, List.set_cons_succ, i64_w, i32_w]; rfl) ?_
              refine off_ (i := 28) (N := (some 58)) #[true, true, true, true, true, true, true, true, true, true, true, true, true, true, true, true, true, true, true, true, true, true, true, true, true, true, true, true, true, false, false, false, false, false, false] rfl rfl (by kernel_rfl) (fun _ _ _ h => h) (by rfl) (by simp only [Act.put, List.setIfInBounds_toArray, List.set_cons_zero, List.set_cons_succ, i64_w, i32_w]; rfl) ?_
              refine off_ (i := 29) (N := (some 59)) #[true, true, true, true, true, true, true, true, true, true, true, true, true, true, true, true, true, true, true, true, true, true, true, true, true, true, true, true, true, true, false, false, false, false, false] rfl rfl (by kernel_rfl) (fun _ _ _ h => h) (by rfl) (by simp only [Act.put, List.setIfInBounds_toArray, List.set_cons_zero, List.set_cons_succ, i64_w, i32_w]; rfl) ?_
              refine off_ (i := 30) (N := (some 60)) #[true, true, true, true, true, true, true, true, true, true, true, true, true, true, true, true, true, true, true, true, true, true, true, true, true, true, true, true, true, true, true, false, false, false, false] rfl rfl (by kernel_rfl) (fun _ _ _ h => h) (by rfl) (by simp only [Act.put, List.setIfInBounds_toArray, List.set_cons_zero, List.set_cons_succ, i64_w, i32_w]; rfl) ?_
              refine off_ (i := 31) (N := (some 61)) #[true, true, true, true, true, true, true, true, true, true, true, true, true, true, true, true, true, true, true, true, true, true, true, true, true, true, true, true, true, true, true, true, false, false, false] rfl rfl (by kernel_rfl) (fun _ _ _ h => h) (by rfl) (by simp only [Act.put, List.setIfInBounds_toArray, List.set_cons_zero, List.set_cons_succ, i64_w, i32_w]; rfl) ?_
              refine pure_ (i := 32) (N := (some 62)) (v := ?_) (a' := ?_) #[true, true, true, true, true, true, true, true, true, true, true, true, true, true, true, true, true, true, true, true, true, true, true, true, true, true, true, true, true, true, true, true, true, false, false] rfl rfl (by kernel_rfl) (fun _ _ _ h => h) (Or.inl ⟨by rfl, ?_⟩) ?_ ?_
              rotate_left
              · intro w'; go_simp; first | done | with_reducible rfl
              rotate_left
              · simp only [Act.put, List.setIfInBounds_toArray, List.set_cons_zero, List.set_cons_succ, i64_w, i32_w]; rfl
              refine pure_ (i := 33) (N := (some 63)) (v := ?_) (a' := ?_) #[true, true, true, true, true, true, true, true, true, true, true, true, true, true, true, true, true, true, true, true, true, true, true, true, true, true, true, true, true, true, true, true, true, true, false] rfl rfl (by kernel_rfl) (fun _ _ _ h => h) (Or.inl ⟨by rfl, ?_⟩) ?_ ?_
              rotate_left
              · intro w'; go_simp; first | done | with_reducible rfl
              rotate_left
              · simp only [Act.put, List.setIfInBounds_toArray, List.set_cons_zero, List.set_cons_succ, i64_w, i32_w]; rfl
              refine pure_ (i := 34) (N := (some 64)) (v := ?_) (a' := ?_) #[true, true, true, true, true, true, true, true, true, true, true, true, true, true, true, true, true, true, true, true, true, true, true, true, true, true, true, true, true, true, true, true, true, true, true] rfl rfl (by kernel_rfl) (fun _ _ _ h => h) (Or.inl ⟨by rfl, ?_⟩) ?_ ?_
              rotate_left
              · intro w'; go_simp; first | done | with_reducible rfl
              rotate_left
              · simp only [Act.put, List.setIfInBounds_toArray, List.set_cons_zero, List.set_cons_succ, i64_w, i32_w]; rfl
              refine done_ (by kernel_rfl) ?_
              clear q2 q3 q0 q1 h0 h1 hHeld
              go_wp2_with fail
              exact ⟨⟨(m + 1) + 1, by omega, by go_num, Lib.hid (goodTo_next HG.out HGK.out), Lib.hid HBA.out.drew⟩, by simp [intOf]; omega⟩
      · have HGN := HGN (fun q => hx q.1)
        have HBA := Lib.hid (HB.out.trans ((below_one (w := wr) (.cells #[.int .i64 (x k), .int .i64 (y k)] 29)).mono HB.out.size))
        by_cases x1 : x k < -100
        · go_wp2
          go_ret
          exact ⟨by rw [goodL_no HGN.out]; rfl, HBA.out⟩
        · by_cases x2 : x k > 100
          · go_wp2
            go_ret
            exact ⟨by rw [goodL_no HGN.out]; rfl, HBA.out⟩
          · by_cases x3 : y k < -100
            · go_wp2
              go_ret
              exact ⟨by rw [goodL_no HGN.out]; rfl, HBA.out⟩
            · have x4 : y k > 100 := by omega
              go_wp2
              go_ret
              exact ⟨by rw [goodL_no HGN.out]; rfl, HBA.out⟩
    · obtain rfl : k = n := by omega
      by_cases h1 : (k : Int) ≥ 1
      · by_cases h2 : (k : Int) ≤ 30
        · go_wp2
          go_ret
          exact ⟨by unfold goodL; rw [HG.out, decide_eq_true (show 1 ≤ k by omega), decide_eq_true (show k ≤ 30 by omega)]; rfl, HB.out⟩
        · go_wp2
          go_ret
          exact ⟨by unfold goodL; rw [decide_eq_false (show ¬ k ≤ 30 by omega), Bool.and_false]; rfl, HB.out⟩
      · go_wp2
        go_ret
        exact ⟨by unfold goodL; rw [decide_eq_false (show ¬ 1 ≤ k by omega)]; rfl, HB.out⟩
end Go.Proofs.YtpfenoioeajkmaaDoor.X
end

section
set_option linter.unusedVariables false
set_option linter.unusedSimpArgs false
namespace Go.Proofs.YtpfenoioeajkmaaDoor.X
open Go.RowKit Go.Proofs.YtpfenoioeajkmaaDoorW.PrintWords Go.Proofs.YtpfenoioeajkmaaDoorW.PrintLast Go.Proofs.YtpfenoioeajkmaaDoorW.PrintMore
set_option maxHeartbeats 2000000 in
set_option maxRecDepth 100000 in
theorem Near_calls (a b : Int) (w : World) : Calls Tryd.prog 43 #[ptV a b] w fun e w' => e = .returned (.bool (near (a, b))) ∧ Below w.heap.size w w' := by
  unfold ptV near
  by_cases h1 : a ≥ -100
  · by_cases h2 : a ≤ 100
    · by_cases h3 : b ≥ -100
      · by_cases h4 : b ≤ 100
        · go_enter Tryd.func43, Tryd.ntmps43
          go_wp2
          go_ret
          exact ⟨by rw [decide_eq_true (by omega)]; rfl, below_one _⟩
        · go_enter Tryd.func43, Tryd.ntmps43
          go_wp2
          go_ret
          exact ⟨by rw [decide_eq_false (by omega)]; rfl, below_one _⟩
      · go_enter Tryd.func43, Tryd.ntmps43
        go_wp2
        go_ret
        exact ⟨by rw [decide_eq_false (by omega)]; rfl, below_one _⟩
    · go_enter Tryd.func43, Tryd.ntmps43
      go_wp2
      go_ret
      exact ⟨by rw [decide_eq_false (by omega)]; rfl, below_one _⟩
  · go_enter Tryd.func43, Tryd.ntmps43
    go_wp2
    go_ret
    exact ⟨by rw [decide_eq_false (by omega)]; rfl, below_one _⟩
end Go.Proofs.YtpfenoioeajkmaaDoor.X
end

section
namespace Go.Proofs.YtpfenoioeajkmaaDoor.PB
open Go.RowKit Go.Proofs.YtpfenoioeajkmaaDoorW.PrintWords Go.Proofs.YtpfenoioeajkmaaDoorW.PrintLast Go.Proofs.YtpfenoioeajkmaaDoorW.PrintMore
attribute [local go_sem] max2_int min2_int max_two min_two max_three min_three max_four min_four
set_option linter.unusedVariables false
set_option linter.unusedSimpArgs false
def errW : Option Int → Value
  | none => .nilIface
  | some c => .iface 0 (.int .i64 c)
theorem errW_none : errW none = .nilIface := rfl
theorem errW_some (c : Int) : errW (some c) = .iface 0 (.int .i64 c) := rfl
end Go.Proofs.YtpfenoioeajkmaaDoor.PB
end

section
namespace Go.Proofs.YtpfenoioeajkmaaDoor.PB
open Go.RowKit Go.Proofs.YtpfenoioeajkmaaDoorW.PrintWords Go.Proofs.YtpfenoioeajkmaaDoorW.PrintLast Go.Proofs.YtpfenoioeajkmaaDoorW.PrintMore
attribute [local go_sem] max2_int min2_int max_two min_two max_three min_three max_four min_four
set_option linter.unusedVariables false
set_option linter.unusedSimpArgs false
def moulds_Area.f (a0 : ByteArray) : Option (Int × Int) := (Go.Proofs.YtpfenoioeajkmaaDoor.X.moulds_Is.f a0).bind fun t110 => (if t110 = true then ((Go.Proofs.YtpfenoioeajkmaaDoor.X.moulds_double.f a0).bind fun t111 => (some (wrap64 (Int.tdiv t111 2), 0))) else (some (0, 2)))
set_option maxHeartbeats 8000000 in
set_option maxRecDepth 100000 in
theorem moulds_Area.calls (a0 : ByteArray) (r1 : Int) (r2 : Int) (w : World) (h : moulds_Area.f a0 = some (r1, r2)) :
    Calls Tryd.prog 39 #[.string a0] w fun e w' => e = .returned (.tuple #[.int .i64 r1, .int .i64 r2]) ∧ Below w.heap.size w w' := by
  have HB := Aside0.mk (Below.refl w.heap.size w)
  have H : ((Go.Proofs.YtpfenoioeajkmaaDoor.X.moulds_Is.f a0).bind fun t110 => (if t110 = true then ((Go.Proofs.YtpfenoioeajkmaaDoor.X.moulds_double.f a0).bind fun t111 => (some (wrap64 (Int.tdiv t111 2), 0))) else (some (0, 2)))) = some (r1, r2) := h
  clear h
  replace H := Option.bind_eq_some_iff.mp H
  obtain ⟨t110, A20, H⟩ := H
  replace H : (if t110 = true then ((Go.Proofs.YtpfenoioeajkmaaDoor.X.moulds_double.f a0).bind fun t111 => (some (wrap64 (Int.tdiv t111 2), 0))) else (some (0, 2))) = some (r1, r2) := H
  have A2 := Aside0.mk A20
  clear A20
  by_cases c3 : t110 = true
  · subst c3
    have H1 : ((Go.Proofs.YtpfenoioeajkmaaDoor.X.moulds_double.f a0).bind fun t111 => (some (wrap64 (Int.tdiv t111 2), 0))) = some (r1, r2) := by rw [if_pos rfl] at H; exact H
    clear H
    have H := H1
    clear H1
    replace H := Option.bind_eq_some_iff.mp H
    obtain ⟨t111, A40, H⟩ := H
    replace H : (some (wrap64 (Int.tdiv t111 2), 0)) = some (r1, r2) := H
    have A4 := Aside0.mk A40
    clear A40
    simp only [Option.some.injEq, Prod.mk.injEq] at H
    obtain ⟨rfl, rfl⟩ := H
    go_enter Tryd.func39, Tryd.ntmps39
    go_wp2_with (first | ((with_reducible refine gate_callee (f := 49) rfl ?_); refine goesL_ (some 5) rfl rfl Tryd.func49 (by kernel_rfl) rfl #[.string a0] rfl (by (try simp only [List.map_toArray, List.map_cons, List.map_nil]); first | done | rfl | (simp only [List.length_drop, List.length_take]; rfl)) ?_; (with_reducible refine (Go.Proofs.YtpfenoioeajkmaaDoor.X.moulds_Is.calls a0 true _ A2.out).mono ?_); rintro e w5 ⟨rfl, hb⟩; refine ⟨_, rfl, ?_⟩; have n0_ := Aside0.mk (below_step (by repeat (first | (with_reducible first | exact HB.out | apply below_alloc | apply pw_below_drewN | apply below_drew1) | exact HB.out)) hb); clear HB; have HB := n0_; clear n0_; (try clear hb); (try clear hb2); (try clear hk); (try clear hi)) | ((with_reducible refine gate_callee (f := 61) rfl ?_); refine goesL_ (some 8) rfl rfl Tryd.func61 (by kernel_rfl) rfl #[.string a0] rfl (by (try simp only [List.map_toArray, List.map_cons, List.map_nil]); first | done | rfl | (simp only [List.length_drop, List.length_take]; rfl)) ?_; (with_reducible refine (Go.Proofs.YtpfenoioeajkmaaDoor.X.moulds_double.calls a0 t111 _ A4.out).mono ?_); rintro e w6 ⟨rfl, hb⟩; refine ⟨_, rfl, ?_⟩; have n0_ := Aside0.mk (below_step (by repeat (first | (with_reducible first | exact HB.out | apply below_alloc | apply pw_below_drewN | apply below_drew1) | exact HB.out)) hb); clear HB; have HB := n0_; clear n0_; (try clear hb); (try clear hb2); (try clear hk); (try clear hi)))
    go_ret2
    exact ⟨by first | rfl | (simp [errW_none, errW_some] <;> rfl) | (simp [*, errW_none, errW_some] <;> rfl), by repeat (first | (with_reducible first | exact HB.out | apply below_alloc | apply pw_below_drewN | apply below_drew1) | exact HB.out)⟩
  · replace c3 := Bool.eq_false_iff.mpr c3
    subst c3
    have H1 : (some (0, 2)) = some (r1, r2) := by rw [if_neg (show ¬ (false = true) by decide)] at H; exact H
    clear H
    have H := H1
    clear H1
    simp only [Option.some.injEq, Prod.mk.injEq] at H
    obtain ⟨rfl, rfl⟩ := H
    go_enter Tryd.func39, Tryd.ntmps39
    go_wp2_with (first | ((with_reducible refine gate_callee (f := 49) rfl ?_); refine goesL_ (some 5) rfl rfl Tryd.func49 (by kernel_rfl) rfl #[.string a0] rfl (by (try simp only [List.map_toArray, List.map_cons, List.map_nil]); first | done | rfl | (simp only [List.length_drop, List.length_take]; rfl)) ?_; (with_reducible refine (Go.Proofs.YtpfenoioeajkmaaDoor.X.moulds_Is.calls a0 false _ A2.out).mono ?_); rintro e w7 ⟨rfl, hb⟩; refine ⟨_, rfl, ?_⟩; have n0_ := Aside0.mk (below_step (by repeat (first | (with_reducible first | exact HB.out | apply below_alloc | apply pw_below_drewN | apply below_drew1) | exact HB.out)) hb); clear HB; have HB := n0_; clear n0_; (try clear hb); (try clear hb2); (try clear hk); (try clear hi)))
    go_ret2
    exact ⟨by first | rfl | (simp [errW_none, errW_some] <;> rfl) | (simp [*, errW_none, errW_some] <;> rfl), by repeat (first | (with_reducible first | exact HB.out | apply below_alloc | apply pw_below_drewN | apply below_drew1) | exact HB.out)⟩
def comfitlaw07_awake.f  : Option (Bool) := (moulds_Area.f (⟨#[114, 117, 108, 100]⟩ : ByteArray)).bind fun bt112 => (if bt112.1 = 1 then (some (bt112.2 == 0)) else (some false))
set_option maxHeartbeats 8000000 in
set_option maxRecDepth 100000 in
theorem comfitlaw07_awake.calls  (r : Bool) (w : World) (h : comfitlaw07_awake.f  = some r) :
    Calls Tryd.prog 20 #[] w fun e w' => e = .returned (.bool r) ∧ Below w.heap.size w w' := by
  have HB := Aside0.mk (Below.refl w.heap.size w)
  have H : ((moulds_Area.f (⟨#[114, 117, 108, 100]⟩ : ByteArray)).bind fun bt112 => (if bt112.1 = 1 then (some (bt112.2 == 0)) else (some false))) = some r := h
  clear h
  replace H := Option.bind_eq_some_iff.mp H
  obtain ⟨⟨t112, t113⟩, A10, H⟩ := H
  replace H : (if t112 = 1 then (some (t113 == 0)) else (some false)) = some r := H
  have A1 := Aside0.mk A10
  clear A10
  by_cases c2 : t112 = 1
  · rw [if_pos c2] at H
    have c2b0 : (t112 == 1) = true := beq_iff_eq.mpr c2
    have c2b1 : (t112 != 1) = false := bne_eq_false_iff_eq.mpr c2
    clear c2
    obtain rfl := Option.some.inj H
    go_enter Tryd.func20, Tryd.ntmps20
    go_wp2_with (first | ((with_reducible refine gate_callee (f := 39) rfl ?_); refine goesL_ (some 4) rfl rfl Tryd.func39 (by kernel_rfl) rfl #[.string (⟨#[114, 117, 108, 100]⟩ : ByteArray)] rfl (by (try simp only [List.map_toArray, List.map_cons, List.map_nil]); first | done | rfl | (simp only [List.length_drop, List.length_take]; rfl)) ?_; (with_reducible refine (moulds_Area.calls (⟨#[114, 117, 108, 100]⟩ : ByteArray) t112 t113 _ A1.out).mono ?_); rintro e w3 ⟨rfl, hb⟩; refine ⟨_, rfl, ?_⟩; have n0_ := Aside0.mk (below_step (by repeat (first | (with_reducible first | exact HB.out | apply below_alloc | apply pw_below_drewN | apply below_drew1) | exact HB.out)) hb); clear HB; have HB := n0_; clear n0_; (try clear hb); (try clear hb2); (try clear hk); (try clear hi)))
    go_ret
    exact ⟨by first | rfl | (simp [errW_none, errW_some] <;> rfl) | (simp [*, errW_none, errW_some] <;> rfl), by repeat (first | (with_reducible first | exact HB.out | apply below_alloc | apply pw_below_drewN | apply below_drew1) | exact HB.out)⟩
  · rw [if_neg c2] at H
    have c2b0 : (t112 == 1) = false := beq_eq_false_iff_ne.mpr c2
    have c2b1 : (t112 != 1) = true := bne_iff_ne.mpr c2
    obtain rfl := Option.some.inj H
    go_enter Tryd.func20, Tryd.ntmps20
    go_wp2_with (first | ((with_reducible refine gate_callee (f := 39) rfl ?_); refine goesL_ (some 4) rfl rfl Tryd.func39 (by kernel_rfl) rfl #[.string (⟨#[114, 117, 108, 100]⟩ : ByteArray)] rfl (by (try simp only [List.map_toArray, List.map_cons, List.map_nil]); first | done | rfl | (simp only [List.length_drop, List.length_take]; rfl)) ?_; (with_reducible refine (moulds_Area.calls (⟨#[114, 117, 108, 100]⟩ : ByteArray) t112 t113 _ A1.out).mono ?_); rintro e w4 ⟨rfl, hb⟩; refine ⟨_, rfl, ?_⟩; have n0_ := Aside0.mk (below_step (by repeat (first | (with_reducible first | exact HB.out | apply below_alloc | apply pw_below_drewN | apply below_drew1) | exact HB.out)) hb); clear HB; have HB := n0_; clear n0_; (try clear hb); (try clear hb2); (try clear hk); (try clear hi)))
    go_ret
    exact ⟨by first | rfl | (simp [errW_none, errW_some] <;> rfl) | (simp [*, errW_none, errW_some] <;> rfl), by repeat (first | (with_reducible first | exact HB.out | apply below_alloc | apply pw_below_drewN | apply below_drew1) | exact HB.out)⟩
end Go.Proofs.YtpfenoioeajkmaaDoor.PB
end

section
set_option linter.unusedVariables false
set_option linter.unusedSimpArgs false
namespace Go.Proofs.YtpfenoioeajkmaaDoor.L
open Go.RowKit Go.Proofs.YtpfenoioeajkmaaDoorW.PrintWords Go.Proofs.YtpfenoioeajkmaaDoorW.PrintLast Go.Proofs.YtpfenoioeajkmaaDoorW.PrintMore Go.Proofs.YtpfenoioeajkmaaDoor.X
theorem awake_eq : PB.comfitlaw07_awake.f = some true := by kernel_rfl
end Go.Proofs.YtpfenoioeajkmaaDoor.L
end

section
set_option linter.unusedVariables false
set_option linter.unusedSimpArgs false
namespace Go.Proofs.YtpfenoioeajkmaaDoor.X
open Go.RowKit Go.Proofs.YtpfenoioeajkmaaDoorW.PrintWords Go.Proofs.YtpfenoioeajkmaaDoorW.PrintLast Go.Proofs.YtpfenoioeajkmaaDoorW.PrintMore Go.Proofs.YtpfenoioeajkmaaDoor.L
theorem awake_ok (w : World) : Calls Tryd.prog 20 #[] w fun e w' => e = .returned (.bool true) ∧ Below w.heap.size w w' :=
  PB.comfitlaw07_awake.calls true w awake_eq
theorem u64_range (k : Int) : 0 ≤ IntKind.u64.wrap k := by
  unfold IntKind.wrap
  simp [IntKind.signed, IntKind.bits]
  omega
end Go.Proofs.YtpfenoioeajkmaaDoor.X
end

section
set_option linter.unusedVariables false
set_option linter.unusedSimpArgs false
namespace Go.Proofs.YtpfenoioeajkmaaDoor.X
open Go.RowKit Go.Proofs.YtpfenoioeajkmaaDoorW.PrintWords Go.Proofs.YtpfenoioeajkmaaDoorW.PrintLast Go.Proofs.YtpfenoioeajkmaaDoorW.PrintMore
def clearB (x y : Nat → Int) (v0 v1 u0 u1 D : Int) (n : Nat) : Bool := (List.range n).all fun i => (List.range i).all fun j => !hits x y v0 v1 u0 u1 D i j
theorem clearB_iff (x y : Nat → Int) (v0 v1 u0 u1 D : Int) (n : Nat) : clearB x y v0 v1 u0 u1 D n = true ↔ clear' x y v0 v1 u0 u1 D n := by
  unfold clearB clear'
  simp only [List.all_eq_true, List.mem_range, Bool.not_eq_true']
  exact ⟨fun h i j h1 h2 => h i h1 j h2, fun h i h1 j h2 => h i j h1 h2⟩
def fillsB (x y : Nat → Int) (n : Nat) (v0 v1 u0 u1 : Int) : Bool := decide (max (v0 * u1 - v1 * u0) (-(v0 * u1 - v1 * u0)) = n) && clearB x y v0 v1 u0 u1 (v0 * u1 - v1 * u0) n
theorem near_iff {a b : Int} : near (a, b) = true ↔ -100 ≤ a ∧ a ≤ 100 ∧ -100 ≤ b ∧ b ≤ 100 := by unfold near; rw [decide_eq_true_eq]
theorem Fills_good (A : Option Addr) (n c : Nat) (x y : Nat → Int) (v0 v1 u0 u1 : Int) (w : World) (hA : Sl w A n c x y) (hn : n ≤ 9223372036854775807) (hg : goodL x y n = true) (hv : near (v0, v1) = true) (hu : near (u0, u1) = true) :
    Calls Tryd.prog 40 #[.slice A n c, ptV v0 v1, ptV u0 u1] w fun e w' => e = .returned (.tuple #[.bool (fillsB x y n v0 v1 u0 u1), .int .i64 0]) ∧ Below w.heap.size w w' := by
  rw [near_iff] at hv hu
  unfold fillsB
  by_cases hr : max (v0 * u1 - v1 * u0) (-(v0 * u1 - v1 * u0)) = n
  · have := Fills_loop A n c x y v0 v1 u0 u1 w hA hn hg ⟨⟨hv.1, hv.2.1⟩, hv.2.2, ⟨hu.1, hu.2.1⟩, hu.2.2⟩ _ rfl hr (clearB x y v0 v1 u0 u1 (v0 * u1 - v1 * u0) n) (clearB_iff _ _ _ _ _ _ _ _)
    rw [decide_eq_true hr, Bool.true_and]
    exact this
  · have := Fills_room A n c x y v0 v1 u0 u1 w hA hn hg ⟨⟨hv.1, hv.2.1⟩, hv.2.2, ⟨hu.1, hu.2.1⟩, hu.2.2⟩ _ rfl hr
    rw [decide_eq_false hr, Bool.false_and]
    exact this
theorem Fills_refused (A : Option Addr) (n c : Nat) (x y : Nat → Int) (v0 v1 u0 u1 : Int) (w : World) (hA : Sl w A n c x y) (hn : n ≤ 9223372036854775807) (h : ¬ (goodL x y n = true ∧ near (v0, v1) = true ∧ near (u0, u1) = true)) :
    Calls Tryd.prog 40 #[.slice A n c, ptV v0 v1, ptV u0 u1] w fun e w' => e = .returned (.tuple #[.bool false, .int .i64 2]) ∧ Below w.heap.size w w' := by
  refine Fills_bad A n c x y v0 v1 u0 u1 w hA hn ?_
  cases hg : goodL x y n with
  | false => exact .inl rfl
  | true =>
    rw [near_iff, near_iff] at h
    refine .inr ⟨rfl, ?_⟩
    have h2 : ¬ ((-100 ≤ v0 ∧ v0 ≤ 100 ∧ -100 ≤ v1 ∧ v1 ≤ 100) ∧ (-100 ≤ u0 ∧ u0 ≤ 100 ∧ -100 ≤ u1 ∧ u1 ≤ 100)) := fun q => h ⟨hg, q⟩
    omega
theorem goodL_mn (x y : Nat → Int) (n : Nat) : goodL x y (mnN n 33) = goodL x y n := by
  unfold mnN
  by_cases h : n ≤ 33
  · rw [if_pos h]
  · rw [if_neg h]
    unfold goodL
    rw [decide_eq_false (show ¬ n ≤ 30 by omega), Bool.and_false, Bool.false_and, decide_eq_false (show ¬ 33 ≤ 30 by decide), Bool.and_false, Bool.false_and]
theorem four_later {w w1 w2 : World} {v0 v1 u0 u1 : Int} (h : w1.cell? ⟨w.heap.size, 0, none⟩ = some (.int .i64 v0) ∧ w1.cell? ⟨w.heap.size, 1, none⟩ = some (.int .i64 v1) ∧ w1.cell? ⟨w.heap.size + 1, 0, none⟩ = some (.int .i64 u0) ∧ w1.cell? ⟨w.heap.size + 1, 1, none⟩ = some (.int .i64 u1)) (hb : Below w1.heap.size w1 w2) :
    w2.cell? ⟨w.heap.size, 0, none⟩ = some (.int .i64 v0) ∧ w2.cell? ⟨w.heap.size, 1, none⟩ = some (.int .i64 v1) ∧ w2.cell? ⟨w.heap.size + 1, 0, none⟩ = some (.int .i64 u0) ∧ w2.cell? ⟨w.heap.size + 1, 1, none⟩ = some (.int .i64 u1) :=
  ⟨(hb.cell (p := ⟨w.heap.size, 0, none⟩) (World.block_lt_of_cell? _ _ h.1)).trans h.1, (hb.cell (p := ⟨w.heap.size, 1, none⟩) (World.block_lt_of_cell? _ _ h.2.1)).trans h.2.1, (hb.cell (p := ⟨w.heap.size + 1, 0, none⟩) (World.block_lt_of_cell? _ _ h.2.2.1)).trans h.2.2.1, (hb.cell (p := ⟨w.heap.size + 1, 1, none⟩) (World.block_lt_of_cell? _ _ h.2.2.2)).trans h.2.2.2⟩
theorem mn_of_good {x y : Nat → Int} {n : Nat} (h : goodL x y n = true) : mnN n 33 = n := by
  have := (goodL_at h).1
  unfold mnN
  rw [if_pos (by omega)]
end Go.Proofs.YtpfenoioeajkmaaDoor.X
end

section
set_option linter.unusedVariables false
set_option linter.unusedSimpArgs false
namespace Go.Proofs.YtpfenoioeajkmaaDoor.X
open Go.RowKit Go.Proofs.YtpfenoioeajkmaaDoorW.PrintWords Go.Proofs.YtpfenoioeajkmaaDoorW.PrintLast Go.Proofs.YtpfenoioeajkmaaDoorW.PrintMore
set_option maxHeartbeats 4000000 in
set_option maxRecDepth 100000 in
theorem In_calls (A : Option Addr) (n c : Nat) (x y : Nat → Int) (a b : Int) (w : World) (hA : Sl w A n c x y) (hn : n ≤ 9223372036854775807) (r : Bool) (hr : r = true ↔ ∃ k, k < n ∧ x k = a ∧ y k = b) :
    Calls Tryd.prog 45 #[.slice A n c, .int .i64 a, .int .i64 b] w fun e w' => e = .returned (.bool r) ∧ Below w.heap.size w w' := by
  have HP := Lib.hid (show 0 < n → ∃ b off, A = some ⟨b, off, none⟩ ∧ n ≤ c ∧ Pts w b off n x y from fun h => by
    rcases hA with ⟨_, h2, _⟩ | ⟨b, off, h1, h4, h3⟩ | ⟨_, _, h2⟩
    · omega
    · exact ⟨b, off, h1, h4, h3⟩
    · omega)
  have HR := Lib.hid hr
  clear hA hr
  go_enter Tryd.func45, Tryd.ntmps45
  go_wp2_with fail
  have HB := Lib.hid (Below.refl w.heap.size w)
  go_loopw [11] (fun i wr => ∃ k : Nat, k ≤ n ∧ i = .int .i64 k ∧ Hid (∀ j, j < k → ¬ (x j = a ∧ y j = b)) ∧ Hid (Below w.heap.size w wr)) (fun i _ => n - (intOf i).toNat)
  case atStart => exact ⟨0, by omega, rfl, Lib.hid (fun j h => by omega), HB⟩
  case round =>
    clear HB
    obtain ⟨k, hk, rfl, HK, HB⟩ := hrel
    by_cases hlt : k < n
    · obtain ⟨b', off, rfl, hnc, hP0⟩ := HP.out (by omega)
      have hp := hP0.later HB.out
      have q0 := hp.c0 k hlt
      have q1 := hp.c1 k hlt
      have hkc : k ≤ c := by omega
      have hm29 : Tryd.prog.eqGuardType Tryd.prog.depth 29 = false := by kernel_rfl
      have he := fun w => pair_eq29 (x k) (y k) a b w
      have HBA := Lib.hid (HB.out.trans ((below_one (w := wr) (.cells #[.int .i64 (x k), .int .i64 (y k)] 29)).mono HB.out.size))
      obtain ⟨c0, c1⟩ := two_cells wr 29 (.int .i64 (x k)) (.int .i64 (y k))
      clear hp hP0 HB
      cases hh : (x k == a && y k == b) with
      | true =>
        rw [hh] at he
        obtain rfl : r = true := HR.out.2 ⟨k, hlt, by simpa using hh⟩
        clear HR HK hh HP
        go_wp2
        go_ret
        exact ⟨rfl, HBA.out⟩
      | false =>
        rw [hh] at he
        have HH := Lib.hid hh
        clear hh
        go_wp2_with fail
        refine ⟨⟨k + 1, by omega, by go_num, Lib.hid (fun j h1 => ?_), HBA⟩, by simp [intOf]; omega⟩
        by_cases e : j = k
        · rw [e]
          have := HH.out
          rw [Bool.eq_false_iff] at this
          exact fun q => this (by simpa using q)
        · exact HK.out j (by omega)
    · obtain rfl : k = n := by omega
      obtain rfl : r = false := by
        rw [Bool.eq_false_iff]
        intro q
        obtain ⟨j, h1, h2⟩ := HR.out.1 q
        exact HK.out j h1 h2
      clear HR HK HP
      go_wp2
      go_ret
      exact ⟨rfl, HB.out⟩
theorem tmod_mul_zero (i D : Int) : Int.tmod (i * D) D = 0 := Int.mul_tmod_left i D
theorem fills_room {x y : Nat → Int} {n : Nat} {v0 v1 u0 u1 : Int} (hg : goodL x y n = true) (hf : fillsB x y n v0 v1 u0 u1 = true) (I J : Int) (hI : ¬ (I = 0 ∧ J = 0)) (k m : Nat) (hk : k < n) (hm : m < n) :
    ¬ (x m = x k + I * v0 + J * u0 ∧ y m = y k + I * v1 + J * u1) := by
  unfold fillsB at hf
  rw [Bool.and_eq_true, decide_eq_true_eq, clearB_iff] at hf
  obtain ⟨hD, hc⟩ := hf
  generalize hd : v0 * u1 - v1 * u0 = D at hD hc
  have hD0 : D ≠ 0 := by omega
  rintro ⟨h1, h2⟩
  rcases Nat.lt_trichotomy k m with h | h | h
  · have := hc m k hm h
    unfold hits at this
    rw [show (x m - x k) * u1 - (y m - y k) * u0 = I * D by grind, show v0 * (y m - y k) - v1 * (x m - x k) = J * D by grind, tmod_mul_zero, tmod_mul_zero] at this
    cases this
  · subst h
    have e1 : I * D = 0 := by grind
    have e2 : J * D = 0 := by grind
    rcases Int.mul_eq_zero.1 e1 with h | h
    · rcases Int.mul_eq_zero.1 e2 with h' | h'
      · exact hI ⟨h, h'⟩
      · exact hD0 h'
    · exact hD0 h
  · have := hc k m hk h
    unfold hits at this
    rw [show (x k - x m) * u1 - (y k - y m) * u0 = (-I) * D by grind, show v0 * (y k - y m) - v1 * (x k - x m) = (-J) * D by grind, tmod_mul_zero, tmod_mul_zero] at this
    cases this
end Go.Proofs.YtpfenoioeajkmaaDoor.X
end

section
set_option linter.unusedVariables false
set_option linter.unusedSimpArgs false
namespace Go.Proofs.YtpfenoioeajkmaaDoor.X
open Go.RowKit Go.Proofs.YtpfenoioeajkmaaDoorW.PrintWords Go.Proofs.YtpfenoioeajkmaaDoorW.PrintLast Go.Proofs.YtpfenoioeajkmaaDoorW.PrintMore
theorem mul_20 {a b : Int} (ha : -20 ≤ a ∧ a ≤ 20) (hb : -100 ≤ b ∧ b ≤ 100) : -2000 ≤ a * b ∧ a * b ≤ 2000 := by
  have h3 : (a * b).natAbs ≤ 20 * 100 := by rw [Int.natAbs_mul]; exact Nat.mul_le_mul (by omega) (by omega)
  omega
theorem moved_w {a I J v u : Int} (ha : -100 ≤ a ∧ a ≤ 100) (hI : -20 ≤ I ∧ I ≤ 20) (hJ : -20 ≤ J ∧ J ≤ 20) (hv : -100 ≤ v ∧ v ≤ 100) (hu : -100 ≤ u ∧ u ≤ 100) :
    wrap64 (wrap64 (a + wrap64 (I * v)) + wrap64 (J * u)) = a + I * v + J * u := by
  have p1 := mul_20 hI hv
  have p2 := mul_20 hJ hu
  generalize I * v = e at *
  generalize J * u = f at *
  unfold wrap64
  omega
theorem deg41 (k : Int) : ∃ I, wrap64 (wrap64 ((IntKind.u64.wrap k).tmod 41) - 20) = I ∧ -20 ≤ I ∧ I ≤ 20 := by
  have h0 := u64_range k
  have hm := Int.emod_nonneg (IntKind.u64.wrap k) (show (41 : Int) ≠ 0 by decide)
  have hm2 := Int.emod_lt_of_pos (IntKind.u64.wrap k) (show (0 : Int) < 41 by decide)
  rw [← Int.tmod_eq_emod_of_nonneg h0] at hm hm2
  refine ⟨_, rfl, ?_⟩
  unfold wrap64
  omega
set_option maxHeartbeats 8000000 in
set_option maxRecDepth 100000 in
theorem MouldsRoom_walk (A : Option Addr) (n c : Nat) (x y : Nat → Int) (v0 v1 u0 u1 i j : Int) (w : World) (hA : Sl w A n c x y) (hn : n ≤ 9223372036854775807) (hc : c ≤ 9223372036854775807) :
    Calls Tryd.prog 11 #[.slice A n c, ptV v0 v1, ptV u0 u1, .int .i64 i, .int .i64 j] w fun e w' => e = .returned (.bool true) ∧ Below w.heap.size w w' := by
  obtain ⟨I, hIw, hI1, hI2⟩ := deg41 i
  obtain ⟨J, hJw, hJ1, hJ2⟩ := deg41 j
  have HA := Lib.hid hA
  unfold ptV
  have hmn : mnN n 33 ≤ 9223372036854775807 := by unfold mnN; split <;> omega
  clear hA
  go_enter Tryd.func11, Tryd.ntmps11
  go_wp2_with fail
  have hb1 := (below_one (w := w) (.cells #[.int .i64 v0, .int .i64 v1] 29)).alloc (by simp) (.cells #[.int .i64 u0, .int .i64 u1] 29)
  have a0 : ((w.alloc (.cells #[.int .i64 v0, .int .i64 v1] 29)).alloc (.cells #[.int .i64 u0, .int .i64 u1] 29)).cell? ⟨w.heap.size, 0, none⟩ = some (.int .i64 v0) := by simp
  have a1 : ((w.alloc (.cells #[.int .i64 v0, .int .i64 v1] 29)).alloc (.cells #[.int .i64 u0, .int .i64 u1] 29)).cell? ⟨w.heap.size, 1, none⟩ = some (.int .i64 v1) := by simp
  have a2 : ((w.alloc (.cells #[.int .i64 v0, .int .i64 v1] 29)).alloc (.cells #[.int .i64 u0, .int .i64 u1] 29)).cell? ⟨w.heap.size + 1, 0, none⟩ = some (.int .i64 u0) := by simp
  have a3 : ((w.alloc (.cells #[.int .i64 v0, .int .i64 v1] 29)).alloc (.cells #[.int .i64 u0, .int .i64 u1] 29)).cell? ⟨w.heap.size + 1, 1, none⟩ = some (.int .i64 u1) := by simp
  have HB := Lib.hid hb1
  have HA1 := Lib.hid (HA.out.later hb1)
  have HC := Lib.hid (And.intro a0 (And.intro a1 (And.intro a2 a3)))
  generalize (w.alloc (.cells #[.int .i64 v0, .int .i64 v1] 29)).alloc (.cells #[.int .i64 u0, .int .i64 u1] 29) = w1 at a0 a1 a2 a3 HB HA1 HC ⊢
  clear hb1 HA
  refine start_ (n := 10) (S := fun w' => w'.cell? ⟨w.heap.size, 0, none⟩ = some (.int .i64 v0) ∧ w'.cell? ⟨w.heap.size, 1, none⟩ = some (.int .i64 v1) ∧ w'.cell? ⟨w.heap.size + 1, 0, none⟩ = some (.int .i64 u0) ∧ w'.cell? ⟨w.heap.size + 1, 1, none⟩ = some (.int .i64 u1)) (ds := [4]) #[false, false, false, false, false, false, false, false, false, false] (by kernel_rfl) rfl rfl ⟨by simpa using a0, by simpa using a1, by simpa using a2, by simpa using a3⟩ (fun hHeld => ?_)
  refine pure_ (i := 0) (N := (some 17)) (v := ?_) (a' := ?_) #[true, false, false, false, false, false, false, false, false, false] rfl rfl (by kernel_rfl) (fun _ _ _ h => h) (Or.inl ⟨by rfl, ?_⟩) ?_ ?_
  rotate_left
  · intro w'; go_simp; first | done | with_reducible rfl
  rotate_left
  · simp only [Act.put, List.setIfInBounds_toArray, List.set_cons_zero, List.set_cons_succ, i64_w, i32_w]; rfl
  refine take_ (i := 2) (N := (some 19)) (v := ?_) (a' := ?_) #[true, false, true, false, false, false, false, false, false, false] rfl rfl (by kernel_rfl) (fun _ _ _ h => h) (Or.inl ⟨by rfl, ?_⟩) hHeld ?_ ?_
  rotate_left
  · rintro w' ⟨s0, s1, s2, s3⟩; go_simp; first | done | with_reducible rfl
  rotate_left
  · simp only [Act.put, List.setIfInBounds_toArray, List.set_cons_zero, List.set_cons_succ, i64_w, i32_w]; rfl
  refine take_ (i := 3) (N := (some 20)) (v := ?_) (a' := ?_) #[true, false, true, true, false, false, false, false, false, false] rfl rfl (by kernel_rfl) (fun _ _ _ h => h) (Or.inl ⟨by rfl, ?_⟩) hHeld ?_ ?_
  rotate_left
  · rintro w' ⟨s0, s1, s2, s3⟩; go_simp; first | done | with_reducible rfl
  rotate_left
  · simp only [Act.put, List.setIfInBounds_toArray, List.set_cons_zero, List.set_cons_succ, i64_w, i32_w]; rfl
  refine one_ (i := 1) (N := (some 18)) #[true, true, true, true, false, false, false, false, false, false] rfl rfl (by kernel_rfl) (by decide) (fun K hK => ?_)
  refine goes_ Tryd.func41 (by kernel_rfl) rfl #[.slice A n c] (by rfl) rfl rfl (by (try simp only [List.map_toArray, List.map_cons, List.map_nil]); first | done | rfl) ?_
  refine (list_calls A n c x y _ (HA1.out.later (Below.refl _ _).drew) hc).mono ?_
  rintro e w2 ⟨⟨A', c', rfl, hS⟩, hb2⟩
  refine ⟨_, rfl, ?_⟩
  have HS := Lib.hid hS
  have hbb := (Below.refl w1.heap.size w1).drew.trans hb2
  have HB2 := Lib.hid hbb
  refine hK.out _ _ (four_later HC.out hbb) (fun hHeld => ?_)
  clear hK K
  refine norm_ (a' := ?_) ?_ ?_
  rotate_left
  · show Act.put _ (some 18) _ = _; simp only [Act.put, List.setIfInBounds_toArray, List.set_cons_zero, List.set_cons_succ, i64_w, i32_w]; rfl
  clear hS hb2 hbb hHeld a0 a1 a2 a3
  by_cases hok : goodL x y n = true ∧ near (v0, v1) = true ∧ near (u0, u1) = true
  · refine last_ (i := 4) (N := (some 21)) #[true, true, true, true, true, false, false, false, false, false] rfl rfl (by kernel_rfl) (by decide) (fun K hK => ?_)
    have hmg := mn_of_good hok.1
    refine goes_ Tryd.func40 (by kernel_rfl) rfl #[.slice A' (mnN n 33) c', ptV v0 v1, ptV u0 u1] (by rfl) rfl rfl (by (try simp only [List.map_toArray, List.map_cons, List.map_nil]); first | done | rfl) ?_
    refine (Fills_good A' (mnN n 33) c' x y v0 v1 u0 u1 w2 HS.out hmn (by rw [goodL_mn]; exact hok.1) hok.2.1 hok.2.2).mono ?_
    rw [hmg]
    rintro e w3 ⟨rfl, hb3⟩
    refine ⟨_, rfl, ?_⟩
    have HB3 := Lib.hid (HB2.out.trans (hb3.mono HB2.out.size))
    refine hK.out _ _ ?_
    clear hK K
    refine norm_ (a' := ?_) ?_ ?_
    rotate_left
    · show Act.put _ (some 21) _ = _; simp only [Act.put, List.setIfInBounds_toArray, List.set_cons_zero, List.set_cons_succ, i64_w, i32_w]; rfl
    refine pure_ (i := 5) (N := (some 16)) (v := ?_) (a' := ?_) #[true, true, true, true, true, true, false, false, false, false] rfl rfl (by kernel_rfl) (fun _ _ _ h => h) (Or.inl ⟨by rfl, ?_⟩) ?_ ?_
    rotate_left
    · intro w'; go_simp; first | done | with_reducible rfl
    rotate_left
    · simp only [Act.put, List.setIfInBounds_toArray, List.set_cons_zero, List.set_cons_succ, i64_w, i32_w]; rfl
    refine pure_ (i := 6) (N := (some 22)) (v := ?_) (a' := ?_) #[true, true, true, true, true, true, true, false, false, false] rfl rfl (by kernel_rfl) (fun _ _ _ h => h) (Or.inl ⟨by rfl, ?_⟩) ?_ ?_
    rotate_left
    · intro w'; go_simp; first | done | with_reducible rfl
    rotate_left
    · simp only [Act.put, List.setIfInBounds_toArray, List.set_cons_zero, List.set_cons_succ, i64_w, i32_w]; rfl
    refine pure_ (i := 7) (N := (some 23)) (v := ?_) (a' := ?_) #[true, true, true, true, true, true, true, true, false, false] rfl rfl (by kernel_rfl) (fun _ _ _ h => h) (Or.inl ⟨by rfl, ?_⟩) ?_ ?_
    rotate_left
    · intro w'; go_simp; first | done | with_reducible rfl
    rotate_left
    · simp only [Act.put, List.setIfInBounds_toArray, List.set_cons_zero, List.set_cons_succ, i64_w, i32_w]; rfl
    refine pure_ (i := 8) (N := (some 11)) (v := ?_) (a' := ?_) #[true, true, true, true, true, true, true, true, true, false] rfl rfl (by kernel_rfl) (fun _ _ _ h => h) (Or.inl ⟨by rfl, ?_⟩) ?_ ?_
    rotate_left
    · intro w'; go_simp; first | done | with_reducible rfl
    rotate_left
    · simp only [Act.put, List.setIfInBounds_toArray, List.set_cons_zero, List.set_cons_succ, i64_w, i32_w]; rfl
    refine pure_ (i := 9) (N := (some 12)) (v := ?_) (a' := ?_) #[true, true, true, true, true, true, true, true, true, true] rfl rfl (by kernel_rfl) (fun _ _ _ h => h) (Or.inl ⟨by rfl, ?_⟩) ?_ ?_
    rotate_left
    · intro w'; go_simp; first | done | with_reducible rfl
    rotate_left
    · simp only [Act.put, List.setIfInBounds_toArray, List.set_cons_zero, List.set_cons_succ, i64_w, i32_w]; rfl
    refine done_ (by kernel_rfl) ?_
    clear hb3
    obtain ⟨b0, b1, b2, b3⟩ := four_later HC.out HB3.out
    have HL := Lib.hid (List_calls A n c x y w3 (HA1.out.later HB3.out) hn)
    rw [hok.1] at HL
    go_wp2_with fail
    refine HL.out.mono ?_
    rintro e w4 ⟨rfl, hb4⟩
    have HB4 := Lib.hid (HB3.out.trans (hb4.mono HB3.out.size))
    clear hb4 b0 b1 b2 b3
    obtain ⟨b0, b1, b2, b3⟩ := four_later HC.out HB4.out
    go_wp2_with fail
    have HN := Lib.hid (Near_calls v0 v1 w4)
    rw [hok.2.1] at HN
    refine HN.out.mono ?_
    rintro e w6 ⟨rfl, hb6⟩
    have HB6 := Lib.hid (HB4.out.trans (hb6.mono HB4.out.size))
    clear hb6 b0 b1 b2 b3
    obtain ⟨b0, b1, b2, b3⟩ := four_later HC.out HB6.out
    go_wp2_with fail
    have HM := Lib.hid (Near_calls u0 u1 w6)
    rw [hok.2.2] at HM
    refine HM.out.mono ?_
    rintro e w7 ⟨rfl, hb7⟩
    have HB7 := Lib.hid (HB6.out.trans (hb7.mono HB6.out.size))
    clear hb7 b0 b1 b2 b3
    obtain ⟨b0, b1, b2, b3⟩ := four_later HC.out HB7.out
    have HG := Lib.hid (goodL_at hok.1)
    have hvb := near_iff.1 hok.2.1
    have hub := near_iff.1 hok.2.2
    have p1 := mul_100 ⟨hvb.1, hvb.2.1⟩ ⟨hub.2.2.1, hub.2.2.2⟩
    have p2 := mul_100 ⟨hvb.2.2.1, hvb.2.2.2⟩ ⟨hub.1, hub.2.1⟩
    have hdet : wrap64 (wrap64 (v0 * u1) - wrap64 (v1 * u0)) = v0 * u1 - v1 * u0 := by
      generalize v0 * u1 = a at *
      generalize v1 * u0 = b at *
      unfold wrap64
      omega
    have hDb : -20000 ≤ v0 * u1 - v1 * u0 ∧ v0 * u1 - v1 * u0 ≤ 20000 := by
      generalize v0 * u1 = a at *
      generalize v1 * u0 = b at *
      omega
    have HV := Lib.hid (And.intro hvb hub)
    clear p1 p2 hvb hub
    cases hF : fillsB x y n v0 v1 u0 u1 with
    | false =>
      go_wp2_with fail
      refine (awake_ok _).mono ?_
      rintro e w5 ⟨rfl, hb5⟩
      have HB5 := Lib.hid (HB.out.trans ((HB7.out.trans (hb5.mono HB7.out.size)).mono HB.out.size))
      clear hb5
      go_wp2
      go_ret
      exact ⟨rfl, HB5.out⟩
    | true =>
      have HF := Lib.hid hF
      have hmax : max (v0 * u1 - v1 * u0) (-(v0 * u1 - v1 * u0)) = (n : Int) := by
        unfold fillsB at hF
        rw [Bool.and_eq_true, decide_eq_true_eq] at hF
        exact hF.1
      clear hF
      have HW := Lib.hid (And.intro hIw hJw)
      generalize hD : v0 * u1 - v1 * u0 = D at hdet hDb hmax
      have hneg : wrap64 (-D) = -D := by unfold wrap64; omega
      have hne : (max D (-D) == (n : Int)) = true := by simp [hmax]
      by_cases hz : I = 0 ∧ J = 0
      · obtain ⟨rfl, rfl⟩ := hz
        clear hok hmg
        go_wp2_with fail
        refine (awake_ok _).mono ?_
        rintro e w5 ⟨rfl, hb5⟩
        have HB5 := Lib.hid (HB.out.trans ((HB7.out.trans (hb5.mono HB7.out.size)).mono HB.out.size))
        clear hb5
        go_wp2
        go_ret
        exact ⟨rfl, HB5.out⟩
      · have HZ := Lib.hid hz
        have HN := Lib.hid hok
        clear hok
        by_cases hI0 : I = 0
        · have hJ0 : ¬ J = 0 := fun q => hz ⟨hI0, q⟩
          have hIb : (I == 0) = true := by simp [hI0]
          have hJb : (J == 0) = false := by simp [hJ0]
          clear hz hI0
          go_wp2_with fail
          (try rw [hJb])
          clear hIb hJ0 hJb
          have HA7 := Lib.hid (HA1.out.later HB7.out)
          have HBl := Lib.hid (Below.refl w7.heap.size w7)
          (try simp only [hIw, hJw])
          clear hne hneg hmax hdet hDb hIw hJw
          go_loopw [90] (fun i wr => ∃ k : Nat, k ≤ n ∧ i = .int .i64 k ∧ Hid (Below w7.heap.size w7 wr)) (fun i _ => n - (intOf i).toNat)
          case atStart => exact ⟨0, by omega, rfl, HBl⟩
          case round =>
            clear HBl
            obtain ⟨k, hk, rfl, HBl⟩ := hrel
            by_cases hlt : k < n
            · obtain ⟨b', off, rfl, hnc, hP0⟩ : ∃ b off, A = some ⟨b, off, none⟩ ∧ n ≤ c ∧ Pts w7 b off n x y := by
                rcases HA7.out with ⟨_, h2, _⟩ | h | ⟨_, _, h2⟩
                · omega
                · exact h
                · omega
              have hp := hP0.later HBl.out
              have q0 := hp.c0 k hlt
              have q1 := hp.c1 k hlt
              have hkc : k ≤ c := by omega
              have hba := below_one (w := wr) (.cells #[.int .i64 (x k), .int .i64 (y k)] 29)
              have HBA := Lib.hid (HBl.out.trans (hba.mono HBl.out.size))
              obtain ⟨c0, c1⟩ := two_cells wr 29 (.int .i64 (x k)) (.int .i64 (y k))
              have hcs := four_later HC.out (HB7.out.trans (HBA.out.mono HB7.out.size))
              obtain ⟨d0, d1, d2, d3⟩ := hcs
              clear hp hP0 HBl b0 b1 b2 b3
              go_wp2_with fail
              clear q0 q1 c0 c1 d0 d1 d2 d3
              obtain ⟨⟨hv1, hv2, hv3, hv4⟩, hu1, hu2, hu3, hu4⟩ := HV.out
              obtain ⟨gx1, gx2, gy1, gy2⟩ := HG.out.2 k hlt
              rw [moved_w (a := x k) ⟨gx1, gx2⟩ ⟨hI1, hI2⟩ ⟨hJ1, hJ2⟩ ⟨hv1, hv2⟩ ⟨hu1, hu2⟩, moved_w (a := y k) ⟨gy1, gy2⟩ ⟨hI1, hI2⟩ ⟨hJ1, hJ2⟩ ⟨hv3, hv4⟩ ⟨hu3, hu4⟩]
              refine (In_calls _ n c x y _ _ _ ((HA7.out.later HBA.out)) hn false ?_).mono ?_
              · refine ⟨fun q => (by cases q), ?_⟩
                rintro ⟨m, hm, e1, e2⟩
                exact absurd ⟨e1, e2⟩ (fills_room HN.out.1 HF.out I J HZ.out k m hlt hm)
              · rintro e w8 ⟨rfl, hb8⟩
                have HB8 := Lib.hid (HBA.out.trans (hb8.mono HBA.out.size))
                clear hb8
                go_wp2_with fail
                exact ⟨⟨k + 1, by omega, by go_num, HB8⟩, by simp [intOf]; omega⟩
            · obtain rfl : k = n := by omega
              clear b0 b1 b2 b3
              go_wp2_with fail
              refine (awake_ok _).mono ?_
              rintro e w5 ⟨rfl, hb5⟩
              have HB5 := Lib.hid (HB.out.trans ((HB7.out.trans ((HBl.out.trans (hb5.mono HBl.out.size)).mono HB7.out.size)).mono HB.out.size))
              clear hb5
              go_wp2
              go_ret
              exact ⟨rfl, HB5.out⟩
        · clear hz
          go_wp2_with fail
          have HA7 := Lib.hid (HA1.out.later HB7.out)
          have HBl := Lib.hid (Below.refl w7.heap.size w7)
          (try simp only [hIw, hJw])
          clear hne hneg hmax hdet hDb hIw hJw
          go_loopw [90] (fun i wr => ∃ k : Nat, k ≤ n ∧ i = .int .i64 k ∧ Hid (Below w7.heap.size w7 wr)) (fun i _ => n - (intOf i).toNat)
          case atStart => exact ⟨0, by omega, rfl, HBl⟩
          case round =>
            clear HBl
            obtain ⟨k, hk, rfl, HBl⟩ := hrel
            by_cases hlt : k < n
            · obtain ⟨b', off, rfl, hnc, hP0⟩ : ∃ b off, A = some ⟨b, off, none⟩ ∧ n ≤ c ∧ Pts w7 b off n x y := by
                rcases HA7.out with ⟨_, h2, _⟩ | h | ⟨_, _, h2⟩
                · omega
                · exact h
                · omega
              have hp := hP0.later HBl.out
              have q0 := hp.c0 k hlt
              have q1 := hp.c1 k hlt
              have hkc : k ≤ c := by omega
              have hba := below_one (w := wr) (.cells #[.int .i64 (x k), .int .i64 (y k)] 29)
              have HBA := Lib.hid (HBl.out.trans (hba.mono HBl.out.size))
              obtain ⟨c0, c1⟩ := two_cells wr 29 (.int .i64 (x k)) (.int .i64 (y k))
              have hcs := four_later HC.out (HB7.out.trans (HBA.out.mono HB7.out.size))
              obtain ⟨d0, d1, d2, d3⟩ := hcs
              clear hp hP0 HBl b0 b1 b2 b3
              go_wp2_with fail
              clear q0 q1 c0 c1 d0 d1 d2 d3
              obtain ⟨⟨hv1, hv2, hv3, hv4⟩, hu1, hu2, hu3, hu4⟩ := HV.out
              obtain ⟨gx1, gx2, gy1, gy2⟩ := HG.out.2 k hlt
              rw [moved_w (a := x k) ⟨gx1, gx2⟩ ⟨hI1, hI2⟩ ⟨hJ1, hJ2⟩ ⟨hv1, hv2⟩ ⟨hu1, hu2⟩, moved_w (a := y k) ⟨gy1, gy2⟩ ⟨hI1, hI2⟩ ⟨hJ1, hJ2⟩ ⟨hv3, hv4⟩ ⟨hu3, hu4⟩]
              refine (In_calls _ n c x y _ _ _ ((HA7.out.later HBA.out)) hn false ?_).mono ?_
              · refine ⟨fun q => (by cases q), ?_⟩
                rintro ⟨m, hm, e1, e2⟩
                exact absurd ⟨e1, e2⟩ (fills_room HN.out.1 HF.out I J HZ.out k m hlt hm)
              · rintro e w8 ⟨rfl, hb8⟩
                have HB8 := Lib.hid (HBA.out.trans (hb8.mono HBA.out.size))
                clear hb8
                go_wp2_with fail
                exact ⟨⟨k + 1, by omega, by go_num, HB8⟩, by simp [intOf]; omega⟩
            · obtain rfl : k = n := by omega
              clear b0 b1 b2 b3
              go_wp2_with fail
              refine (awake_ok _).mono ?_
              rintro e w5 ⟨rfl, hb5⟩
              have HB5 := Lib.hid (HB.out.trans ((HB7.out.trans ((HBl.out.trans (hb5.mono HBl.out.size)).mono HB7.out.size)).mono HB.out.size))
              clear hb5
              go_wp2
              go_ret
              exact ⟨rfl, HB5.out⟩
  · skip
    refine last_ (i := 4) (N := (some 21)) #[true, true, true, true, true, false, false, false, false, false] rfl rfl (by kernel_rfl) (by decide) (fun K hK => ?_)
    refine goes_ Tryd.func40 (by kernel_rfl) rfl #[.slice A' (mnN n 33) c', ptV v0 v1, ptV u0 u1] (by rfl) rfl rfl (by (try simp only [List.map_toArray, List.map_cons, List.map_nil]); first | done | rfl) ?_
    refine (Fills_refused A' (mnN n 33) c' x y v0 v1 u0 u1 w2 HS.out hmn (by rw [goodL_mn]; exact hok)).mono ?_
    rintro e w3 ⟨rfl, hb3⟩
    refine ⟨_, rfl, ?_⟩
    have HB3 := Lib.hid (HB2.out.trans (hb3.mono HB2.out.size))
    refine hK.out _ _ ?_
    clear hK K
    refine norm_ (a' := ?_) ?_ ?_
    rotate_left
    · show Act.put _ (some 21) _ = _; simp only [Act.put, List.setIfInBounds_toArray, List.set_cons_zero, List.set_cons_succ, i64_w, i32_w]; rfl
    refine pure_ (i := 5) (N := (some 16)) (v := ?_) (a' := ?_) #[true, true, true, true, true, true, false, false, false, false] rfl rfl (by kernel_rfl) (fun _ _ _ h => h) (Or.inl ⟨by rfl, ?_⟩) ?_ ?_
    rotate_left
    · intro w'; go_simp; first | done | with_reducible rfl
    rotate_left
    · simp only [Act.put, List.setIfInBounds_toArray, List.set_cons_zero, List.set_cons_succ, i64_w, i32_w]; rfl
    refine pure_ (i := 6) (N := (some 22)) (v := ?_) (a' := ?_) #[true, true, true, true, true, true, true, false, false, false] rfl rfl (by kernel_rfl) (fun _ _ _ h => h) (Or.inl ⟨by rfl, ?_⟩) ?_ ?_
    rotate_left
    · intro w'; go_simp; first | done | with_reducible rfl
    rotate_left
    · simp only [Act.put, List.setIfInBounds_toArray, List.set_cons_zero, List.set_cons_succ, i64_w, i32_w]; rfl
    refine pure_ (i := 7) (N := (some 23)) (v := ?_) (a' := ?_) #[true, true, true, true, true, true, true, true, false, false] rfl rfl (by kernel_rfl) (fun _ _ _ h => h) (Or.inl ⟨by rfl, ?_⟩) ?_ ?_
    rotate_left
    · intro w'; go_simp; first | done | with_reducible rfl
    rotate_left
    · simp only [Act.put, List.setIfInBounds_toArray, List.set_cons_zero, List.set_cons_succ, i64_w, i32_w]; rfl
    refine pure_ (i := 8) (N := (some 11)) (v := ?_) (a' := ?_) #[true, true, true, true, true, true, true, true, true, false] rfl rfl (by kernel_rfl) (fun _ _ _ h => h) (Or.inl ⟨by rfl, ?_⟩) ?_ ?_
    rotate_left
    · intro w'; go_simp; first | done | with_reducible rfl
    rotate_left
    · simp only [Act.put, List.setIfInBounds_toArray, List.set_cons_zero, List.set_cons_succ, i64_w, i32_w]; rfl
    refine pure_ (i := 9) (N := (some 12)) (v := ?_) (a' := ?_) #[true, true, true, true, true, true, true, true, true, true] rfl rfl (by kernel_rfl) (fun _ _ _ h => h) (Or.inl ⟨by rfl, ?_⟩) ?_ ?_
    rotate_left
    · intro w'; go_simp; first | done | with_reducible rfl
    rotate_left
    · simp only [Act.put, List.setIfInBounds_toArray, List.set_cons_zero, List.set_cons_succ, i64_w, i32_w]; rfl
    refine done_ (by kernel_rfl) ?_
    clear hb3
    go_wp2_with fail
    refine (awake_ok _).mono ?_
    rintro e w5 ⟨rfl, hb5⟩
    have HB5 := Lib.hid (HB.out.trans ((HB3.out.trans (hb5.mono HB3.out.size)).mono HB.out.size))
    clear hb5
    go_wp2
    go_ret
    exact ⟨rfl, HB5.out⟩
end Go.Proofs.YtpfenoioeajkmaaDoor.X
end

section
set_option linter.unusedVariables false
namespace Go.Proofs.YtpfenoioeajkmaaDoor.X
open Go.RowKit Go.WideShapes Go.WideMaps Go.Deep Go.ChangeShapes Go.Proofs.YtpfenoioeajkmaaDoorW.PrintWords Go.Proofs.YtpfenoioeajkmaaDoorW.PrintLast Go.Proofs.YtpfenoioeajkmaaDoorW.PrintMore
theorem arr29 : ArrKey Tryd.prog 29 3 2 := ⟨Tryd.underlying29, by kernel_rfl, by kernel_rfl, by kernel_rfl⟩
theorem cells29 : Tryd.prog.cellsOf 29 = 2 := by kernel_rfl
theorem cells3 : Tryd.prog.cellsOf 3 = 1 := by kernel_rfl
set_option maxRecDepth 10000 in
theorem pair_trod {H : Type} {enc : TypeId × Value → H} {w : World} {base : Nat} {sp : Nat → Bool} {held : Bool} {fuel : Nat} {cs : List Value} {x : DataW H × List MemPlace} (h : DataW.trod enc Tryd.prog w base sp held fuel 29 cs = some x) : ∃ a b : Int, cs = [.int .i64 a, .int .i64 b] := by
  obtain ⟨xs, m, _, _, hl, hn, hel⟩ := DataW.trod_array Tryd.underlying29 h
  rw [cells29] at hl
  match cs, hl with
  | [c0, c1], _ =>
    have h0 := hel 0 (by decide)
    have h1 := hel 1 (by decide)
    rw [cells3] at h0 h1
    rw [List.getElem?_eq_getElem (by omega)] at h0 h1
    obtain ⟨a, e0, _⟩ := DataW.trod_int Tryd.underlying3 h0
    obtain ⟨b, e1, _⟩ := DataW.trod_int Tryd.underlying3 h1
    simp at e0 e1
    exact ⟨a, b, by rw [e0, e1]⟩
theorem open_pts {H : Type} {enc : TypeId × Value → H} {w : World} {base : Nat} {held : Bool} {fuel : Nat} {A : Option Addr} {n c : Nat} {x : DataW H × List MemPlace} (h : DataW.trod enc Tryd.prog w base (fun _ => true) held fuel 45 [.slice A n c] = some x) :
    (∃ px py, Sl w A n c px py) ∧ n ≤ 9223372036854775807 ∧ c ≤ 9223372036854775807 := by
  rcases open_slice Tryd.underlying45 h with ⟨hcs, _⟩ | ⟨a, len, cap, m, k, D, Pl, hcs, _, hl, hm, hmm, _, hx⟩
  · simp at hcs
    obtain ⟨rfl, rfl, rfl⟩ := hcs
    exact ⟨⟨fun _ => 0, fun _ => 0, .inl ⟨rfl, rfl, rfl⟩⟩, by decide, by decide⟩
  · simp at hcs
    obtain ⟨rfl, rfl, rfl⟩ := hcs
    unfold maxLen at hm
    refine ⟨?_, by omega, by omega⟩
    rcases Nat.eq_zero_or_pos n with h0 | h0
    · exact ⟨fun _ => 0, fun _ => 0, .inr (.inr ⟨a, rfl, h0⟩)⟩
    · have hnm : n ≤ m := by rw [hmm]; simpa using hl
      obtain ⟨f, hf⟩ := choose_lt (α := Int × Int) (n := n) (p := fun i q => w.cell? (a.add (i * 2)) = some (.int .i64 q.1) ∧ w.cell? (a.add (i * 2 + 1)) = some (.int .i64 q.2)) (fun i hi => by
        obtain ⟨cs', h1, h2⟩ := hx i (by omega)
        obtain ⟨p, q, rfl⟩ := pair_trod h2
        rw [cells29] at h1
        obtain ⟨_, _, h3⟩ := World.cells?_some h1
        refine ⟨(p, q), ?_, ?_⟩
        · have := h3 0 (by decide)
          rw [Addr.add_add] at this
          simpa using this
        · have := h3 1 (by decide)
          rw [Addr.add_add] at this
          simpa using this)
      have hsp : a.spot = none := by
        have := (hf 0 h0).1
        rw [show a.add (0 * 2) = a by simp [Addr.add]] at this
        exact World.cell?_spot this
      have ha : ∀ j, a.add j = ⟨a.block, a.off + j, none⟩ := fun j => by
        unfold Addr.add
        by_cases hj : j = 0
        · subst hj
          rw [if_pos rfl, ← hsp]
          simp
        · rw [if_neg hj]
      refine ⟨fun i => (f i).1, fun i => (f i).2, .inr (.inl ⟨a.block, a.off, ?_, hl, fun i hi => ?_, fun i hi => ?_⟩)⟩
      · rw [← hsp]
      · rw [← ha]; exact (hf i hi).1
      · rw [Nat.add_assoc, ← ha]; exact (hf i hi).2
theorem open_ptsT {H : Type} {enc : TypeId × Value → H} {w : World} {base : Nat} {held : Bool} {A : Option Addr} {n c : Nat} {d : DataW H} {pl : List MemPlace} (h : DataW.Trod enc Tryd.prog w base (fun _ => true) held 45 (.slice A n c) d pl) :
    (∃ px py, Sl w A n c px py) ∧ n ≤ 9223372036854775807 ∧ c ≤ 9223372036854775807 := by
  obtain ⟨m, hm⟩ := h
  exact open_pts hm
end Go.Proofs.YtpfenoioeajkmaaDoor.X
end

section
namespace Go.Proofs.YtpfenoioeajkmaaDoor.X
open Go.RowKit Go.Proofs.YtpfenoioeajkmaaDoorW.PrintWords Go.Proofs.YtpfenoioeajkmaaDoorW.PrintLast Go.Proofs.YtpfenoioeajkmaaDoorW.PrintMore
theorem MouldsRoom.calls (A : Option Addr) (n c : Nat) (x y : Nat → Int) (v0 v1 u0 u1 i j : Int) (w : World) (hA : Sl w A n c x y) (hn : n ≤ 9223372036854775807) (hc : c ≤ 9223372036854775807) :
    Calls Tryd.prog 11 #[.slice A n c, ptV v0 v1, ptV u0 u1, .int .i64 i, .int .i64 j] w fun e w' => e = .returned (.bool true) ∧ Below w.heap.size w w' := MouldsRoom_walk A n c x y v0 v1 u0 u1 i j w hA hn hc
end Go.Proofs.YtpfenoioeajkmaaDoor.X
end
