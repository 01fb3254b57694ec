/- Texts of this claim, merged by a program (wip/tools/shake.py); what nothing names is left out. -/
import Derived.Shelf.Sort.Plain
import Derived.Shelf.SlSortCmp.WholeK
import Derived.Ground.SlsfProg
import Derived.Ground.Names2Prog
import Derived.Test.YtpfenoioeajkmaaDoorProg
import Derived.Maps.OwnOps
import Derived.Maps.OwnSet
import Derived.Maps.Views
import Derived.Maps.RangeWalk
import Derived.Test.YtpfenoioeajkmaaDoorSrb
section
set_option linter.unusedVariables false
set_option linter.unusedSimpArgs false
namespace Go.Proofs.YtpfenoioeajkmaaDoor.X
open Go.RowKit Go.Proofs.YtpfenoioeajkmaaDoorW.PrintWords Go.Proofs.YtpfenoioeajkmaaDoorW.PrintLast Go.Proofs.YtpfenoioeajkmaaDoorW.PrintMore Go.Proofs.YtpfenoioeajkmaaDoor.L
set_option maxHeartbeats 8000000 in
set_option maxRecDepth 100000 in
theorem Outline_bad (A : Option Addr) (n c : Nat) (x y : Nat → Int) (w : World) (hA : Sl w A n c x y) (hn : n ≤ 9223372036854775807) (hg : goodL x y n = false) :
    Calls Tryd.prog 46 #[.slice A n c] w fun e w' => e = .returned (.tuple #[.string ⟨#[]⟩, .int .i64 2]) ∧ Below w.heap.size w w' := by
  have HA := Lib.hid hA
  have HG := Lib.hid hg
  clear hA hg
  go_enter Tryd.func46, Tryd.ntmps46
  go_wp2_with fail
  refine (read_all A n c x y _ HA.out hn).mono ?_
  rintro e w1 ⟨⟨hg, -⟩ | ⟨-, rfl⟩, hb⟩
  · rw [HG.out] at hg
    cases hg
  · have HB := Lib.hid hb
    clear hb
    go_wp2
    go_ret2
    exact ⟨rfl, HB.out⟩
set_option maxHeartbeats 32000000 in
set_option maxRecDepth 100000 in
theorem Outline_calls (A : Option Addr) (n c : Nat) (x y : Nat → Int) (w : World) (hA : Sl w A n c x y) (hg : goodL x y n = true) (K : Nat) (r : ByteArray) (d : Int) (hR : OutR (sidesTo (inB x y n) x y n) (x 0, y 0) K r d) :
    Calls Tryd.prog 46 #[.slice A n c] w fun e w' => e = .returned (.tuple #[.string r, .int .i64 d]) ∧ Below w.heap.size w w' := by
  obtain ⟨⟨hn1, hn30⟩, hxy⟩ := goodL_at hg
  have HGT : Hid (goodTo x y n = true) := Lib.hid (by unfold goodL at hg; rw [Bool.and_eq_true] at hg; exact hg.2)
  have HR := Lib.hid hR
  have HG := Lib.hid hxy
  have HGL := Lib.hid hg
  have HA := Lib.hid hA
  clear hA hg hxy hR
  go_enter Tryd.func46, Tryd.ntmps46
  go_wp2_with fail
  refine (read_all A n c x y _ HA.out (by omega)).mono ?_
  rintro e w1 ⟨⟨hg, A', c', rfl, hs⟩ | ⟨hg, -⟩, hb⟩
  rotate_left
  · rw [HGL.out] at hg
    cases hg
  obtain ⟨b', off, rfl, hnc, hp⟩ : ∃ b off, A' = some ⟨b, off, none⟩ ∧ n ≤ c' ∧ Pts w1 b off n x y := by
    rcases hs with ⟨_, h2, _⟩ | ⟨b, off, h1, h4, h3⟩ | ⟨_, _, h2⟩
    · omega
    · exact ⟨b, off, h1, h4, h3⟩
    · omega
  have HB1 := Lib.hid hb
  have HS1 := Lib.hid hs
  have HP1 := Lib.hid hp
  clear hb hs hp hg HA
  go_wp2_with (first | ((with_reducible refine gate_op (op := .makeMap 71 none) rfl ?_); refine map_make_event rfl 71 rfl ?_; intro r0 wm hr0 hm hb; have HM := Lib.hid (IsM.mk' (enc := pairV) (encv := Value.int .u8) (l := []) hm rfl); have HB4 := Lib.hid hb; have HZ := Lib.hid hr0; clear hm hb hr0) | fail)
  have HO : Hid (OuS w1 (mapOf (sidesTo (inB x y n) x y 0)) wm) := Lib.hid ⟨HZ.out ▸ HM.out, HB4.out⟩
  obtain rfl := HZ.out
  clear HM HB4 HZ
  go_loopw [26, 7] (fun i v wr => ∃ k : Nat, k ≤ n ∧ i = .int .i64 k ∧ v = .int .i64 ((sidesTo (inB x y n) x y k).length : Nat) ∧ Hid (OuS w1 (mapOf (sidesTo (inB x y n) x y k)) wr)) (fun i _ _ => n - (intOf i).toNat)
  case atStart => exact ⟨0, by omega, rfl, rfl, HO⟩
  case round =>
    clear HO
    obtain ⟨k, hk, rfl, rfl, HO⟩ := hrel
    by_cases hlt : k < n
    · have hP := HP1.out.later HO.out.bl
      have h0 := hP.c0 k hlt
      have h1 := hP.c1 k hlt
      have hbx := HG.out k hlt
      have hL : (sidesTo (inB x y n) x y k).length ≤ 120 := by have := sidesTo_length (inB x y n) x y k; omega
      obtain ⟨E, hE⟩ : ∃ E, sidesTo (inB x y n) x y k = E := ⟨_, rfl⟩
      rw [hE] at HO hL ⊢
      obtain ⟨X, hX⟩ : ∃ X, x k = X := ⟨_, rfl⟩
      obtain ⟨Y, hY⟩ : ∃ Y, y k = Y := ⟨_, rfl⟩
      rw [hX] at h0 hbx
      rw [hY] at h1 hbx
      have HXY := Lib.hid (And.intro hX (And.intro hY hE))
      have hkc : k < c' := by omega
      clear hX hY hP hE
      go_wp2_with fail
      obtain ⟨w2, hw2⟩ : ∃ w2, w2 = wr.alloc (.cells #[.int .i64 X, .int .i64 Y] 63) := ⟨_, rfl⟩
      have q0 : w2.cell? ⟨wr.heap.size, 0, none⟩ = some (.int .i64 X) := by rw [hw2]; simp
      have q1 : w2.cell? ⟨wr.heap.size, 1, none⟩ = some (.int .i64 Y) := by rw [hw2]; simp
      have hb2 : Below wr.heap.size wr w2 := by rw [hw2]; exact below_one _
      have HO2 : Hid (OuS w1 (mapOf E) w2.drew) := Lib.hid (HO.out.later hb2.drew)
      rw [← hw2]
      clear hw2 hb2 HO h0 h1
      generalize wr.heap.size = G at q0 q1 ⊢
      refine start_ (n := 29) (S := fun w' => w'.cell? ⟨G, 0, none⟩ = some (.int .i64 X) ∧ w'.cell? ⟨G, 1, none⟩ = some (.int .i64 Y)) (ds := [26]) #[false, false, false, false, false, false, false, false, false, false, false, false, false, false, false, false, false, false, false, false, false, false, false, false, false, false, false, false, false] (by kernel_rfl) rfl rfl ⟨by simpa using q0, by simpa using q1⟩ (fun hHeld => ?_)
      refine take_ (i := 0) (N := (some 30)) (v := ?_) (a' := ?_) #[true, false, false, false, false, false, false, false, false, false, false, false, false, false, false, false, false, false, false, false, false, false, false, false, false, false, false, false, false] rfl rfl (by kernel_rfl) (fun _ _ _ h => h) (Or.inl ⟨by rfl, ?_⟩) hHeld ?_ ?_
      rotate_left
      · rintro w' ⟨s0, s1⟩; go_simp; first | done | with_reducible rfl
      rotate_left
      · simp only [Act.put, List.setIfInBounds_toArray, List.set_cons_zero, List.set_cons_succ, i64_w, i32_w]; rfl
      refine take_ (i := 1) (N := (some 31)) (v := ?_) (a' := ?_) #[true, true, false, false, false, false, false, false, false, false, false, false, false, false, false, false, false, false, false, false, false, false, false, false, false, false, false, false, false] rfl rfl (by kernel_rfl) (fun _ _ _ h => h) (Or.inl ⟨by rfl, ?_⟩) hHeld ?_ ?_
      rotate_left
      · rintro w' ⟨s0, s1⟩; go_simp; first | done | with_reducible rfl
      rotate_left
      · simp only [Act.put, List.setIfInBounds_toArray, List.set_cons_zero, List.set_cons_succ, i64_w, i32_w]; rfl
      refine take_ (i := 5) (N := (some 35)) (v := ?_) (a' := ?_) #[true, true, false, false, false, true, false, false, false, false, false, false, false, false, false, false, false, false, false, false, false, false, false, false, false, false, false, false, false] rfl rfl (by kernel_rfl) (fun _ _ _ h => h) (Or.inl ⟨by rfl, ?_⟩) hHeld ?_ ?_
      rotate_left
      · rintro w' ⟨s0, s1⟩; go_simp; first | done | with_reducible rfl
      rotate_left
      · simp only [Act.put, List.setIfInBounds_toArray, List.set_cons_zero, List.set_cons_succ, i64_w, i32_w]; rfl
      refine take_ (i := 8) (N := (some 38)) (v := ?_) (a' := ?_) #[true, true, false, false, false, true, false, false, true, false, false, false, false, false, false, false, false, false, false, false, false, false, false, false, false, false, false, false, false] rfl rfl (by kernel_rfl) (fun _ _ _ h => h) (Or.inl ⟨by rfl, ?_⟩) hHeld ?_ ?_
      rotate_left
      · rintro w' ⟨s0, s1⟩; go_simp; first | done | with_reducible rfl
      rotate_left
      · simp only [Act.put, List.setIfInBounds_toArray, List.set_cons_zero, List.set_cons_succ, i64_w, i32_w]; rfl
      refine take_ (i := 12) (N := (some 42)) (v := ?_) (a' := ?_) #[true, true, false, false, false, true, false, false, true, false, false, false, true, false, false, false, false, false, false, false, false, false, false, false, false, false, false, false, false] rfl rfl (by kernel_rfl) (fun _ _ _ h => h) (Or.inl ⟨by rfl, ?_⟩) hHeld ?_ ?_
      rotate_left
      · rintro w' ⟨s0, s1⟩; go_simp; first | done | with_reducible rfl
      rotate_left
      · simp only [Act.put, List.setIfInBounds_toArray, List.set_cons_zero, List.set_cons_succ, i64_w, i32_w]; rfl
      refine take_ (i := 15) (N := (some 45)) (v := ?_) (a' := ?_) #[true, true, false, false, false, true, false, false, true, false, false, false, true, false, false, true, false, false, false, false, false, false, false, false, false, false, false, false, false] rfl rfl (by kernel_rfl) (fun _ _ _ h => h) (Or.inl ⟨by rfl, ?_⟩) hHeld ?_ ?_
      rotate_left
      · rintro w' ⟨s0, s1⟩; go_simp; first | done | with_reducible rfl
      rotate_left
      · simp only [Act.put, List.setIfInBounds_toArray, List.set_cons_zero, List.set_cons_succ, i64_w, i32_w]; rfl
      refine take_ (i := 19) (N := (some 49)) (v := ?_) (a' := ?_) #[true, true, false, false, false, true, false, false, true, false, false, false, true, false, false, true, false, false, false, true, false, false, false, false, false, false, false, false, false] rfl rfl (by kernel_rfl) (fun _ _ _ h => h) (Or.inl ⟨by rfl, ?_⟩) hHeld ?_ ?_
      rotate_left
      · rintro w' ⟨s0, s1⟩; go_simp; first | done | with_reducible rfl
      rotate_left
      · simp only [Act.put, List.setIfInBounds_toArray, List.set_cons_zero, List.set_cons_succ, i64_w, i32_w]; rfl
      refine take_ (i := 22) (N := (some 52)) (v := ?_) (a' := ?_) #[true, true, false, false, false, true, false, false, true, false, false, false, true, false, false, true, false, false, false, true, false, false, true, false, false, false, false, false, false] rfl rfl (by kernel_rfl) (fun _ _ _ h => h) (Or.inl ⟨by rfl, ?_⟩) hHeld ?_ ?_
      rotate_left
      · rintro w' ⟨s0, s1⟩; go_simp; first | done | with_reducible rfl
      rotate_left
      · simp only [Act.put, List.setIfInBounds_toArray, List.set_cons_zero, List.set_cons_succ, i64_w, i32_w]; rfl
      refine pure_ (i := 2) (N := (some 32)) (v := ?_) (a' := ?_) #[true, true, true, false, false, true, false, false, true, false, false, false, true, false, false, true, false, false, false, true, false, false, true, false, false, false, false, false, false] rfl rfl (by kernel_rfl) (fun _ _ _ h => h) (Or.inl ⟨by rfl, ?_⟩) ?_ ?_
      rotate_left
      · intro w'; go_simp; first | done | with_reducible rfl
      rotate_left
      · simp only [Act.put, List.setIfInBounds_toArray, List.set_cons_zero, List.set_cons_succ, i64_w, i32_w]; rfl
      refine pure_ (i := 6) (N := (some 36)) (v := ?_) (a' := ?_) #[true, true, true, false, false, true, true, false, true, false, false, false, true, false, false, true, false, false, false, true, false, false, true, false, false, false, false, false, false] rfl rfl (by kernel_rfl) (fun _ _ _ h => h) (Or.inl ⟨by rfl, ?_⟩) ?_ ?_
      rotate_left
      · intro w'; go_simp; first | done | with_reducible rfl
      rotate_left
      · simp only [Act.put, List.setIfInBounds_toArray, List.set_cons_zero, List.set_cons_succ, i64_w, i32_w]; rfl
      refine pure_ (i := 9) (N := (some 39)) (v := ?_) (a' := ?_) #[true, true, true, false, false, true, true, false, true, true, false, false, true, false, false, true, false, false, false, true, false, false, true, false, false, false, false, false, false] rfl rfl (by kernel_rfl) (fun _ _ _ h => h) (Or.inl ⟨by rfl, ?_⟩) ?_ ?_
      rotate_left
      · intro w'; go_simp; first | done | with_reducible rfl
      rotate_left
      · simp only [Act.put, List.setIfInBounds_toArray, List.set_cons_zero, List.set_cons_succ, i64_w, i32_w]; rfl
      refine pure_ (i := 13) (N := (some 43)) (v := ?_) (a' := ?_) #[true, true, true, false, false, true, true, false, true, true, false, false, true, true, false, true, false, false, false, true, false, false, true, false, false, false, false, false, false] rfl rfl (by kernel_rfl) (fun _ _ _ h => h) (Or.inl ⟨by rfl, ?_⟩) ?_ ?_
      rotate_left
      · intro w'; go_simp; first | done | with_reducible rfl
      rotate_left
      · simp only [Act.put, List.setIfInBounds_toArray, List.set_cons_zero, List.set_cons_succ, i64_w, i32_w]; rfl
      refine pure_ (i := 16) (N := (some 46)) (v := ?_) (a' := ?_) #[true, true, true, false, false, true, true, false, true, true, false, false, true, true, false, true, true, false, false, true, false, false, true, false, false, false, false, false, false] rfl rfl (by kernel_rfl) (fun _ _ _ h => h) (Or.inl ⟨by rfl, ?_⟩) ?_ ?_
      rotate_left
      · intro w'; go_simp; first | done | with_reducible rfl
      rotate_left
      · simp only [Act.put, List.setIfInBounds_toArray, List.set_cons_zero, List.set_cons_succ, i64_w, i32_w]; rfl
      refine pure_ (i := 20) (N := (some 50)) (v := ?_) (a' := ?_) #[true, true, true, false, false, true, true, false, true, true, false, false, true, true, false, true, true, false, false, true, true, false, true, false, false, false, false, false, false] rfl rfl (by kernel_rfl) (fun _ _ _ h => h) (Or.inl ⟨by rfl, ?_⟩) ?_ ?_
      rotate_left
      · intro w'; go_simp; first | done | with_reducible rfl
      rotate_left
      · simp only [Act.put, List.setIfInBounds_toArray, List.set_cons_zero, List.set_cons_succ, i64_w, i32_w]; rfl
      refine pure_ (i := 23) (N := (some 53)) (v := ?_) (a' := ?_) #[true, true, true, false, false, true, true, false, true, true, false, false, true, true, false, true, true, false, false, true, true, false, true, true, false, false, false, false, false] rfl rfl (by kernel_rfl) (fun _ _ _ h => h) (Or.inl ⟨by rfl, ?_⟩) ?_ ?_
      rotate_left
      · intro w'; go_simp; first | done | with_reducible rfl
      rotate_left
      · simp only [Act.put, List.setIfInBounds_toArray, List.set_cons_zero, List.set_cons_succ, i64_w, i32_w]; rfl
      refine pure_ (i := 28) (N := (some 58)) (v := ?_) (a' := ?_) #[true, true, true, false, false, true, true, false, true, true, false, false, true, true, false, true, true, false, false, true, true, false, true, true, false, false, false, false, true] rfl rfl (by kernel_rfl) (fun _ _ _ h => h) (Or.inl ⟨by rfl, ?_⟩) ?_ ?_
      rotate_left
      · intro w'; go_simp; first | done | with_reducible rfl
      rotate_left
      · simp only [Act.put, List.setIfInBounds_toArray, List.set_cons_zero, List.set_cons_succ, i64_w, i32_w]; rfl
      refine one_ (i := 3) (N := (some 33)) #[true, true, true, true, false, true, true, false, true, true, false, false, true, true, false, true, true, false, false, true, true, false, true, true, false, false, false, false, true] rfl rfl (by kernel_rfl) (by decide) (fun K hK => ?_)
      refine goes_ Tryd.func65 (by kernel_rfl) rfl #[ptV X Y, ptV 0 (-1)] (by rfl) rfl rfl (by (try simp only [List.map_toArray, List.map_cons, List.map_nil]); first | done | rfl) ?_
      refine (plus_at (r := X) (t := (Y - 1)) (by unfold wrap64; omega) (by unfold wrap64; omega) _).mono ?_
      rintro e v0 ⟨rfl, hb⟩
      refine ⟨_, rfl, ?_⟩
      have HO3 := Lib.hid (HO2.out.later hb)
      have q0' := (hb.cell (p := ⟨G, 0, none⟩) (World.block_lt_of_cell? _ _ hHeld.1)).trans hHeld.1
      have q1' := (hb.cell (p := ⟨G, 1, none⟩) (World.block_lt_of_cell? _ _ hHeld.2)).trans hHeld.2
      clear hb
      refine hK.out _ _ ⟨q0', q1'⟩ (fun hHeld => ?_)
      clear hK K
      refine norm_ (a' := ?_) ?_ ?_
      rotate_left
      · show Act.put _ (some 33) _ = _; simp only [Act.put, List.setIfInBounds_toArray, List.set_cons_zero, List.set_cons_succ, i64_w, i32_w]; rfl
      clear q0' q1'
      refine pure_ (i := 4) (N := (some 34)) (v := ?_) (a' := ?_) #[true, true, true, true, true, true, true, false, true, true, false, false, true, true, false, true, true, false, false, true, true, false, true, true, false, false, false, false, true] rfl rfl (by kernel_rfl) (fun _ _ _ h => h) (Or.inl ⟨by rfl, ?_⟩) ?_ ?_
      rotate_left
      · intro w'; go_simp; first | done | with_reducible rfl
      rotate_left
      · simp only [Act.put, List.setIfInBounds_toArray, List.set_cons_zero, List.set_cons_succ, i64_w, i32_w]; rfl
      refine one_ (i := 7) (N := (some 37)) #[true, true, true, true, true, true, true, true, true, true, false, false, true, true, false, true, true, false, false, true, true, false, true, true, false, false, false, false, true] rfl rfl (by kernel_rfl) (by decide) (fun K hK => ?_)
      refine goes_ Tryd.func65 (by kernel_rfl) rfl #[ptV X Y, ptV 1 0] (by rfl) rfl rfl (by (try simp only [List.map_toArray, List.map_cons, List.map_nil]); first | done | rfl) ?_
      refine (plus_at (r := (X + 1)) (t := Y) (by unfold wrap64; omega) (by unfold wrap64; omega) _).mono ?_
      rintro e v1 ⟨rfl, hb⟩
      refine ⟨_, rfl, ?_⟩
      have HO4 := Lib.hid (HO3.out.later hb)
      have q0' := (hb.cell (p := ⟨G, 0, none⟩) (World.block_lt_of_cell? _ _ hHeld.1)).trans hHeld.1
      have q1' := (hb.cell (p := ⟨G, 1, none⟩) (World.block_lt_of_cell? _ _ hHeld.2)).trans hHeld.2
      clear hb
      refine hK.out _ _ ⟨q0', q1'⟩ (fun hHeld => ?_)
      clear hK K
      refine norm_ (a' := ?_) ?_ ?_
      rotate_left
      · show Act.put _ (some 37) _ = _; simp only [Act.put, List.setIfInBounds_toArray, List.set_cons_zero, List.set_cons_succ, i64_w, i32_w]; rfl
      clear q0' q1'
      refine one_ (i := 10) (N := (some 40)) #[true, true, true, true, true, true, true, true, true, true, true, false, true, true, false, true, true, false, false, true, true, false, true, true, false, false, false, false, true] rfl rfl (by kernel_rfl) (by decide) (fun K hK => ?_)
      refine goes_ Tryd.func65 (by kernel_rfl) rfl #[ptV X Y, ptV 1 0] (by rfl) rfl rfl (by (try simp only [List.map_toArray, List.map_cons, List.map_nil]); first | done | rfl) ?_
      refine (plus_at (r := (X + 1)) (t := Y) (by unfold wrap64; omega) (by unfold wrap64; omega) _).mono ?_
      rintro e v2 ⟨rfl, hb⟩
      refine ⟨_, rfl, ?_⟩
      have HO5 := Lib.hid (HO4.out.later hb)
      have q0' := (hb.cell (p := ⟨G, 0, none⟩) (World.block_lt_of_cell? _ _ hHeld.1)).trans hHeld.1
      have q1' := (hb.cell (p := ⟨G, 1, none⟩) (World.block_lt_of_cell? _ _ hHeld.2)).trans hHeld.2
      clear hb
      refine hK.out _ _ ⟨q0', q1'⟩ (fun hHeld => ?_)
      clear hK K
      refine norm_ (a' := ?_) ?_ ?_
      rotate_left
      · show Act.put _ (some 40) _ = _; simp only [Act.put, List.setIfInBounds_toArray, List.set_cons_zero, List.set_cons_succ, i64_w, i32_w]; rfl
      clear q0' q1'
      refine pure_ (i := 11) (N := (some 41)) (v := ?_) (a' := ?_) #[true, true, true, true, true, true, true, true, true, true, true, true, true, true, false, true, true, false, false, true, true, false, true, true, false, false, false, false, true] rfl rfl (by kernel_rfl) (fun _ _ _ h => h) (Or.inl ⟨by rfl, ?_⟩) ?_ ?_
      rotate_left
      · intro w'; go_simp; first | done | with_reducible rfl
      rotate_left
      · simp only [Act.put, List.setIfInBounds_toArray, List.set_cons_zero, List.set_cons_succ, i64_w, i32_w]; rfl
      refine one_ (i := 14) (N := (some 44)) #[true, true, true, true, true, true, true, true, true, true, true, true, true, true, true, true, true, false, false, true, true, false, true, true, false, false, false, false, true] rfl rfl (by kernel_rfl) (by decide) (fun K hK => ?_)
      refine goes_ Tryd.func65 (by kernel_rfl) rfl #[ptV X Y, ptV 1 1] (by rfl) rfl rfl (by (try simp only [List.map_toArray, List.map_cons, List.map_nil]); first | done | rfl) ?_
      refine (plus_at (r := (X + 1)) (t := (Y + 1)) (by unfold wrap64; omega) (by unfold wrap64; omega) _).mono ?_
      rintro e v3 ⟨rfl, hb⟩
      refine ⟨_, rfl, ?_⟩
      have HO6 := Lib.hid (HO5.out.later hb)
      have q0' := (hb.cell (p := ⟨G, 0, none⟩) (World.block_lt_of_cell? _ _ hHeld.1)).trans hHeld.1
      have q1' := (hb.cell (p := ⟨G, 1, none⟩) (World.block_lt_of_cell? _ _ hHeld.2)).trans hHeld.2
      clear hb
      refine hK.out _ _ ⟨q0', q1'⟩ (fun hHeld => ?_)
      clear hK K
      refine norm_ (a' := ?_) ?_ ?_
      rotate_left
      · show Act.put _ (some 44) _ = _; simp only [Act.put, List.setIfInBounds_toArray, List.set_cons_zero, List.set_cons_succ, i64_w, i32_w]; rfl
      clear q0' q1'
      refine one_ (i := 17) (N := (some 47)) #[true, true, true, true, true, true, true, true, true, true, true, true, true, true, true, true, true, true, false, true, true, false, true, true, false, false, false, false, true] rfl rfl (by kernel_rfl) (by decide) (fun K hK => ?_)
      refine goes_ Tryd.func65 (by kernel_rfl) rfl #[ptV X Y, ptV 0 1] (by rfl) rfl rfl (by (try simp only [List.map_toArray, List.map_cons, List.map_nil]); first | done | rfl) ?_
      refine (plus_at (r := X) (t := (Y + 1)) (by unfold wrap64; omega) (by unfold wrap64; omega) _).mono ?_
      rintro e v4 ⟨rfl, hb⟩
      refine ⟨_, rfl, ?_⟩
      have HO7 := Lib.hid (HO6.out.later hb)
      have q0' := (hb.cell (p := ⟨G, 0, none⟩) (World.block_lt_of_cell? _ _ hHeld.1)).trans hHeld.1
      have q1' := (hb.cell (p := ⟨G, 1, none⟩) (World.block_lt_of_cell? _ _ hHeld.2)).trans hHeld.2
      clear hb
      refine hK.out _ _ ⟨q0', q1'⟩ (fun hHeld => ?_)
      clear hK K
      refine norm_ (a' := ?_) ?_ ?_
      rotate_left
      · show Act.put _ (some 47) _ = _; simp only [Act.put, List.setIfInBounds_toArray, List.set_cons_zero, List.set_cons_succ, i64_w, i32_w]; rfl
      clear q0' q1'
      refine pure_ (i := 18) (N := (some 48)) (v := ?_) (a' := ?_) #[true, true, true, true, true, true, true, true, true, true, true, true, true, true, true, true, true, true, true, true, true, false, true, true, false, false, false, false, true] rfl rfl (by kernel_rfl) (fun _ _ _ h => h) (Or.inl ⟨by rfl, ?_⟩) ?_ ?_
      rotate_left
      · intro w'; go_simp; first | done | with_reducible rfl
      rotate_left
      · simp only [Act.put, List.setIfInBounds_toArray, List.set_cons_zero, List.set_cons_succ, i64_w, i32_w]; rfl
      refine one_ (i := 21) (N := (some 51)) #[true, true, true, true, true, true, true, true, true, true, true, true, true, true, true, true, true, true, true, true, true, true, true, true, false, false, false, false, true] rfl rfl (by kernel_rfl) (by decide) (fun K hK => ?_)
      refine goes_ Tryd.func65 (by kernel_rfl) rfl #[ptV X Y, ptV 0 1] (by rfl) rfl rfl (by (try simp only [List.map_toArray, List.map_cons, List.map_nil]); first | done | rfl) ?_
      refine (plus_at (r := X) (t := (Y + 1)) (by unfold wrap64; omega) (by unfold wrap64; omega) _).mono ?_
      rintro e v5 ⟨rfl, hb⟩
      refine ⟨_, rfl, ?_⟩
      have HO8 := Lib.hid (HO7.out.later hb)
      have q0' := (hb.cell (p := ⟨G, 0, none⟩) (World.block_lt_of_cell? _ _ hHeld.1)).trans hHeld.1
      have q1' := (hb.cell (p := ⟨G, 1, none⟩) (World.block_lt_of_cell? _ _ hHeld.2)).trans hHeld.2
      clear hb
      refine hK.out _ _ ⟨q0', q1'⟩ (fun hHeld => ?_)
      clear hK K
      refine norm_ (a' := ?_) ?_ ?_
      rotate_left
      · show Act.put _ (some 51) _ = _; simp only [Act.put, List.setIfInBounds_toArray, List.set_cons_zero, List.set_cons_succ, i64_w, i32_w]; rfl
      clear q0' q1'
      refine one_ (i := 24) (N := (some 54)) #[true, true, true, true, true, true, true, true, true, true, true, true, true, true, true, true, true, true, true, true, true, true, true, true, true, false, false, false, true] rfl rfl (by kernel_rfl) (by decide) (fun K hK => ?_)
      refine goes_ Tryd.func65 (by kernel_rfl) rfl #[ptV X Y, ptV (-1) 0] (by rfl) rfl rfl (by (try simp only [List.map_toArray, List.map_cons, List.map_nil]); first | done | rfl) ?_
      refine (plus_at (r := (X - 1)) (t := Y) (by unfold wrap64; omega) (by unfold wrap64; omega) _).mono ?_
      rintro e v6 ⟨rfl, hb⟩
      refine ⟨_, rfl, ?_⟩
      have HO9 := Lib.hid (HO8.out.later hb)
      have q0' := (hb.cell (p := ⟨G, 0, none⟩) (World.block_lt_of_cell? _ _ hHeld.1)).trans hHeld.1
      have q1' := (hb.cell (p := ⟨G, 1, none⟩) (World.block_lt_of_cell? _ _ hHeld.2)).trans hHeld.2
      clear hb
      refine hK.out _ _ ⟨q0', q1'⟩ (fun hHeld => ?_)
      clear hK K
      refine norm_ (a' := ?_) ?_ ?_
      rotate_left
      · show Act.put _ (some 54) _ = _; simp only [Act.put, List.setIfInBounds_toArray, List.set_cons_zero, List.set_cons_succ, i64_w, i32_w]; rfl
      clear q0' q1'
      refine pure_ (i := 25) (N := (some 55)) (v := ?_) (a' := ?_) #[true, true, true, true, true, true, true, true, true, true, true, true, true, true, true, true, true, true, true, true, true, true, true, true, true, true, false, false, true] rfl rfl (by kernel_rfl) (fun _ _ _ h => h) (Or.inl ⟨by rfl, ?_⟩) ?_ ?_
      rotate_left
      · intro w'; go_simp; first | done | with_reducible rfl
      rotate_left
      · simp only [Act.put, List.setIfInBounds_toArray, List.set_cons_zero, List.set_cons_succ, i64_w, i32_w]; rfl
      refine last_ (i := 26) (N := (some 56)) #[true, true, true, true, true, true, true, true, true, true, true, true, true, true, true, true, true, true, true, true, true, true, true, true, true, true, true, false, true] rfl rfl (by kernel_rfl) (by decide) (fun K hK => ?_)
      refine value_step (v := .slice (some ⟨v6.heap.size, 0, none⟩) 4 4) (w1 := v6.alloc (.cells (quadC X Y).toArray 72)) (by rfl) rfl (by unfold quadC; go_simp) ?_
      refine hK.out _ _ ?_
      clear hK K
      refine norm_ (a' := ?_) ?_ ?_
      rotate_left
      · show Act.put _ (some 56) _ = _; simp only [Act.put, List.setIfInBounds_toArray, List.set_cons_zero, List.set_cons_succ, i64_w, i32_w]; rfl
      refine pure_ (i := 27) (N := (some 57)) (v := ?_) (a' := ?_) #[true, true, true, true, true, true, true, true, true, true, true, true, true, true, true, true, true, true, true, true, true, true, true, true, true, true, true, true, true] rfl rfl (by kernel_rfl) (fun _ _ _ h => h) (Or.inl ⟨by rfl, ?_⟩) ?_ ?_
      rotate_left
      · intro w'; go_simp; first | done | with_reducible rfl
      rotate_left
      · simp only [Act.put, List.setIfInBounds_toArray, List.set_cons_zero, List.set_cons_succ, i64_w, i32_w]; rfl
      refine done_ (by kernel_rfl) ?_
      have HQ := Lib.hid (Quad.of (X := X) (Y := Y) (blk_new v6 (.cells (quadC X Y).toArray 72)))
      have HO10 := Lib.hid (HO9.out.later (below_one (w := v6) (.cells (quadC X Y).toArray 72)))
      have HGG : Hid (w1.heap.size < v6.heap.size) := Lib.hid HO9.out.map.lt
      clear hHeld q0 q1 HO2 HO3 HO4 HO5 HO6 HO7 HO8 HO9
      generalize v6.alloc (.cells (quadC X Y).toArray 72) = w5 at HQ HO10 ⊢
      generalize v6.heap.size = G4 at HQ HGG ⊢
      go_wp2_with fail
      go_loopw [58, 7] (fun i v wr => ∃ j : Nat, j ≤ 4 ∧ i = .int .i64 j ∧ v = .int .i64 ((E ++ sof (inB x y n) X Y j).length : Nat) ∧ Hid (OuS w1 (mapOf (E ++ sof (inB x y n) X Y j)) wr) ∧ Hid (Quad wr G4 X Y)) (fun i _ _ => 4 - (intOf i).toNat)
      case atStart => exact ⟨0, by omega, rfl, by rw [sof, List.append_nil], Lib.hid (by rw [sof, List.append_nil]; exact HO10.out), HQ⟩
      case round =>
        clear HO10 HQ
        obtain ⟨j, hj, rfl, rfl, HO, HQ⟩ := hrel
        have hlen : (E ++ sof (inB x y n) X Y j).length ≤ 124 := by have := sof_length (inB x y n) X Y j; rw [List.length_append]; omega
        obtain ⟨F, hF⟩ : ∃ F, E ++ sof (inB x y n) X Y j = F := ⟨_, rfl⟩
        rw [hF] at HO hlen ⊢
        have HF := Lib.hid hF
        clear hF
        by_cases hj4 : j < 4
        · have c0 := HQ.out.c0 j hj4
          have c1 := HQ.out.c1 j hj4
          have c2 := HQ.out.c2 j hj4
          have c3 := HQ.out.c3 j hj4
          have c4 := HQ.out.c4 j hj4
          obtain ⟨a0, ha0⟩ : ∃ a0, fX X j = a0 := ⟨_, rfl⟩
          obtain ⟨a1, ha1⟩ : ∃ a1, fY Y j = a1 := ⟨_, rfl⟩
          obtain ⟨a2, ha2⟩ : ∃ a2, nX X j = a2 := ⟨_, rfl⟩
          obtain ⟨a3, ha3⟩ : ∃ a3, nY Y j = a3 := ⟨_, rfl⟩
          obtain ⟨a4, ha4⟩ : ∃ a4, fL j = a4 := ⟨_, rfl⟩
          rw [ha0] at c0
          rw [ha1] at c1
          rw [ha2] at c2
          rw [ha3] at c3
          rw [ha4] at c4
          have HAA := Lib.hid (And.intro ha0 (And.intro ha1 (And.intro ha2 (And.intro ha3 ha4))))
          clear ha0 ha1 ha2 ha3 ha4
          go_wp2_with fail
          have hb6 := below_one (w := wr) (.cells #[.int .i64 a0, .int .i64 a1, .int .i64 a2, .int .i64 a3, .int .u8 a4] 72)
          have hk6 := blk_new wr (.cells #[.int .i64 a0, .int .i64 a1, .int .i64 a2, .int .i64 a3, .int .u8 a4] 72)
          obtain ⟨w6, hw6⟩ : ∃ w6, w6 = wr.alloc (.cells #[.int .i64 a0, .int .i64 a1, .int .i64 a2, .int .i64 a3, .int .u8 a4] 72) := ⟨_, rfl⟩
          rw [← hw6] at hb6 hk6 ⊢
          have HO6 := Lib.hid (HO.out.later hb6)
          have HQ6 := Lib.hid (HQ.out.later hb6)
          have HK6 := Lib.hid hk6
          clear hw6 hb6 hk6 HO HQ c0 c1 c2 c3 c4
          generalize wr.heap.size = G6 at HK6 ⊢
          refine (search_calls _ n c' x y a2 a3 w6 (HS1.out.later HO6.out.bl) (by omega) HGT.out).mono ?_
          rintro e w7 ⟨⟨i, rfl⟩, hb7⟩
          have HO7 := Lib.hid (HO6.out.later hb7)
          have HQ7 := Lib.hid (HQ6.out.later hb7)
          have hk7 := (hb7.block G6 (Array.getElem?_eq_some_iff.1 HK6.out).1).trans HK6.out
          clear hb7 HO6 HQ6 HK6
          cases hq : inB x y n a2 a3 with
          | true =>
            have HS : Hid (E ++ sof (inB x y n) X Y (j + 1) = F) := Lib.hid (by rw [sof, HAA.out.2.2.1, HAA.out.2.2.2.1, if_pos hq, List.append_nil, HF.out])
            clear hq hk7
            go_wp2_with fail
            refine ⟨⟨j + 1, by omega, by go_num, ?_, ?_, HQ7⟩, by simp [intOf]; omega⟩
            · rw [HS.out]
            · rw [HS.out]
              exact HO7
          | false =>
            have HS : Hid (E ++ sof (inB x y n) X Y (j + 1) = F ++ [((a0, a1), a4)]) := Lib.hid (by rw [sof, HAA.out.1, HAA.out.2.1, HAA.out.2.2.1, HAA.out.2.2.2.1, HAA.out.2.2.2.2, if_neg (by rw [hq]; decide), ← List.append_assoc, HF.out])
            clear hq
            have d0 := blk_cell hk7 0
            have d1 := blk_cell hk7 1
            have d4 := blk_cell hk7 4
            simp at d0 d1 d4
            obtain ⟨o, hup, hmm⟩ := run_update_is (P := Tryd.prog) Tryd.underlying71 keyOk_pair HO7.out.map (a0, a1) a4
            simp only [pairV] at hup
            have HM := Lib.hid hmm
            clear hmm hk7
            go_wp2_with fail
            refine ⟨⟨j + 1, by omega, by go_num, ?_, Lib.hid ⟨?_, putObj_below HO7.out.bl (Nat.le_refl _) _⟩, Lib.hid (HQ7.out.keep ((putObj_keep w7 w1.heap.size o).2 G4 (World.block_lt_of_cell? _ _ (HQ7.out.c0 0 (by omega))) (by have := HGG.out; omega) (by simp)))⟩, by simp [intOf]; omega⟩
            · rw [HS.out, List.length_append]
              first | rfl | (congr 1; simp) | simp
            · rw [HS.out, mapOf_snoc]
              exact HM.out
        · obtain rfl : j = 4 := by omega
          have HS : Hid (sidesTo (inB x y n) x y (k + 1) = F) := Lib.hid (by rw [sidesTo, HXY.out.1, HXY.out.2.1, HXY.out.2.2, ← sof_four, HF.out])
          go_wp2_with fail
          refine ⟨⟨k + 1, by omega, by go_num, ?_, ?_⟩, by simp [intOf]; omega⟩
          · rw [HS.out]
          · rw [HS.out]
            exact HO
    · obtain rfl : k = n := by omega
      have hP := HP1.out.later HO.out.bl
      have h0 := hP.c0 0 (by omega)
      have h1 := hP.c1 0 (by omega)
      obtain ⟨E, hE⟩ : ∃ E, sidesTo (inB x y k) x y k = E := ⟨_, rfl⟩
      obtain ⟨p, hp⟩ : ∃ p, (x 0, y 0) = p := ⟨_, rfl⟩
      have HR2 : Hid (OutR E p K r d) := Lib.hid (by rw [← hE, ← hp]; exact HR.out)
      have HPB : Hid (-100 ≤ p.1 ∧ p.1 ≤ 100 ∧ -100 ≤ p.2 ∧ p.2 ≤ 100) := Lib.hid (by rw [← hp]; exact HG.out 0 (by omega))
      have HLE : Hid (∀ q c, findL (mapOf E) q = some c → isL c) := Lib.hid (by rw [← hE]; exact mapOf_letters _ (sidesTo_letters _ _ _ _))
      have hL : E.length ≤ 120 := by rw [← hE]; have := sidesTo_length (inB x y k) x y k; omega
      rw [hE] at HO ⊢
      have hp0 : x 0 = p.1 := by rw [← hp]
      have hp1 : y 0 = p.2 := by rw [← hp]
      rw [hp0] at h0
      rw [hp1] at h1
      obtain ⟨M, hM⟩ : ∃ M, mapOf E = M := ⟨_, rfl⟩
      rw [hM] at HO HLE
      have HME := Lib.hid hM
      obtain ⟨P0, hP0⟩ : ∃ P0, p.1 = P0 := ⟨_, rfl⟩
      obtain ⟨Q0, hQ0⟩ : ∃ Q0, p.2 = Q0 := ⟨_, rfl⟩
      rw [hP0] at h0
      rw [hQ0] at h1
      have HPQ := Lib.hid (And.intro hP0 hQ0)
      have hc0 : 0 < c' := by omega
      have hk0 : (0 : Int) < k := by omega
      simp only [Nat.zero_mul, Nat.add_zero] at h0 h1
      have hbB := below_one (w := wr) (.cells #[.pointer none, .slice none 0 0] 80)
      have h0' := (hbB.cell (p := ⟨b', off, none⟩) (World.block_lt_of_cell? _ _ h0)).trans h0
      have h1' := (hbB.cell (p := ⟨b', off + 1, none⟩) (World.block_lt_of_cell? _ _ h1)).trans h1
      have hF := FoS.start (M := M) (p := p) HO.out
      rw [hP0, hQ0] at hF
      have HX0 := Lib.hid (And.intro (hp0.trans hP0) (hp1.trans hQ0))
      clear hE hp HR HGT hP hlt HG hp0 hp1 hM hP0 hQ0 HGL hbB
      go_wp2_with fail
      generalize hw3 : (wr.alloc (.cells #[.pointer none, .slice none 0 0] 80)).alloc (.cells #[.int .i64 P0, .int .i64 Q0] 63) = w3 at hF ⊢
      have HF := Lib.hid hF
      clear hw3 hF h0 h1 h0' h1' HO
      generalize wr.heap.size = B at HF ⊢
      go_loopw [15] (fun v wr => ∃ m g, v = .pointer (some ⟨g, 0, none⟩) ∧ m ≤ E.length + 1 ∧ Hid (∀ i, 0 < i → i < m → fol M p i ≠ p) ∧ Hid (FoS w1 B M p m g wr)) (fun _ wr => wayLeft B E.length wr)
      case atStart => exact ⟨0, B + 1, rfl, by omega, Lib.hid (fun i h1 h2 => by omega), HF⟩
      case round =>
        clear HF
        obtain ⟨m, g, rfl, hm, HMIN, HF⟩ := hrel
        by_cases hm0 : m = 0
        · have bm : ((m : Int) == 0) = true := by simp [hm0]
          have HGO : Hid (0 < m → fol M p m ≠ p) := Lib.hid (fun h => by omega)
          have HLEFT := Lib.hid (HF.out.left E.length)
          go_wp2_with fail
          refine start_ (n := 14) (S := fun w' => True) (ds := [0]) #[false, false, false, false, false, false, false, false, false, false, false, false, false, false] (by kernel_rfl) rfl rfl trivial (fun hHeld => ?_)
          refine last_ (i := 0) (N := (some 83)) #[true, false, false, false, false, false, false, false, false, false, false, false, false, false] rfl rfl (by kernel_rfl) (by decide) (fun K hK => ?_)
          refine goes_ Tryd.func68 (by kernel_rfl) rfl #[.pointer (some ⟨B, 0, none⟩)] (by rfl) rfl rfl (by (try simp only [List.map_toArray, List.map_cons, List.map_nil]); first | done | rfl) ?_
          refine (HF.out.later (Below.refl _ _).drew).len.mono ?_
          rintro e w4 ⟨rfl, rfl⟩
          refine ⟨_, rfl, ?_⟩
          have HF2 := Lib.hid (HF.out.later (Below.refl _ _).drew)
          refine hK.out _ _ ?_
          clear hK K
          refine norm_ (a' := ?_) ?_ ?_
          rotate_left
          · show Act.put _ (some 83) _ = _; simp only [Act.put, List.setIfInBounds_toArray, List.set_cons_zero, List.set_cons_succ, i64_w, i32_w]; rfl
          refine pure_ (i := 1) (N := (some 84)) (v := (.bool true)) (a' := ?_) #[true, true, false, false, false, false, false, false, false, false, false, false, false, false] rfl rfl (by kernel_rfl) (fun _ _ _ h => h) (Or.inl ⟨by rfl, ?_⟩) ?_ ?_
          · intro w'; go_simp; first | done | with_reducible rfl
          rotate_left
          · simp only [Act.put, List.setIfInBounds_toArray, List.set_cons_zero, List.set_cons_succ, i64_w, i32_w]; rfl
          refine pure_ (i := 2) (N := (some 85)) (v := ?_) (a' := ?_) #[true, true, true, false, false, false, false, false, false, false, false, false, false, false] rfl rfl (by kernel_rfl) (fun _ _ _ h => h) (Or.inl ⟨by rfl, ?_⟩) ?_ ?_
          rotate_left
          · intro w'; go_simp; first | done | with_reducible rfl
          rotate_left
          · simp only [Act.put, List.setIfInBounds_toArray, List.set_cons_zero, List.set_cons_succ, i64_w, i32_w]; rfl
          refine off_ (i := 3) (N := (some 86)) #[true, true, true, true, false, false, false, false, false, false, false, false, false, false] rfl rfl (by kernel_rfl) (fun _ _ _ h => h) (by rfl) (by simp only [Act.put, List.setIfInBounds_toArray, List.set_cons_zero, List.set_cons_succ, i64_w, i32_w]; rfl) ?_
          refine off_ (i := 4) (N := (some 87)) #[true, true, true, true, true, false, false, false, false, false, false, false, false, false] rfl rfl (by kernel_rfl) (fun _ _ _ h => h) (by rfl) (by simp only [Act.put, List.setIfInBounds_toArray, List.set_cons_zero, List.set_cons_succ, i64_w, i32_w]; rfl) ?_
          refine off_ (i := 5) (N := (some 88)) #[true, true, true, true, true, true, false, false, false, false, false, false, false, false] rfl rfl (by kernel_rfl) (fun _ _ _ h => h) (by rfl) (by simp only [Act.put, List.setIfInBounds_toArray, List.set_cons_zero, List.set_cons_succ, i64_w, i32_w]; rfl) ?_
          refine off_ (i := 6) (N := (some 89)) #[true, true, true, true, true, true, true, false, false, false, false, false, false, false] rfl rfl (by kernel_rfl) (fun _ _ _ h => h) (by rfl) (by simp only [Act.put, List.setIfInBounds_toArray, List.set_cons_zero, List.set_cons_succ, i64_w, i32_w]; rfl) ?_
          refine off_ (i := 7) (N := (some 90)) #[true, true, true, true, true, true, true, true, false, false, false, false, false, false] rfl rfl (by kernel_rfl) (fun _ _ _ h => h) (by rfl) (by simp only [Act.put, List.setIfInBounds_toArray, List.set_cons_zero, List.set_cons_succ, i64_w, i32_w]; rfl) ?_
          refine off_ (i := 8) (N := (some 91)) #[true, true, true, true, true, true, true, true, true, false, false, false, false, false] rfl rfl (by kernel_rfl) (fun _ _ _ h => h) (by rfl) (by simp only [Act.put, List.setIfInBounds_toArray, List.set_cons_zero, List.set_cons_succ, i64_w, i32_w]; rfl) ?_
          refine off_ (i := 9) (N := (some 92)) #[true, true, true, true, true, true, true, true, true, true, false, false, false, false] rfl rfl (by kernel_rfl) (fun _ _ _ h => h) (by rfl) (by simp only [Act.put, List.setIfInBounds_toArray, List.set_cons_zero, List.set_cons_succ, i64_w, i32_w]; rfl) ?_
          refine off_ (i := 10) (N := (some 93)) #[true, true, true, true, true, true, true, true, true, true, true, false, false, false] rfl rfl (by kernel_rfl) (fun _ _ _ h => h) (by rfl) (by simp only [Act.put, List.setIfInBounds_toArray, List.set_cons_zero, List.set_cons_succ, i64_w, i32_w]; rfl) ?_
          refine off_ (i := 11) (N := (some 94)) #[true, true, true, true, true, true, true, true, true, true, true, true, false, false] rfl rfl (by kernel_rfl) (fun _ _ _ h => h) (by rfl) (by simp only [Act.put, List.setIfInBounds_toArray, List.set_cons_zero, List.set_cons_succ, i64_w, i32_w]; rfl) ?_
          refine off_ (i := 12) (N := (some 95)) #[true, true, true, true, true, true, true, true, true, true, true, true, true, false] rfl rfl (by kernel_rfl) (fun _ _ _ h => h) (by rfl) (by simp only [Act.put, List.setIfInBounds_toArray, List.set_cons_zero, List.set_cons_succ, i64_w, i32_w]; rfl) ?_
          refine pure_ (i := 13) (N := (some 96)) (v := ?_) (a' := ?_) #[true, true, true, true, true, true, true, true, true, true, true, true, true, true] rfl rfl (by kernel_rfl) (fun _ _ _ h => h) (Or.inl ⟨by rfl, ?_⟩) ?_ ?_
          rotate_left
          · intro w'; go_simp; first | done | with_reducible rfl
          rotate_left
          · simp only [Act.put, List.setIfInBounds_toArray, List.set_cons_zero, List.set_cons_succ, i64_w, i32_w]; rfl
          refine done_ (by kernel_rfl) ?_
          have hm : m ≤ E.length := by omega
          clear hHeld HF bm
          obtain ⟨HF, -⟩ : ∃ h : Hid (FoS w1 B M p m g wr.drew), True := ⟨HF2, trivial⟩
          clear HF2
          generalize wr.drew = wz at HF ⊢
          have d0 := blk_cell HF.out.pt 0
          have d1 := blk_cell HF.out.pt 1
          have hlk := run_lookup_is (P := Tryd.prog) Tryd.underlying71 (z := (0 : Int)) (fun w => by kernel_rfl) keyOk_pair HF.out.map (fol M p m) false
          simp only [pairV, Bool.false_eq_true, if_false] at hlk
          have hlt2 := fol_le M p m
          have hstp := step_small (ltr M (fol M p m))
          have hpb := HPB.out
          obtain ⟨X, hX⟩ : ∃ X, (fol M p m).1 = X := ⟨_, rfl⟩
          obtain ⟨Y, hY⟩ : ∃ Y, (fol M p m).2 = Y := ⟨_, rfl⟩
          obtain ⟨q, hq⟩ : ∃ q, ltr M (fol M p m) = q := ⟨_, rfl⟩
          rw [show (findL M (fol M p m)).getD 0 = q from hq, hX, hY] at hlk
          rw [hq] at hstp
          simp [hX] at d0
          simp [hY] at d1
          rw [hX, hY] at hlt2
          have HXY := Lib.hid (And.intro hX (And.intro hY hq))
          have hx2 : wrap64 (X + stepx q) = X + stepx q := by unfold wrap64; omega
          have hy2 : wrap64 (Y + stepy q) = Y + stepy q := by unfold wrap64; omega
          have HW := Lib.hid (And.intro hx2 hy2)
          have HML : Hid (m ≤ E.length) := Lib.hid (by omega)
          clear hX hY hq hlt2 hstp hpb hx2 hy2
          go_wp2_with fail
          refine (Tryd.Builder_WriteByte_k B B _ q _ HF.out.bd (by rw [Lib.byteCells_length, wl_length]; omega) (by have := (Array.getElem?_eq_some_iff.1 HF.out.pt).1; have := HF.out.gb; omega)).mono ?_
          rintro e w5 ⟨rfl, hbd, hbl, hok⟩
          obtain ⟨f1, f2, f3, f4⟩ := HF.out.next (ltr_letter HLE.out _) (by rw [HXY.out.2.2]; exact hbd) hbl hok
          rw [HXY.out.1, HXY.out.2.1] at f4
          have hsz : B < w5.heap.size := by have := (Array.getElem?_eq_some_iff.1 HF.out.pt).1; have := HF.out.gb; have := hbl.size; omega
          have d2 := blk_cell f4 0
          have d3 := blk_cell f4 1
          simp at d2 d3
          have HN := Lib.hid (And.intro f1 (And.intro f2 (And.intro f3 hsz)))
          have HRB := Lib.hid HF.out.rb
          clear hbd hbl hok f1 f2 f3 f4 hsz d0 d1 hlk
          go_wp2_with fail
          have hb6 := below_one (w := w5) (.cells #[.int .i64 X, .int .i64 Y] 63)
          have hk6 := blk_new w5 (.cells #[.int .i64 X, .int .i64 Y] 63)
          obtain ⟨w6, hw6⟩ : ∃ w6, w6 = w5.alloc (.cells #[.int .i64 X, .int .i64 Y] 63) := ⟨_, rfl⟩
          rw [← hw6] at hb6 hk6 ⊢
          have look : ∀ w', Below w5.heap.size w5 w' → (Instr.lookup 71 (.map (some w1.heap.size)) (.agg #[.int .i64 X, .int .i64 Y]) false).run Tryd.prog w' = .ok (.int .u8 q) w' := fun w' hb => by
            have h := run_lookup_is (P := Tryd.prog) Tryd.underlying71 (z := (0 : Int)) (fun w => by kernel_rfl) keyOk_pair (HN.out.1.below hb) (fol M p m) false
            simp only [pairV, Bool.false_eq_true, if_false] at h
            rw [show (findL M (fol M p m)).getD 0 = q from HXY.out.2.2, HXY.out.1, HXY.out.2.1] at h
            exact h
          have LOOK := Lib.hid look
          have HB6 := Lib.hid hb6.drew
          have HK6 : Hid (w6.drew.heap[w5.heap.size]? = some (.cells #[.int .i64 X, .int .i64 Y] 63 (0, 0))) := Lib.hid hk6
          have q0 := blk_cell hk6 0
          have q1 := blk_cell hk6 1
          simp at q0 q1
          have q2 := look w6.drew hb6.drew
          clear hw6 hb6 hk6 look d2 d3
          obtain ⟨G2, hG2⟩ : ∃ G2, w5.heap.size = G2 := ⟨_, rfl⟩
          rw [hG2] at q0 q1 ⊢
          have HG2 := Lib.hid hG2
          clear hG2
          refine start_ (n := 7) (S := fun w' => w'.cell? ⟨G2, 0, none⟩ = some (.int .i64 X) ∧ w'.cell? ⟨G2, 1, none⟩ = some (.int .i64 Y) ∧ (Instr.lookup 71 (.map (some w1.heap.size)) (.agg #[.int .i64 X, .int .i64 Y]) false).run Tryd.prog w' = .ok (.int .u8 q) w') (ds := [6]) #[false, false, false, false, false, false, false] (by kernel_rfl) rfl rfl ⟨by simpa using q0, by simpa using q1, q2⟩ (fun hHeld => ?_)
          refine take_ (i := 0) (N := (some 97)) (v := ?_) (a' := ?_) #[true, false, false, false, false, false, false] rfl rfl (by kernel_rfl) (fun _ _ _ h => h) (Or.inl ⟨by rfl, ?_⟩) hHeld ?_ ?_
          rotate_left
          · rintro w' ⟨s0, s1, s2⟩; go_simp; first | done | with_reducible rfl
          rotate_left
          · simp only [Act.put, List.setIfInBounds_toArray, List.set_cons_zero, List.set_cons_succ, i64_w, i32_w]; rfl
          refine pure_ (i := 1) (N := (some 98)) (v := ?_) (a' := ?_) #[true, true, false, false, false, false, false] rfl rfl (by kernel_rfl) (fun _ _ _ h => h) (Or.inl ⟨by rfl, ?_⟩) ?_ ?_
          rotate_left
          · intro w'; go_simp; first | done | with_reducible rfl
          rotate_left
          · simp only [Act.put, List.setIfInBounds_toArray, List.set_cons_zero, List.set_cons_succ, i64_w, i32_w]; rfl
          refine take_ (i := 2) (N := (some 99)) (v := ?_) (a' := ?_) #[true, true, true, false, false, false, false] rfl rfl (by kernel_rfl) (fun _ _ _ h => h) (Or.inl ⟨by rfl, ?_⟩) hHeld ?_ ?_
          rotate_left
          · rintro w' ⟨s0, s1, s2⟩; go_simp; first | done | with_reducible rfl
          rotate_left
          · simp only [Act.put, List.setIfInBounds_toArray, List.set_cons_zero, List.set_cons_succ, i64_w, i32_w]; rfl
          refine take_ (i := 3) (N := (some 100)) (v := ?_) (a' := ?_) #[true, true, true, true, false, false, false] rfl rfl (by kernel_rfl) (fun _ _ _ h => h) (Or.inl ⟨by rfl, ?_⟩) hHeld ?_ ?_
          rotate_left
          · rintro w' ⟨s0, s1, s2⟩; go_simp; first | done | with_reducible rfl
          rotate_left
          · simp only [Act.put, List.setIfInBounds_toArray, List.set_cons_zero, List.set_cons_succ, i64_w, i32_w]; rfl
          refine one_ (i := 4) (N := (some 101)) #[true, true, true, true, true, false, false] rfl rfl (by kernel_rfl) (by decide) (fun K hK => ?_)
          refine goes_ Tryd.func69 (by kernel_rfl) rfl #[.int .u8 q] (by rfl) rfl rfl (by (try simp only [List.map_toArray, List.map_cons, List.map_nil]); first | done | rfl) ?_
          refine (step_calls _ _).mono ?_
          rintro e w7 ⟨rfl, hb7⟩
          refine ⟨_, rfl, ?_⟩
          have HB7 := Lib.hid (HB6.out.trans (hb7.mono HB6.out.size))
          have k7 := (hb7.block G2 (World.block_lt_of_cell? _ _ hHeld.1)).trans (HG2.out ▸ HK6.out)
          have r0 := blk_cell k7 0
          have r1 := blk_cell k7 1
          simp at r0 r1
          have HK7 := Lib.hid k7
          refine hK.out _ _ ⟨r0, r1, LOOK.out _ HB7.out⟩ (fun hHeld => ?_)
          clear hK K
          refine norm_ (a' := ?_) ?_ ?_
          rotate_left
          · show Act.put _ (some 101) _ = _; simp only [Act.put, List.setIfInBounds_toArray, List.set_cons_zero, List.set_cons_succ, i64_w, i32_w]; rfl
          refine one_ (i := 5) (N := (some 102)) #[true, true, true, true, true, true, false] rfl rfl (by kernel_rfl) (by decide) (fun K hK => ?_)
          refine goes_ Tryd.func65 (by kernel_rfl) rfl #[ptV X Y, ptV (stepx q) (stepy q)] (by rfl) rfl rfl (by (try simp only [List.map_toArray, List.map_cons, List.map_nil]); first | done | rfl) ?_
          refine (plus_at HW.out.1 HW.out.2 _).mono ?_
          rintro e w8 ⟨rfl, hb8⟩
          refine ⟨_, rfl, ?_⟩
          have HB8 := Lib.hid (HB7.out.trans (hb8.mono HB7.out.size))
          have k8 := (hb8.block G2 (Array.getElem?_eq_some_iff.1 HK7.out).1).trans HK7.out
          have r2 := blk_cell k8 0
          have r3 := blk_cell k8 1
          have r4 := blk_frozen k8 0
          have r5 := blk_frozen k8 1
          simp at r2 r3
          have HK8 := Lib.hid k8
          refine hK.out _ _ ⟨r2, r3, LOOK.out _ HB8.out⟩ (fun hHeld => ?_)
          clear hK K
          refine norm_ (a' := ?_) ?_ ?_
          rotate_left
          · show Act.put _ (some 102) _ = _; simp only [Act.put, List.setIfInBounds_toArray, List.set_cons_zero, List.set_cons_succ, i64_w, i32_w]; rfl
          clear r0 r1 k7 k8
          refine last_ (i := 6) (N := none) #[true, true, true, true, true, true, true] rfl rfl (by kernel_rfl) (by decide) (fun K hK => ?_)
          refine skip_step (w1 := (w8.setCell ⟨G2, 0, none⟩ (.int .i64 (X + stepx q))).setCell ⟨G2, 1, none⟩ (.int .i64 (Y + stepy q))) (by rfl) (by go_simp) ?_
          refine hK.out _ _ ?_
          clear hK K
          refine norm_ (a' := ?_) ?_ ?_
          rotate_left
          · show Act.put _ none _ = _; simp only [Act.put, List.setIfInBounds_toArray, List.set_cons_zero, List.set_cons_succ, i64_w, i32_w]; rfl
          refine done_ (by kernel_rfl) ?_
          have hbA : Below w5.heap.size w5 ((w8.setCell ⟨G2, 0, none⟩ (.int .i64 (X + stepx q))).setCell ⟨G2, 1, none⟩ (.int .i64 (Y + stepy q))) := (HB8.out.setCell (p := ⟨G2, 0, none⟩) (Nat.le_of_eq HG2.out) _).setCell (p := ⟨G2, 1, none⟩) (Nat.le_of_eq HG2.out) _
          have hpt := set_two (u := .int .i64 (X + stepx q)) (v := .int .i64 (Y + stepy q)) HK8.out
          have hFN : FoS w1 B M p (m + 1) G2 ((w8.setCell ⟨G2, 0, none⟩ (.int .i64 (X + stepx q))).setCell ⟨G2, 1, none⟩ (.int .i64 (Y + stepy q))) := by
            refine ⟨HN.out.1.below hbA, HN.out.2.1.trans (hbA.mono HN.out.2.1.size), bld_later HN.out.2.2.1 hbA, ?_, HRB.out, by have := HN.out.2.2.2; have := HG2.out; omega⟩
            rw [fol_succ, HXY.out.1, HXY.out.2.1, HXY.out.2.2]
            exact hpt
          have HFN := Lib.hid hFN
          clear hbA hpt hFN hHeld r2 r3 r4 r5 q0 q1 q2
          generalize (w8.setCell ⟨G2, 0, none⟩ (.int .i64 (X + stepx q))).setCell ⟨G2, 1, none⟩ (.int .i64 (Y + stepy q)) = w9 at HFN ⊢
          go_wp2_with fail
          refine ⟨⟨m + 1, G2, rfl, by have := HML.out; omega, Lib.hid (fun i h1 h2 => ?_), HFN⟩, ?_⟩
          · by_cases e : i = m
            · subst e
              exact HGO.out h1
            · exact HMIN.out i h1 (by omega)
          · rw [HFN.out.left, HLEFT.out]
            have := HML.out
            omega
        · have bm : ((m : Int) == 0) = false := by simp [hm0]
          have HM1 : Hid (1 ≤ m) := Lib.hid (by omega)
          have hP := HP1.out.later (HF.out.later (Below.refl _ _).drew).bl
          have a0 := hP.c0 0 (by omega)
          have a1 := hP.c1 0 (by omega)
          rw [HX0.out.1] at a0
          rw [HX0.out.2] at a1
          simp only [Nat.zero_mul, Nat.add_zero] at a0 a1
          have d0 := blk_cell HF.out.pt 0
          have d1 := blk_cell HF.out.pt 1
          obtain ⟨X, hX⟩ : ∃ X, (fol M p m).1 = X := ⟨_, rfl⟩
          obtain ⟨Y, hY⟩ : ∃ Y, (fol M p m).2 = Y := ⟨_, rfl⟩
          simp [hX] at d0
          simp [hY] at d1
          have HXY0 := Lib.hid (And.intro hX hY)
          clear hX hY hP
          have hm63 : Tryd.prog.eqGuardType Tryd.prog.depth 63 = false := by kernel_rfl
          have he := fun w => pair_eq X Y P0 Q0 w
          have hkn0 : 0 < k := by omega
          have HLEFT := Lib.hid (HF.out.left E.length)
          go_wp2_with fail
          by_cases hpq : X = P0 ∧ Y = Q0
          · have heq : (X == P0 && Y == Q0) = true := by rw [hpq.1, hpq.2]; simp
            rw [heq] at he
            have HSTOP : Hid (fol M p m = p ∨ E.length < m) := Lib.hid (.inl (Prod.ext (by rw [HXY0.out.1, HPQ.out.1]; exact hpq.1) (by rw [HXY0.out.2, HPQ.out.2]; exact hpq.2)))
            clear hpq heq
            refine start_ (n := 14) (S := fun w' => w'.cell? ⟨g, 0, none⟩ = some (.int .i64 X) ∧ w'.cell? ⟨g, 1, none⟩ = some (.int .i64 Y) ∧ w'.cell? ⟨b', off, none⟩ = some (.int .i64 P0) ∧ w'.cell? ⟨b', off + 1, none⟩ = some (.int .i64 Q0)) (ds := []) #[false, false, false, false, false, false, false, false, false, false, false, false, false, false] (by kernel_rfl) rfl rfl ⟨by simpa using d0, by simpa using d1, by simpa using a0, by simpa using a1⟩ (fun hHeld => ?_)
            refine one_ (i := 0) (N := (some 83)) #[true, false, false, false, false, false, false, false, false, false, false, false, false, false] rfl rfl (by kernel_rfl) (by decide) (fun K hK => ?_)
            refine goes_ Tryd.func68 (by kernel_rfl) rfl #[.pointer (some ⟨B, 0, none⟩)] (by rfl) rfl rfl (by (try simp only [List.map_toArray, List.map_cons, List.map_nil]); first | done | rfl) ?_
            refine (HF.out.later (Below.refl _ _).drew).len.mono ?_
            rintro e w4 ⟨rfl, rfl⟩
            refine ⟨_, rfl, ?_⟩
            refine hK.out _ _ hHeld (fun hHeld => ?_)
            clear hK K
            refine norm_ (a' := ?_) ?_ ?_
            rotate_left
            · show Act.put _ (some 83) _ = _; simp only [Act.put, List.setIfInBounds_toArray, List.set_cons_zero, List.set_cons_succ, i64_w, i32_w]; rfl
            refine pure_ (i := 1) (N := (some 84)) (v := (.bool false)) (a' := ?_) #[true, true, false, false, false, false, false, false, false, false, false, false, false, false] rfl rfl (by kernel_rfl) (fun _ _ _ h => h) (Or.inl ⟨by rfl, ?_⟩) ?_ ?_
            · intro w'; go_simp; first | done | with_reducible rfl
            rotate_left
            · simp only [Act.put, List.setIfInBounds_toArray, List.set_cons_zero, List.set_cons_succ, i64_w, i32_w]; rfl
            refine pure_ (i := 2) (N := (some 85)) (v := ?_) (a' := ?_) #[true, true, true, false, false, false, false, false, false, false, false, false, false, false] rfl rfl (by kernel_rfl) (fun _ _ _ h => h) (Or.inl ⟨by rfl, ?_⟩) ?_ ?_
            rotate_left
            · intro w'; go_simp; first | done | with_reducible rfl
            rotate_left
            · simp only [Act.put, List.setIfInBounds_toArray, List.set_cons_zero, List.set_cons_succ, i64_w, i32_w]; rfl
            refine take_ (i := 3) (N := (some 86)) (v := ?_) (a' := ?_) #[true, true, true, true, false, false, false, false, false, false, false, false, false, false] rfl rfl (by kernel_rfl) (fun _ _ _ h => h) (Or.inl ⟨by rfl, ?_⟩) hHeld ?_ ?_
            rotate_left
            · rintro w' ⟨s0, s1, s2, s3⟩; go_simp; first | done | with_reducible rfl
            rotate_left
            · simp only [Act.put, List.setIfInBounds_toArray, List.set_cons_zero, List.set_cons_succ, i64_w, i32_w]; rfl
            refine pure_ (i := 4) (N := (some 87)) (v := ?_) (a' := ?_) #[true, true, true, true, true, false, false, false, false, false, false, false, false, false] rfl rfl (by kernel_rfl) (fun _ _ _ h => h) (Or.inl ⟨by rfl, ?_⟩) ?_ ?_
            rotate_left
            · intro w'; go_simp; first | done | with_reducible rfl
            rotate_left
            · simp only [Act.put, List.setIfInBounds_toArray, List.set_cons_zero, List.set_cons_succ, i64_w, i32_w]; rfl
            refine pure_ (i := 5) (N := (some 88)) (v := ?_) (a' := ?_) #[true, true, true, true, true, true, false, false, false, false, false, false, false, false] rfl rfl (by kernel_rfl) (fun _ _ _ h => h) (Or.inl ⟨by rfl, ?_⟩) ?_ ?_
            rotate_left
            · intro w'; go_simp; first | done | with_reducible rfl
            rotate_left
            · simp only [Act.put, List.setIfInBounds_toArray, List.set_cons_zero, List.set_cons_succ, i64_w, i32_w]; rfl
            refine take_ (i := 6) (N := (some 89)) (v := ?_) (a' := ?_) #[true, true, true, true, true, true, true, false, false, false, false, false, false, false] rfl rfl (by kernel_rfl) (fun _ _ _ h => h) (Or.inl ⟨by rfl, ?_⟩) hHeld ?_ ?_
            rotate_left
            · rintro w' ⟨s0, s1, s2, s3⟩; go_simp; first | done | with_reducible rfl
            rotate_left
            · simp only [Act.put, List.setIfInBounds_toArray, List.set_cons_zero, List.set_cons_succ, i64_w, i32_w]; rfl
            refine pure_ (i := 7) (N := (some 90)) (v := (.bool false)) (a' := ?_) #[true, true, true, true, true, true, true, true, false, false, false, false, false, false] rfl rfl (by kernel_rfl) (fun _ _ _ h => h) (Or.inl ⟨by rfl, ?_⟩) ?_ ?_
            · intro w'; go_simp; first | done | with_reducible rfl
            rotate_left
            · simp only [Act.put, List.setIfInBounds_toArray, List.set_cons_zero, List.set_cons_succ, i64_w, i32_w]; rfl
            refine pure_ (i := 8) (N := (some 91)) (v := ?_) (a' := ?_) #[true, true, true, true, true, true, true, true, true, false, false, false, false, false] rfl rfl (by kernel_rfl) (fun _ _ _ h => h) (Or.inl ⟨by rfl, ?_⟩) ?_ ?_
            rotate_left
            · intro w'; go_simp; first | done | with_reducible rfl
            rotate_left
            · simp only [Act.put, List.setIfInBounds_toArray, List.set_cons_zero, List.set_cons_succ, i64_w, i32_w]; rfl
            refine off_ (i := 9) (N := (some 92)) #[true, true, true, true, true, true, true, true, true, true, false, false, false, false] rfl rfl (by kernel_rfl) (fun _ _ _ h => h) (by rfl) (by simp only [Act.put, List.setIfInBounds_toArray, List.set_cons_zero, List.set_cons_succ, i64_w, i32_w]; rfl) ?_
            refine off_ (i := 10) (N := (some 93)) #[true, true, true, true, true, true, true, true, true, true, true, false, false, false] rfl rfl (by kernel_rfl) (fun _ _ _ h => h) (by rfl) (by simp only [Act.put, List.setIfInBounds_toArray, List.set_cons_zero, List.set_cons_succ, i64_w, i32_w]; rfl) ?_
            refine off_ (i := 11) (N := (some 94)) #[true, true, true, true, true, true, true, true, true, true, true, true, false, false] rfl rfl (by kernel_rfl) (fun _ _ _ h => h) (by rfl) (by simp only [Act.put, List.setIfInBounds_toArray, List.set_cons_zero, List.set_cons_succ, i64_w, i32_w]; rfl) ?_
            refine pure_ (i := 12) (N := (some 95)) (v := ?_) (a' := ?_) #[true, true, true, true, true, true, true, true, true, true, true, true, true, false] rfl rfl (by kernel_rfl) (fun _ _ _ h => h) (Or.inl ⟨by rfl, ?_⟩) ?_ ?_
            rotate_left
            · intro w'; go_simp; first | done | with_reducible rfl
            rotate_left
            · simp only [Act.put, List.setIfInBounds_toArray, List.set_cons_zero, List.set_cons_succ, i64_w, i32_w]; rfl
            refine pure_ (i := 13) (N := (some 96)) (v := ?_) (a' := ?_) #[true, true, true, true, true, true, true, true, true, true, true, true, true, true] rfl rfl (by kernel_rfl) (fun _ _ _ h => h) (Or.inl ⟨by rfl, ?_⟩) ?_ ?_
            rotate_left
            · intro w'; go_simp; first | done | with_reducible rfl
            rotate_left
            · simp only [Act.put, List.setIfInBounds_toArray, List.set_cons_zero, List.set_cons_succ, i64_w, i32_w]; rfl
            refine done_ (by kernel_rfl) ?_
            have HF2 := Lib.hid (HF.out.later (Below.refl _ _).drew)
            clear HF bm he hm63 a0 a1 d0 d1
            obtain ⟨HF, -⟩ : ∃ h : Hid (FoS w1 B M p m g wr.drew), True := ⟨HF2, trivial⟩
            clear HF2
            generalize wr.drew = wz at HF ⊢
            go_wp2_with fail
            refine HF.out.len.mono ?_
            rintro e w4 ⟨rfl, rfl⟩
            have hst := HR2.out.stop HME.out HM1.out HMIN.out HSTOP.out
            have HBZ := Lib.hid (HB1.out.trans (HF.out.bl.mono HB1.out.size))
            by_cases h1 : m = E.length
            · have h1' : ((m : Int) != (E.length : Int)) = false := by simp [h1]
              obtain ⟨es, clock, hmb, hml⟩ := HF.out.map
              have hlm := run_len71 hmb
              have hes : es.size = M.length := by
                have := congrArg List.length hml
                simpa using this
              by_cases h2 : M.length = E.length
              · have h2' : ((es.size : Int) != (E.length : Int)) = false := by rw [hes]; simp [h2]
                obtain ⟨a1, a2⟩ := hst.2.2 h1 h2
                by_cases h24 : 24 < E.length
                · have h24' : (24 : Int) < E.length := by omega
                  obtain ⟨hr, hd⟩ := a1 h24
                  have HRD := Lib.hid (And.intro hr hd)
                  clear hr hd a1 a2 hst h1 h2 hml hes
                  go_wp2
                  go_ret2
                  rw [HRD.out.1, HRD.out.2]
                  exact ⟨rfl, HBZ.out⟩
                · have h24' : ¬ (24 : Int) < E.length := by omega
                  obtain ⟨hr, hd⟩ := a2 (by omega)
                  have HRD := Lib.hid (And.intro hr hd)
                  have HSZ : Hid (m ≤ 1000) := Lib.hid (by omega)
                  clear hr hd a1 a2 hst h1 h2 hml hes
                  go_wp2_with fail
                  refine (Tryd.Builder_String_k B B (wl M p m) _ HF.out.bd (fun e => by have h5 := congrArg List.length e; rw [wl_length] at h5; have := HM1.out; change m = 0 at h5; omega)).mono ?_
                  rintro e w5 ⟨rfl, hb5⟩
                  have HBY : Hid (Below w.heap.size w w5) := Lib.hid (HBZ.out.trans (hb5.mono (by have := HB1.out.size; have := HF.out.rb; omega)))
                  clear hb5
                  go_wp2_with fail
                  refine (first_calls (wlB M p m) _ (by rw [wlB_size]; exact HSZ.out) (wlB_ascii HLE.out p m)).mono ?_
                  rintro e w6 ⟨rfl, hb6⟩
                  have HBX := Lib.hid (HBY.out.trans (hb6.mono HBY.out.size))
                  rw [wlB_size]
                  clear hb6
                  go_wp2
                  go_ret2
                  rw [HRD.out.1, HRD.out.2]
                  exact ⟨rfl, HBX.out⟩
              · have h2' : ((es.size : Int) != (E.length : Int)) = true := by rw [hes]; simp; omega
                have HRD := Lib.hid (hst.2.1 h1 h2)
                clear hst h1 h2 hml hes
                go_wp2
                go_ret2
                rw [HRD.out.1, HRD.out.2]
                exact ⟨rfl, HBZ.out⟩
            · have h1' : ((m : Int) != (E.length : Int)) = true := by simp; omega
              have HRD := Lib.hid (hst.1 h1)
              clear hst h1
              go_wp2
              go_ret2
              rw [HRD.out.1, HRD.out.2]
              exact ⟨rfl, HBZ.out⟩
          · have heq : (X == P0 && Y == Q0) = false := by
              rw [Bool.eq_false_iff]
              intro h
              rw [Bool.and_eq_true, beq_iff_eq, beq_iff_eq] at h
              exact hpq h
            rw [heq] at he
            have HGO : Hid (0 < m → fol M p m ≠ p) := Lib.hid (fun _ e => hpq ⟨by rw [← HXY0.out.1, ← HPQ.out.1, e], by rw [← HXY0.out.2, ← HPQ.out.2, e]⟩)
            clear hpq heq
            by_cases hml : m ≤ E.length
            · have hml' : (m : Int) ≤ (E.length : Int) := by omega
              refine start_ (n := 14) (S := fun w' => w'.cell? ⟨g, 0, none⟩ = some (.int .i64 X) ∧ w'.cell? ⟨g, 1, none⟩ = some (.int .i64 Y) ∧ w'.cell? ⟨b', off, none⟩ = some (.int .i64 P0) ∧ w'.cell? ⟨b', off + 1, none⟩ = some (.int .i64 Q0)) (ds := []) #[false, false, false, false, false, false, false, false, false, false, false, false, false, false] (by kernel_rfl) rfl rfl ⟨by simpa using d0, by simpa using d1, by simpa using a0, by simpa using a1⟩ (fun hHeld => ?_)
              refine one_ (i := 0) (N := (some 83)) #[true, false, false, false, false, false, false, false, false, false, false, false, false, false] rfl rfl (by kernel_rfl) (by decide) (fun K hK => ?_)
              refine goes_ Tryd.func68 (by kernel_rfl) rfl #[.pointer (some ⟨B, 0, none⟩)] (by rfl) rfl rfl (by (try simp only [List.map_toArray, List.map_cons, List.map_nil]); first | done | rfl) ?_
              refine (HF.out.later (Below.refl _ _).drew).len.mono ?_
              rintro e w4 ⟨rfl, rfl⟩
              refine ⟨_, rfl, ?_⟩
              refine hK.out _ _ hHeld (fun hHeld => ?_)
              clear hK K
              refine norm_ (a' := ?_) ?_ ?_
              rotate_left
              · show Act.put _ (some 83) _ = _; simp only [Act.put, List.setIfInBounds_toArray, List.set_cons_zero, List.set_cons_succ, i64_w, i32_w]; rfl
              refine pure_ (i := 1) (N := (some 84)) (v := (.bool false)) (a' := ?_) #[true, true, false, false, false, false, false, false, false, false, false, false, false, false] rfl rfl (by kernel_rfl) (fun _ _ _ h => h) (Or.inl ⟨by rfl, ?_⟩) ?_ ?_
              · intro w'; go_simp; first | done | with_reducible rfl
              rotate_left
              · simp only [Act.put, List.setIfInBounds_toArray, List.set_cons_zero, List.set_cons_succ, i64_w, i32_w]; rfl
              refine pure_ (i := 2) (N := (some 85)) (v := ?_) (a' := ?_) #[true, true, true, false, false, false, false, false, false, false, false, false, false, false] rfl rfl (by kernel_rfl) (fun _ _ _ h => h) (Or.inl ⟨by rfl, ?_⟩) ?_ ?_
              rotate_left
              · intro w'; go_simp; first | done | with_reducible rfl
              rotate_left
              · simp only [Act.put, List.setIfInBounds_toArray, List.set_cons_zero, List.set_cons_succ, i64_w, i32_w]; rfl
              refine take_ (i := 3) (N := (some 86)) (v := ?_) (a' := ?_) #[true, true, true, true, false, false, false, false, false, false, false, false, false, false] rfl rfl (by kernel_rfl) (fun _ _ _ h => h) (Or.inl ⟨by rfl, ?_⟩) hHeld ?_ ?_
              rotate_left
              · rintro w' ⟨s0, s1, s2, s3⟩; go_simp; first | done | with_reducible rfl
              rotate_left
              · simp only [Act.put, List.setIfInBounds_toArray, List.set_cons_zero, List.set_cons_succ, i64_w, i32_w]; rfl
              refine pure_ (i := 4) (N := (some 87)) (v := ?_) (a' := ?_) #[true, true, true, true, true, false, false, false, false, false, false, false, false, false] rfl rfl (by kernel_rfl) (fun _ _ _ h => h) (Or.inl ⟨by rfl, ?_⟩) ?_ ?_
              rotate_left
              · intro w'; go_simp; first | done | with_reducible rfl
              rotate_left
              · simp only [Act.put, List.setIfInBounds_toArray, List.set_cons_zero, List.set_cons_succ, i64_w, i32_w]; rfl
              refine pure_ (i := 5) (N := (some 88)) (v := ?_) (a' := ?_) #[true, true, true, true, true, true, false, false, false, false, false, false, false, false] rfl rfl (by kernel_rfl) (fun _ _ _ h => h) (Or.inl ⟨by rfl, ?_⟩) ?_ ?_
              rotate_left
              · intro w'; go_simp; first | done | with_reducible rfl
              rotate_left
              · simp only [Act.put, List.setIfInBounds_toArray, List.set_cons_zero, List.set_cons_succ, i64_w, i32_w]; rfl
              refine take_ (i := 6) (N := (some 89)) (v := ?_) (a' := ?_) #[true, true, true, true, true, true, true, false, false, false, false, false, false, false] rfl rfl (by kernel_rfl) (fun _ _ _ h => h) (Or.inl ⟨by rfl, ?_⟩) hHeld ?_ ?_
              rotate_left
              · rintro w' ⟨s0, s1, s2, s3⟩; go_simp; first | done | with_reducible rfl
              rotate_left
              · simp only [Act.put, List.setIfInBounds_toArray, List.set_cons_zero, List.set_cons_succ, i64_w, i32_w]; rfl
              refine pure_ (i := 7) (N := (some 90)) (v := (.bool true)) (a' := ?_) #[true, true, true, true, true, true, true, true, false, false, false, false, false, false] rfl rfl (by kernel_rfl) (fun _ _ _ h => h) (Or.inl ⟨by rfl, ?_⟩) ?_ ?_
              · intro w'; go_simp; first | done | with_reducible rfl
              rotate_left
              · simp only [Act.put, List.setIfInBounds_toArray, List.set_cons_zero, List.set_cons_succ, i64_w, i32_w]; rfl
              refine pure_ (i := 8) (N := (some 91)) (v := ?_) (a' := ?_) #[true, true, true, true, true, true, true, true, true, false, false, false, false, false] rfl rfl (by kernel_rfl) (fun _ _ _ h => h) (Or.inl ⟨by rfl, ?_⟩) ?_ ?_
              rotate_left
              · intro w'; go_simp; first | done | with_reducible rfl
              rotate_left
              · simp only [Act.put, List.setIfInBounds_toArray, List.set_cons_zero, List.set_cons_succ, i64_w, i32_w]; rfl
              refine pure_ (i := 10) (N := (some 93)) (v := ?_) (a' := ?_) #[true, true, true, true, true, true, true, true, true, false, true, false, false, false] rfl rfl (by kernel_rfl) (fun _ _ _ h => h) (Or.inl ⟨by rfl, ?_⟩) ?_ ?_
              rotate_left
              · intro w'; go_simp; first | done | with_reducible rfl
              rotate_left
              · simp only [Act.put, List.setIfInBounds_toArray, List.set_cons_zero, List.set_cons_succ, i64_w, i32_w]; rfl
              refine one_ (i := 9) (N := (some 92)) #[true, true, true, true, true, true, true, true, true, true, true, false, false, false] rfl rfl (by kernel_rfl) (by decide) (fun K hK => ?_)
              refine goes_ Tryd.func68 (by kernel_rfl) rfl #[.pointer (some ⟨B, 0, none⟩)] (by rfl) rfl rfl (by (try simp only [List.map_toArray, List.map_cons, List.map_nil]); first | done | rfl) ?_
              refine (HF.out.later (Below.refl _ _).drew).len.mono ?_
              rintro e w4 ⟨rfl, rfl⟩
              refine ⟨_, rfl, ?_⟩
              refine hK.out _ _ hHeld (fun hHeld => ?_)
              clear hK K
              refine norm_ (a' := ?_) ?_ ?_
              rotate_left
              · show Act.put _ (some 92) _ = _; simp only [Act.put, List.setIfInBounds_toArray, List.set_cons_zero, List.set_cons_succ, i64_w, i32_w]; rfl
              refine pure_ (i := 11) (N := (some 94)) (v := (.bool true)) (a' := ?_) #[true, true, true, true, true, true, true, true, true, true, true, true, false, false] rfl rfl (by kernel_rfl) (fun _ _ _ h => h) (Or.inl ⟨by rfl, ?_⟩) ?_ ?_
              · intro w'; go_simp; first | done | with_reducible rfl
              rotate_left
              · simp only [Act.put, List.setIfInBounds_toArray, List.set_cons_zero, List.set_cons_succ, i64_w, i32_w]; rfl
              refine pure_ (i := 12) (N := (some 95)) (v := ?_) (a' := ?_) #[true, true, true, true, true, true, true, true, true, true, true, true, true, false] rfl rfl (by kernel_rfl) (fun _ _ _ h => h) (Or.inl ⟨by rfl, ?_⟩) ?_ ?_
              rotate_left
              · intro w'; go_simp; first | done | with_reducible rfl
              rotate_left
              · simp only [Act.put, List.setIfInBounds_toArray, List.set_cons_zero, List.set_cons_succ, i64_w, i32_w]; rfl
              refine pure_ (i := 13) (N := (some 96)) (v := ?_) (a' := ?_) #[true, true, true, true, true, true, true, true, true, true, true, true, true, true] rfl rfl (by kernel_rfl) (fun _ _ _ h => h) (Or.inl ⟨by rfl, ?_⟩) ?_ ?_
              rotate_left
              · intro w'; go_simp; first | done | with_reducible rfl
              rotate_left
              · simp only [Act.put, List.setIfInBounds_toArray, List.set_cons_zero, List.set_cons_succ, i64_w, i32_w]; rfl
              refine done_ (by kernel_rfl) ?_
              have hm : m ≤ E.length := hml
              clear hml'
              have HF2 := Lib.hid (HF.out.later (Below.refl _ _).drew)
              clear HF bm he hm63 a0 a1 d0 d1
              obtain ⟨HF, -⟩ : ∃ h : Hid (FoS w1 B M p m g wr.drew), True := ⟨HF2, trivial⟩
              clear HF2
              generalize wr.drew = wz at HF ⊢
              have d0 := blk_cell HF.out.pt 0
              have d1 := blk_cell HF.out.pt 1
              have hlk := run_lookup_is (P := Tryd.prog) Tryd.underlying71 (z := (0 : Int)) (fun w => by kernel_rfl) keyOk_pair HF.out.map (fol M p m) false
              simp only [pairV, Bool.false_eq_true, if_false] at hlk
              have hlt2 := fol_le M p m
              have hstp := step_small (ltr M (fol M p m))
              have hpb := HPB.out
              obtain ⟨X, hX⟩ : ∃ X, (fol M p m).1 = X := ⟨_, rfl⟩
              obtain ⟨Y, hY⟩ : ∃ Y, (fol M p m).2 = Y := ⟨_, rfl⟩
              obtain ⟨q, hq⟩ : ∃ q, ltr M (fol M p m) = q := ⟨_, rfl⟩
              rw [show (findL M (fol M p m)).getD 0 = q from hq, hX, hY] at hlk
              rw [hq] at hstp
              simp [hX] at d0
              simp [hY] at d1
              rw [hX, hY] at hlt2
              have HXY := Lib.hid (And.intro hX (And.intro hY hq))
              have hx2 : wrap64 (X + stepx q) = X + stepx q := by unfold wrap64; omega
              have hy2 : wrap64 (Y + stepy q) = Y + stepy q := by unfold wrap64; omega
              have HW := Lib.hid (And.intro hx2 hy2)
              have HML : Hid (m ≤ E.length) := Lib.hid (by omega)
              clear hX hY hq hlt2 hstp hpb hx2 hy2
              go_wp2_with fail
              refine (Tryd.Builder_WriteByte_k B B _ q _ HF.out.bd (by rw [Lib.byteCells_length, wl_length]; omega) (by have := (Array.getElem?_eq_some_iff.1 HF.out.pt).1; have := HF.out.gb; omega)).mono ?_
              rintro e w5 ⟨rfl, hbd, hbl, hok⟩
              obtain ⟨f1, f2, f3, f4⟩ := HF.out.next (ltr_letter HLE.out _) (by rw [HXY.out.2.2]; exact hbd) hbl hok
              rw [HXY.out.1, HXY.out.2.1] at f4
              have hsz : B < w5.heap.size := by have := (Array.getElem?_eq_some_iff.1 HF.out.pt).1; have := HF.out.gb; have := hbl.size; omega
              have d2 := blk_cell f4 0
              have d3 := blk_cell f4 1
              simp at d2 d3
              have HN := Lib.hid (And.intro f1 (And.intro f2 (And.intro f3 hsz)))
              have HRB := Lib.hid HF.out.rb
              clear hbd hbl hok f1 f2 f3 f4 hsz d0 d1 hlk
              go_wp2_with fail
              have hb6 := below_one (w := w5) (.cells #[.int .i64 X, .int .i64 Y] 63)
              have hk6 := blk_new w5 (.cells #[.int .i64 X, .int .i64 Y] 63)
              obtain ⟨w6, hw6⟩ : ∃ w6, w6 = w5.alloc (.cells #[.int .i64 X, .int .i64 Y] 63) := ⟨_, rfl⟩
              rw [← hw6] at hb6 hk6 ⊢
              have look : ∀ w', Below w5.heap.size w5 w' → (Instr.lookup 71 (.map (some w1.heap.size)) (.agg #[.int .i64 X, .int .i64 Y]) false).run Tryd.prog w' = .ok (.int .u8 q) w' := fun w' hb => by
                have h := run_lookup_is (P := Tryd.prog) Tryd.underlying71 (z := (0 : Int)) (fun w => by kernel_rfl) keyOk_pair (HN.out.1.below hb) (fol M p m) false
                simp only [pairV, Bool.false_eq_true, if_false] at h
                rw [show (findL M (fol M p m)).getD 0 = q from HXY.out.2.2, HXY.out.1, HXY.out.2.1] at h
                exact h
              have LOOK := Lib.hid look
              have HB6 := Lib.hid hb6.drew
              have HK6 : Hid (w6.drew.heap[w5.heap.size]? = some (.cells #[.int .i64 X, .int .i64 Y] 63 (0, 0))) := Lib.hid hk6
              have q0 := blk_cell hk6 0
              have q1 := blk_cell hk6 1
              simp at q0 q1
              have q2 := look w6.drew hb6.drew
              clear hw6 hb6 hk6 look d2 d3
              obtain ⟨G2, hG2⟩ : ∃ G2, w5.heap.size = G2 := ⟨_, rfl⟩
              rw [hG2] at q0 q1 ⊢
              have HG2 := Lib.hid hG2
              clear hG2
              refine start_ (n := 7) (S := fun w' => w'.cell? ⟨G2, 0, none⟩ = some (.int .i64 X) ∧ w'.cell? ⟨G2, 1, none⟩ = some (.int .i64 Y) ∧ (Instr.lookup 71 (.map (some w1.heap.size)) (.agg #[.int .i64 X, .int .i64 Y]) false).run Tryd.prog w' = .ok (.int .u8 q) w') (ds := [6]) #[false, false, false, false, false, false, false] (by kernel_rfl) rfl rfl ⟨by simpa using q0, by simpa using q1, q2⟩ (fun hHeld => ?_)
              refine take_ (i := 0) (N := (some 97)) (v := ?_) (a' := ?_) #[true, false, false, false, false, false, false] rfl rfl (by kernel_rfl) (fun _ _ _ h => h) (Or.inl ⟨by rfl, ?_⟩) hHeld ?_ ?_
              rotate_left
              · rintro w' ⟨s0, s1, s2⟩; go_simp; first | done | with_reducible rfl
              rotate_left
              · simp only [Act.put, List.setIfInBounds_toArray, List.set_cons_zero, List.set_cons_succ, i64_w, i32_w]; rfl
              refine pure_ (i := 1) (N := (some 98)) (v := ?_) (a' := ?_) #[true, true, false, false, false, false, false] rfl rfl (by kernel_rfl) (fun _ _ _ h => h) (Or.inl ⟨by rfl, ?_⟩) ?_ ?_
              rotate_left
              · intro w'; go_simp; first | done | with_reducible rfl
              rotate_left
              · simp only [Act.put, List.setIfInBounds_toArray, List.set_cons_zero, List.set_cons_succ, i64_w, i32_w]; rfl
              refine take_ (i := 2) (N := (some 99)) (v := ?_) (a' := ?_) #[true, true, true, false, false, false, false] rfl rfl (by kernel_rfl) (fun _ _ _ h => h) (Or.inl ⟨by rfl, ?_⟩) hHeld ?_ ?_
              rotate_left
              · rintro w' ⟨s0, s1, s2⟩; go_simp; first | done | with_reducible rfl
              rotate_left
              · simp only [Act.put, List.setIfInBounds_toArray, List.set_cons_zero, List.set_cons_succ, i64_w, i32_w]; rfl
              refine take_ (i := 3) (N := (some 100)) (v := ?_) (a' := ?_) #[true, true, true, true, false, false, false] rfl rfl (by kernel_rfl) (fun _ _ _ h => h) (Or.inl ⟨by rfl, ?_⟩) hHeld ?_ ?_
              rotate_left
              · rintro w' ⟨s0, s1, s2⟩; go_simp; first | done | with_reducible rfl
              rotate_left
              · simp only [Act.put, List.setIfInBounds_toArray, List.set_cons_zero, List.set_cons_succ, i64_w, i32_w]; rfl
              refine one_ (i := 4) (N := (some 101)) #[true, true, true, true, true, false, false] rfl rfl (by kernel_rfl) (by decide) (fun K hK => ?_)
              refine goes_ Tryd.func69 (by kernel_rfl) rfl #[.int .u8 q] (by rfl) rfl rfl (by (try simp only [List.map_toArray, List.map_cons, List.map_nil]); first | done | rfl) ?_
              refine (step_calls _ _).mono ?_
              rintro e w7 ⟨rfl, hb7⟩
              refine ⟨_, rfl, ?_⟩
              have HB7 := Lib.hid (HB6.out.trans (hb7.mono HB6.out.size))
              have k7 := (hb7.block G2 (World.block_lt_of_cell? _ _ hHeld.1)).trans (HG2.out ▸ HK6.out)
              have r0 := blk_cell k7 0
              have r1 := blk_cell k7 1
              simp at r0 r1
              have HK7 := Lib.hid k7
              refine hK.out _ _ ⟨r0, r1, LOOK.out _ HB7.out⟩ (fun hHeld => ?_)
              clear hK K
              refine norm_ (a' := ?_) ?_ ?_
              rotate_left
              · show Act.put _ (some 101) _ = _; simp only [Act.put, List.setIfInBounds_toArray, List.set_cons_zero, List.set_cons_succ, i64_w, i32_w]; rfl
              refine one_ (i := 5) (N := (some 102)) #[true, true, true, true, true, true, false] rfl rfl (by kernel_rfl) (by decide) (fun K hK => ?_)
              refine goes_ Tryd.func65 (by kernel_rfl) rfl #[ptV X Y, ptV (stepx q) (stepy q)] (by rfl) rfl rfl (by (try simp only [List.map_toArray, List.map_cons, List.map_nil]); first | done | rfl) ?_
              refine (plus_at HW.out.1 HW.out.2 _).mono ?_
              rintro e w8 ⟨rfl, hb8⟩
              refine ⟨_, rfl, ?_⟩
              have HB8 := Lib.hid (HB7.out.trans (hb8.mono HB7.out.size))
              have k8 := (hb8.block G2 (Array.getElem?_eq_some_iff.1 HK7.out).1).trans HK7.out
              have r2 := blk_cell k8 0
              have r3 := blk_cell k8 1
              have r4 := blk_frozen k8 0
              have r5 := blk_frozen k8 1
              simp at r2 r3
              have HK8 := Lib.hid k8
              refine hK.out _ _ ⟨r2, r3, LOOK.out _ HB8.out⟩ (fun hHeld => ?_)
              clear hK K
              refine norm_ (a' := ?_) ?_ ?_
              rotate_left
              · show Act.put _ (some 102) _ = _; simp only [Act.put, List.setIfInBounds_toArray, List.set_cons_zero, List.set_cons_succ, i64_w, i32_w]; rfl
              clear r0 r1 k7 k8
              refine last_ (i := 6) (N := none) #[true, true, true, true, true, true, true] rfl rfl (by kernel_rfl) (by decide) (fun K hK => ?_)
              refine skip_step (w1 := (w8.setCell ⟨G2, 0, none⟩ (.int .i64 (X + stepx q))).setCell ⟨G2, 1, none⟩ (.int .i64 (Y + stepy q))) (by rfl) (by go_simp) ?_
              refine hK.out _ _ ?_
              clear hK K
              refine norm_ (a' := ?_) ?_ ?_
              rotate_left
              · show Act.put _ none _ = _; simp only [Act.put, List.setIfInBounds_toArray, List.set_cons_zero, List.set_cons_succ, i64_w, i32_w]; rfl
              refine done_ (by kernel_rfl) ?_
              have hbA : Below w5.heap.size w5 ((w8.setCell ⟨G2, 0, none⟩ (.int .i64 (X + stepx q))).setCell ⟨G2, 1, none⟩ (.int .i64 (Y + stepy q))) := (HB8.out.setCell (p := ⟨G2, 0, none⟩) (Nat.le_of_eq HG2.out) _).setCell (p := ⟨G2, 1, none⟩) (Nat.le_of_eq HG2.out) _
              have hpt := set_two (u := .int .i64 (X + stepx q)) (v := .int .i64 (Y + stepy q)) HK8.out
              have hFN : FoS w1 B M p (m + 1) G2 ((w8.setCell ⟨G2, 0, none⟩ (.int .i64 (X + stepx q))).setCell ⟨G2, 1, none⟩ (.int .i64 (Y + stepy q))) := by
                refine ⟨HN.out.1.below hbA, HN.out.2.1.trans (hbA.mono HN.out.2.1.size), bld_later HN.out.2.2.1 hbA, ?_, HRB.out, by have := HN.out.2.2.2; have := HG2.out; omega⟩
                rw [fol_succ, HXY.out.1, HXY.out.2.1, HXY.out.2.2]
                exact hpt
              have HFN := Lib.hid hFN
              clear hbA hpt hFN hHeld r2 r3 r4 r5 q0 q1 q2
              generalize (w8.setCell ⟨G2, 0, none⟩ (.int .i64 (X + stepx q))).setCell ⟨G2, 1, none⟩ (.int .i64 (Y + stepy q)) = w9 at HFN ⊢
              go_wp2_with fail
              refine ⟨⟨m + 1, G2, rfl, by have := HML.out; omega, Lib.hid (fun i h1 h2 => ?_), HFN⟩, ?_⟩
              · by_cases e : i = m
                · subst e
                  exact HGO.out h1
                · exact HMIN.out i h1 (by omega)
              · rw [HFN.out.left, HLEFT.out]
                have := HML.out
                omega
            · have hml' : ¬ (m : Int) ≤ (E.length : Int) := by omega
              have HSTOP : Hid (fol M p m = p ∨ E.length < m) := Lib.hid (.inr (by omega))
              refine start_ (n := 14) (S := fun w' => w'.cell? ⟨g, 0, none⟩ = some (.int .i64 X) ∧ w'.cell? ⟨g, 1, none⟩ = some (.int .i64 Y) ∧ w'.cell? ⟨b', off, none⟩ = some (.int .i64 P0) ∧ w'.cell? ⟨b', off + 1, none⟩ = some (.int .i64 Q0)) (ds := []) #[false, false, false, false, false, false, false, false, false, false, false, false, false, false] (by kernel_rfl) rfl rfl ⟨by simpa using d0, by simpa using d1, by simpa using a0, by simpa using a1⟩ (fun hHeld => ?_)
              refine one_ (i := 0) (N := (some 83)) #[true, false, false, false, false, false, false, false, false, false, false, false, false, false] rfl rfl (by kernel_rfl) (by decide) (fun K hK => ?_)
              refine goes_ Tryd.func68 (by kernel_rfl) rfl #[.pointer (some ⟨B, 0, none⟩)] (by rfl) rfl rfl (by (try simp only [List.map_toArray, List.map_cons, List.map_nil]); first | done | rfl) ?_
              refine (HF.out.later (Below.refl _ _).drew).len.mono ?_
              rintro e w4 ⟨rfl, rfl⟩
              refine ⟨_, rfl, ?_⟩
              refine hK.out _ _ hHeld (fun hHeld => ?_)
              clear hK K
              refine norm_ (a' := ?_) ?_ ?_
              rotate_left
              · show Act.put _ (some 83) _ = _; simp only [Act.put, List.setIfInBounds_toArray, List.set_cons_zero, List.set_cons_succ, i64_w, i32_w]; rfl
              refine pure_ (i := 1) (N := (some 84)) (v := (.bool false)) (a' := ?_) #[true, true, false, false, false, false, false, false, false, false, false, false, false, false] rfl rfl (by kernel_rfl) (fun _ _ _ h => h) (Or.inl ⟨by rfl, ?_⟩) ?_ ?_
              · intro w'; go_simp; first | done | with_reducible rfl
              rotate_left
              · simp only [Act.put, List.setIfInBounds_toArray, List.set_cons_zero, List.set_cons_succ, i64_w, i32_w]; rfl
              refine pure_ (i := 2) (N := (some 85)) (v := ?_) (a' := ?_) #[true, true, true, false, false, false, false, false, false, false, false, false, false, false] rfl rfl (by kernel_rfl) (fun _ _ _ h => h) (Or.inl ⟨by rfl, ?_⟩) ?_ ?_
              rotate_left
              · intro w'; go_simp; first | done | with_reducible rfl
              rotate_left
              · simp only [Act.put, List.setIfInBounds_toArray, List.set_cons_zero, List.set_cons_succ, i64_w, i32_w]; rfl
              refine take_ (i := 3) (N := (some 86)) (v := ?_) (a' := ?_) #[true, true, true, true, false, false, false, false, false, false, false, false, false, false] rfl rfl (by kernel_rfl) (fun _ _ _ h => h) (Or.inl ⟨by rfl, ?_⟩) hHeld ?_ ?_
              rotate_left
              · rintro w' ⟨s0, s1, s2, s3⟩; go_simp; first | done | with_reducible rfl
              rotate_left
              · simp only [Act.put, List.setIfInBounds_toArray, List.set_cons_zero, List.set_cons_succ, i64_w, i32_w]; rfl
              refine pure_ (i := 4) (N := (some 87)) (v := ?_) (a' := ?_) #[true, true, true, true, true, false, false, false, false, false, false, false, false, false] rfl rfl (by kernel_rfl) (fun _ _ _ h => h) (Or.inl ⟨by rfl, ?_⟩) ?_ ?_
              rotate_left
              · intro w'; go_simp; first | done | with_reducible rfl
              rotate_left
              · simp only [Act.put, List.setIfInBounds_toArray, List.set_cons_zero, List.set_cons_succ, i64_w, i32_w]; rfl
              refine pure_ (i := 5) (N := (some 88)) (v := ?_) (a' := ?_) #[true, true, true, true, true, true, false, false, false, false, false, false, false, false] rfl rfl (by kernel_rfl) (fun _ _ _ h => h) (Or.inl ⟨by rfl, ?_⟩) ?_ ?_
              rotate_left
              · intro w'; go_simp; first | done | with_reducible rfl
              rotate_left
              · simp only [Act.put, List.setIfInBounds_toArray, List.set_cons_zero, List.set_cons_succ, i64_w, i32_w]; rfl
              refine take_ (i := 6) (N := (some 89)) (v := ?_) (a' := ?_) #[true, true, true, true, true, true, true, false, false, false, false, false, false, false] rfl rfl (by kernel_rfl) (fun _ _ _ h => h) (Or.inl ⟨by rfl, ?_⟩) hHeld ?_ ?_
              rotate_left
              · rintro w' ⟨s0, s1, s2, s3⟩; go_simp; first | done | with_reducible rfl
              rotate_left
              · simp only [Act.put, List.setIfInBounds_toArray, List.set_cons_zero, List.set_cons_succ, i64_w, i32_w]; rfl
              refine pure_ (i := 7) (N := (some 90)) (v := (.bool true)) (a' := ?_) #[true, true, true, true, true, true, true, true, false, false, false, false, false, false] rfl rfl (by kernel_rfl) (fun _ _ _ h => h) (Or.inl ⟨by rfl, ?_⟩) ?_ ?_
              · intro w'; go_simp; first | done | with_reducible rfl
              rotate_left
              · simp only [Act.put, List.setIfInBounds_toArray, List.set_cons_zero, List.set_cons_succ, i64_w, i32_w]; rfl
              refine pure_ (i := 8) (N := (some 91)) (v := ?_) (a' := ?_) #[true, true, true, true, true, true, true, true, true, false, false, false, false, false] rfl rfl (by kernel_rfl) (fun _ _ _ h => h) (Or.inl ⟨by rfl, ?_⟩) ?_ ?_
              rotate_left
              · intro w'; go_simp; first | done | with_reducible rfl
              rotate_left
              · simp only [Act.put, List.setIfInBounds_toArray, List.set_cons_zero, List.set_cons_succ, i64_w, i32_w]; rfl
              refine pure_ (i := 10) (N := (some 93)) (v := ?_) (a' := ?_) #[true, true, true, true, true, true, true, true, true, false, true, false, false, false] rfl rfl (by kernel_rfl) (fun _ _ _ h => h) (Or.inl ⟨by rfl, ?_⟩) ?_ ?_
              rotate_left
              · intro w'; go_simp; first | done | with_reducible rfl
              rotate_left
              · simp only [Act.put, List.setIfInBounds_toArray, List.set_cons_zero, List.set_cons_succ, i64_w, i32_w]; rfl
              refine one_ (i := 9) (N := (some 92)) #[true, true, true, true, true, true, true, true, true, true, true, false, false, false] rfl rfl (by kernel_rfl) (by decide) (fun K hK => ?_)
              refine goes_ Tryd.func68 (by kernel_rfl) rfl #[.pointer (some ⟨B, 0, none⟩)] (by rfl) rfl rfl (by (try simp only [List.map_toArray, List.map_cons, List.map_nil]); first | done | rfl) ?_
              refine (HF.out.later (Below.refl _ _).drew).len.mono ?_
              rintro e w4 ⟨rfl, rfl⟩
              refine ⟨_, rfl, ?_⟩
              refine hK.out _ _ hHeld (fun hHeld => ?_)
              clear hK K
              refine norm_ (a' := ?_) ?_ ?_
              rotate_left
              · show Act.put _ (some 92) _ = _; simp only [Act.put, List.setIfInBounds_toArray, List.set_cons_zero, List.set_cons_succ, i64_w, i32_w]; rfl
              refine pure_ (i := 11) (N := (some 94)) (v := (.bool false)) (a' := ?_) #[true, true, true, true, true, true, true, true, true, true, true, true, false, false] rfl rfl (by kernel_rfl) (fun _ _ _ h => h) (Or.inl ⟨by rfl, ?_⟩) ?_ ?_
              · intro w'; go_simp; first | done | with_reducible rfl
              rotate_left
              · simp only [Act.put, List.setIfInBounds_toArray, List.set_cons_zero, List.set_cons_succ, i64_w, i32_w]; rfl
              refine pure_ (i := 12) (N := (some 95)) (v := ?_) (a' := ?_) #[true, true, true, true, true, true, true, true, true, true, true, true, true, false] rfl rfl (by kernel_rfl) (fun _ _ _ h => h) (Or.inl ⟨by rfl, ?_⟩) ?_ ?_
              rotate_left
              · intro w'; go_simp; first | done | with_reducible rfl
              rotate_left
              · simp only [Act.put, List.setIfInBounds_toArray, List.set_cons_zero, List.set_cons_succ, i64_w, i32_w]; rfl
              refine pure_ (i := 13) (N := (some 96)) (v := ?_) (a' := ?_) #[true, true, true, true, true, true, true, true, true, true, true, true, true, true] rfl rfl (by kernel_rfl) (fun _ _ _ h => h) (Or.inl ⟨by rfl, ?_⟩) ?_ ?_
              rotate_left
              · intro w'; go_simp; first | done | with_reducible rfl
              rotate_left
              · simp only [Act.put, List.setIfInBounds_toArray, List.set_cons_zero, List.set_cons_succ, i64_w, i32_w]; rfl
              refine done_ (by kernel_rfl) ?_
              clear hml'
              have HF2 := Lib.hid (HF.out.later (Below.refl _ _).drew)
              clear HF bm he hm63 a0 a1 d0 d1
              obtain ⟨HF, -⟩ : ∃ h : Hid (FoS w1 B M p m g wr.drew), True := ⟨HF2, trivial⟩
              clear HF2
              generalize wr.drew = wz at HF ⊢
              go_wp2_with fail
              refine HF.out.len.mono ?_
              rintro e w4 ⟨rfl, rfl⟩
              have hst := HR2.out.stop HME.out HM1.out HMIN.out HSTOP.out
              have HBZ := Lib.hid (HB1.out.trans (HF.out.bl.mono HB1.out.size))
              by_cases h1 : m = E.length
              · have h1' : ((m : Int) != (E.length : Int)) = false := by simp [h1]
                obtain ⟨es, clock, hmb, hml⟩ := HF.out.map
                have hlm := run_len71 hmb
                have hes : es.size = M.length := by
                  have := congrArg List.length hml
                  simpa using this
                by_cases h2 : M.length = E.length
                · have h2' : ((es.size : Int) != (E.length : Int)) = false := by rw [hes]; simp [h2]
                  obtain ⟨a1, a2⟩ := hst.2.2 h1 h2
                  by_cases h24 : 24 < E.length
                  · have h24' : (24 : Int) < E.length := by omega
                    obtain ⟨hr, hd⟩ := a1 h24
                    have HRD := Lib.hid (And.intro hr hd)
                    clear hr hd a1 a2 hst h1 h2 hml hes
                    go_wp2
                    go_ret2
                    rw [HRD.out.1, HRD.out.2]
                    exact ⟨rfl, HBZ.out⟩
                  · have h24' : ¬ (24 : Int) < E.length := by omega
                    obtain ⟨hr, hd⟩ := a2 (by omega)
                    have HRD := Lib.hid (And.intro hr hd)
                    have HSZ : Hid (m ≤ 1000) := Lib.hid (by omega)
                    clear hr hd a1 a2 hst h1 h2 hml hes
                    go_wp2_with fail
                    refine (Tryd.Builder_String_k B B (wl M p m) _ HF.out.bd (fun e => by have h5 := congrArg List.length e; rw [wl_length] at h5; have := HM1.out; change m = 0 at h5; omega)).mono ?_
                    rintro e w5 ⟨rfl, hb5⟩
                    have HBY : Hid (Below w.heap.size w w5) := Lib.hid (HBZ.out.trans (hb5.mono (by have := HB1.out.size; have := HF.out.rb; omega)))
                    clear hb5
                    go_wp2_with fail
                    refine (first_calls (wlB M p m) _ (by rw [wlB_size]; exact HSZ.out) (wlB_ascii HLE.out p m)).mono ?_
                    rintro e w6 ⟨rfl, hb6⟩
                    have HBX := Lib.hid (HBY.out.trans (hb6.mono HBY.out.size))
                    rw [wlB_size]
                    clear hb6
                    go_wp2
                    go_ret2
                    rw [HRD.out.1, HRD.out.2]
                    exact ⟨rfl, HBX.out⟩
                · have h2' : ((es.size : Int) != (E.length : Int)) = true := by rw [hes]; simp; omega
                  have HRD := Lib.hid (hst.2.1 h1 h2)
                  clear hst h1 h2 hml hes
                  go_wp2
                  go_ret2
                  rw [HRD.out.1, HRD.out.2]
                  exact ⟨rfl, HBZ.out⟩
              · have h1' : ((m : Int) != (E.length : Int)) = true := by simp; omega
                have HRD := Lib.hid (hst.1 h1)
                clear hst h1
                go_wp2
                go_ret2
                rw [HRD.out.1, HRD.out.2]
                exact ⟨rfl, HBZ.out⟩
end Go.Proofs.YtpfenoioeajkmaaDoor.X
end

section
set_option linter.unusedVariables false
set_option linter.unusedSimpArgs false
namespace Go.Proofs.YtpfenoioeajkmaaDoor.L
open Go.RowKit Go.Proofs.YtpfenoioeajkmaaDoorW.PrintWords Go.Proofs.YtpfenoioeajkmaaDoorW.PrintLast Go.Proofs.YtpfenoioeajkmaaDoorW.PrintMore Go.Proofs.YtpfenoioeajkmaaDoor.X Go.Proofs.YtpfenoioeajkmaaDoor.G
theorem bytes_ext {a b : ByteArray} (hs : a.size = b.size) (h : ∀ i : Nat, i < a.size → bt a i = bt b i) : a = b := by
  rw [← strN_self a, ← strN_self b, ← hs]
  exact strN_congr fun i hi => h i hi
theorem gD_rot {s : ByteArray} (h : isO s = true) {k : Nat} (hk : k < s.size) {i : Nat} (hi : i < s.size) : gD s (k + i) = cd (bt (rotF s k) i) ∧ isL (bt (rotF s k) i) := by
  have hl := ((isW_iff s).1 (isO_W h)).2
  have e : (k + i) % s.size = if i < s.size - k then k + i else i - (s.size - k) := by
    by_cases q : i < s.size - k
    · rw [if_pos q, Nat.mod_eq_of_lt (by omega)]
    · rw [if_neg q, show k + i = (i - (s.size - k)) + s.size by omega, Nat.add_mod_right, Nat.mod_eq_of_lt (by omega)]
  have hr := rot_bt s (Nat.le_of_lt hk) i hi
  rw [← e] at hr
  unfold gD
  rw [hr]
  exact ⟨rfl, hl _ (Nat.mod_lt _ (by omega))⟩
theorem pt_mem {l : List (Int × Int)} {i : Nat} (hi : i < l.length) : (pX l i, pY l i) = l[i] := by
  unfold pX pY
  rw [List.getD_eq_getElem?_getD, List.getElem?_eq_getElem hi]
  rfl
theorem cell_at {s : ByteArray} (h : isO s = true) {i : Nat} (hi : i < (rcl s).length) : gW s (pX (rcl s) i) (pY (rcl s) i) = 1 := by
  rw [← mem_cells h, pt_mem hi]
  exact List.getElem_mem _
theorem cell_ne {s : ByteArray} {i j : Nat} (hi : i < (rcl s).length) (hj : j < i) : ¬ (pX (rcl s) i = pX (rcl s) j ∧ pY (rcl s) i = pY (rcl s) j) := by
  rintro ⟨a, b⟩
  have hn := cells_nodup s
  have e : (rcl s)[i] = (rcl s)[j] := by rw [← pt_mem hi, ← pt_mem (Nat.lt_trans hj hi), a, b]
  have := (List.pairwise_iff_getElem.1 hn) j i (by omega) hi hj
  exact this e.symm
theorem cells_pos {s : ByteArray} (h : isO s = true) : 0 < (rcl s).length := by
  have := area_pos h
  have e := (loop_of h).area (box_of h)
  have c := cells_count h
  unfold gW at c
  omega
end Go.Proofs.YtpfenoioeajkmaaDoor.L
end

section
set_option linter.unusedVariables false
set_option linter.unusedSimpArgs false
namespace Go.Proofs.YtpfenoioeajkmaaDoor.X
open Go.RowKit Go.Proofs.YtpfenoioeajkmaaDoorW.PrintWords Go.Proofs.YtpfenoioeajkmaaDoorW.PrintLast Go.Proofs.YtpfenoioeajkmaaDoorW.PrintMore Go.Proofs.YtpfenoioeajkmaaDoor.L
theorem cell_box {s : ByteArray} (h : isO s = true) (i : Nat) (hi : i < (rcl s).length) : -100 ≤ pX (rcl s) i ∧ pX (rcl s) i ≤ 100 ∧ -100 ≤ pY (rcl s) i ∧ pY (rcl s) i ≤ 100 := by
  have := gW_in h (cell_at h hi)
  omega
end Go.Proofs.YtpfenoioeajkmaaDoor.X
end

section
namespace Go.Proofs
open Go.Shelf
def Tryd.lays189_ren : Go.Shelf.Ren := ⟨fun | 189 => 80 | 125 => 93 | 257 => 92 | 128 => 110 | 129 => 111 | 294 => 101 | 295 => 102 | 296 => 103 | 297 => 104 | 298 => 105 | 299 => 106 | 216 => 107 | 300 => 108 | 301 => 109 | 328 => 123 | 329 => 124 | 330 => 125 | 331 => 126 | 332 => 127 | 215 => 100 | 343 => 134 | n => n, fun | 28 => 98 | 3 => 3 | 46 => 28 | 0 => 0 | 51 => 130 | 53 => 132 | 4 => 4 | 183 => 123 | 182 => 122 | 131 => 74 | 5 => 5 | 9 => 9 | 218 => 139 | 222 => 143 | 228 => 154 | 229 => 58 | n => n, fun | n => n⟩
theorem Tryd.lays189 : Go.Proofs.Lays.n189 Tryd.prog Tryd.lays189_ren := {
  mixed := by kernel_rfl
  f125 := Tryd.func93.trans (congrArg some (by kernel_rfl))
  f128 := Tryd.func110.trans (congrArg some (by kernel_rfl))
  f129 := Tryd.func111.trans (congrArg some (by kernel_rfl))
  f189 := Tryd.func80.trans (congrArg some (by kernel_rfl))
  f215 := Tryd.func100.trans (congrArg some (by kernel_rfl))
  f216 := Tryd.func107.trans (congrArg some (by kernel_rfl))
  f257 := Tryd.func92.trans (congrArg some (by kernel_rfl))
  f294 := Tryd.func101.trans (congrArg some (by kernel_rfl))
  f295 := Tryd.func102.trans (congrArg some (by kernel_rfl))
  f296 := Tryd.func103.trans (congrArg some (by kernel_rfl))
  f297 := Tryd.func104.trans (congrArg some (by kernel_rfl))
  f298 := Tryd.func105.trans (congrArg some (by kernel_rfl))
  f299 := Tryd.func106.trans (congrArg some (by kernel_rfl))
  f300 := Tryd.func108.trans (congrArg some (by kernel_rfl))
  f301 := Tryd.func109.trans (congrArg some (by kernel_rfl))
  f328 := Tryd.func123.trans (congrArg some (by kernel_rfl))
  f329 := Tryd.func124.trans (congrArg some (by kernel_rfl))
  f330 := Tryd.func125.trans (congrArg some (by kernel_rfl))
  f331 := Tryd.func126.trans (congrArg some (by kernel_rfl))
  f332 := Tryd.func127.trans (congrArg some (by kernel_rfl))
  f343 := Tryd.func134.trans (congrArg some (by kernel_rfl))
  t0 := Tryd.underlying0
  a0 := Tryd.isAgg0
  z0 := Tryd.sizeOf0
  v0 := Tryd.zeroValue0
  t3 := Tryd.underlying3
  a3 := Tryd.isAgg3
  z3 := Tryd.sizeOf3
  v3 := Tryd.zeroValue3
  t4 := Tryd.underlying4
  a4 := Tryd.isAgg4
  z4 := Tryd.sizeOf4
  v4 := Tryd.zeroValue4
  t5 := Tryd.underlying5
  a5 := Tryd.isAgg5
  z5 := Tryd.sizeOf5
  v5 := Tryd.zeroValue5
  t9 := Tryd.underlying9
  a9 := Tryd.isAgg9
  z9 := Tryd.sizeOf9
  v9 := Tryd.zeroValue9
  t28 := Tryd.underlying98
  a28 := Tryd.isAgg98
  z28 := Tryd.sizeOf98
  v28 := Tryd.zeroValue98
  t46 := Tryd.underlying28
  a46 := Tryd.isAgg28
  z46 := Tryd.sizeOf28
  v46 := Tryd.zeroValue28
  t51 := Tryd.underlying130
  a51 := Tryd.isAgg130
  z51 := Tryd.sizeOf130
  v51 := Tryd.zeroValue130
  t53 := Tryd.underlying132
  a53 := Tryd.isAgg132
  z53 := Tryd.sizeOf132
  v53 := Tryd.zeroValue132
  t131 := Tryd.underlying74
  a131 := Tryd.isAgg74
  z131 := Tryd.sizeOf74
  v131 := Tryd.zeroValue74
  t182 := Tryd.underlying122
  a182 := Tryd.isAgg122
  z182 := Tryd.sizeOf122
  v182 := Tryd.zeroValue122
  t183 := Tryd.underlying123
  a183 := Tryd.isAgg123
  z183 := Tryd.sizeOf123
  v183 := Tryd.zeroValue123
  t218 := Tryd.underlying139
  a218 := Tryd.isAgg139
  z218 := Tryd.sizeOf139
  v218 := Tryd.zeroValue139
  t222 := Tryd.underlying143
  a222 := Tryd.isAgg143
  z222 := Tryd.sizeOf143
  v222 := Tryd.zeroValue143
  t228 := Tryd.underlying154
  a228 := Tryd.isAgg154
  z228 := Tryd.sizeOf154
  v228 := Tryd.zeroValue154
  t229 := Tryd.underlying58
  a229 := Tryd.isAgg58
  z229 := Tryd.sizeOf58
  v229 := Tryd.zeroValue58 }
open Go.Sort Go.RowKit in
theorem Tryd.slices_Sort_int (blk off cap : Nat) (zs : List Int) (w : World) (hH : Holds (Value.int .i64) w blk off zs.toArray) (hblk : blk < w.heap.size) (hsz : zs.length < 4611686018427387904) :
    Calls Tryd.prog 80 #[.slice (some ⟨blk, off, none⟩) zs.length cap] w fun e w' =>
      e = .returned (.tuple #[]) ∧ ∃ n os, w' = grow (putRow (Value.int .i64) (Sort.ahead w n) blk off (zs.mergeSort fun x y => decide (x ≤ y)).toArray) os := Any.slices_Sort_int Tryd.lays189 blk off cap zs w hH hblk hsz
def Tryd.sortPts_ren : Go.Shelf.Ren := ⟨fun | 6 => 81 | 15 => 93 | 14 => 94 | 28 => 110 | 29 => 111 | 20 => 112 | 21 => 113 | 22 => 114 | 23 => 115 | 24 => 116 | 25 => 117 | 26 => 118 | 27 => 119 | 46 => 128 | 47 => 124 | 48 => 125 | 49 => 129 | 50 => 130 | 57 => 135 | n => n, fun | 22 => 67 | 24 => 63 | 25 => 76 | 3 => 3 | 39 => 28 | 0 => 0 | 53 => 130 | 55 => 132 | 4 => 4 | 46 => 123 | 45 => 122 | 50 => 74 | 5 => 5 | 9 => 9 | 66 => 139 | 70 => 143 | 76 => 154 | 77 => 58 | n => n, fun | n => n⟩
theorem Tryd.sortPts : Go.Proofs.SlLaysF0.n6 Tryd.prog Tryd.sortPts_ren := {
  mixed := by kernel_rfl
  f6 := ⟨Tryd.f81.name, by decide, Tryd.func81.trans (congrArg some (by kernel_rfl))⟩
  f14 := ⟨Tryd.f94.name, by decide, Tryd.func94.trans (congrArg some (by kernel_rfl))⟩
  f15 := Tryd.func93.trans (congrArg some (by kernel_rfl))
  f20 := ⟨Tryd.f112.name, by decide, Tryd.func112.trans (congrArg some (by kernel_rfl))⟩
  f21 := ⟨Tryd.f113.name, by decide, Tryd.func113.trans (congrArg some (by kernel_rfl))⟩
  f22 := ⟨Tryd.f114.name, by decide, Tryd.func114.trans (congrArg some (by kernel_rfl))⟩
  f23 := ⟨Tryd.f115.name, by decide, Tryd.func115.trans (congrArg some (by kernel_rfl))⟩
  f24 := ⟨Tryd.f116.name, by decide, Tryd.func116.trans (congrArg some (by kernel_rfl))⟩
  f25 := ⟨Tryd.f117.name, by decide, Tryd.func117.trans (congrArg some (by kernel_rfl))⟩
  f26 := ⟨Tryd.f118.name, by decide, Tryd.func118.trans (congrArg some (by kernel_rfl))⟩
  f27 := ⟨Tryd.f119.name, by decide, Tryd.func119.trans (congrArg some (by kernel_rfl))⟩
  f28 := Tryd.func110.trans (congrArg some (by kernel_rfl))
  f29 := Tryd.func111.trans (congrArg some (by kernel_rfl))
  f46 := ⟨Tryd.f128.name, by decide, Tryd.func128.trans (congrArg some (by kernel_rfl))⟩
  f47 := Tryd.func124.trans (congrArg some (by kernel_rfl))
  f48 := Tryd.func125.trans (congrArg some (by kernel_rfl))
  f49 := ⟨Tryd.f129.name, by decide, Tryd.func129.trans (congrArg some (by kernel_rfl))⟩
  f50 := ⟨Tryd.f130.name, by decide, Tryd.func130.trans (congrArg some (by kernel_rfl))⟩
  f57 := ⟨Tryd.f135.name, by decide, Tryd.func135.trans (congrArg some (by kernel_rfl))⟩
  t0 := Tryd.underlying0
  a0 := Tryd.isAgg0
  z0 := Tryd.sizeOf0
  v0 := Tryd.zeroValue0
  t3 := Tryd.underlying3
  a3 := Tryd.isAgg3
  z3 := Tryd.sizeOf3
  v3 := Tryd.zeroValue3
  t4 := Tryd.underlying4
  a4 := Tryd.isAgg4
  z4 := Tryd.sizeOf4
  v4 := Tryd.zeroValue4
  t5 := Tryd.underlying5
  a5 := Tryd.isAgg5
  z5 := Tryd.sizeOf5
  v5 := Tryd.zeroValue5
  t9 := Tryd.underlying9
  a9 := Tryd.isAgg9
  z9 := Tryd.sizeOf9
  v9 := Tryd.zeroValue9
  t22 := Tryd.underlying67
  a22 := Tryd.isAgg67
  z22 := Tryd.sizeOf67
  v22 := Tryd.zeroValue67
  t25 := Tryd.underlying76
  a25 := Tryd.isAgg76
  z25 := Tryd.sizeOf76
  v25 := Tryd.zeroValue76
  t39 := Tryd.underlying28
  a39 := Tryd.isAgg28
  z39 := Tryd.sizeOf28
  v39 := Tryd.zeroValue28
  t45 := Tryd.underlying122
  a45 := Tryd.isAgg122
  z45 := Tryd.sizeOf122
  v45 := Tryd.zeroValue122
  t46 := Tryd.underlying123
  a46 := Tryd.isAgg123
  z46 := Tryd.sizeOf123
  v46 := Tryd.zeroValue123
  t50 := Tryd.underlying74
  a50 := Tryd.isAgg74
  z50 := Tryd.sizeOf74
  v50 := Tryd.zeroValue74
  t53 := Tryd.underlying130
  a53 := Tryd.isAgg130
  z53 := Tryd.sizeOf130
  v53 := Tryd.zeroValue130
  t55 := Tryd.underlying132
  a55 := Tryd.isAgg132
  z55 := Tryd.sizeOf132
  v55 := Tryd.zeroValue132
  t66 := Tryd.underlying139
  a66 := Tryd.isAgg139
  z66 := Tryd.sizeOf139
  v66 := Tryd.zeroValue139
  t70 := Tryd.underlying143
  a70 := Tryd.isAgg143
  z70 := Tryd.sizeOf143
  v70 := Tryd.zeroValue143
  t76 := Tryd.underlying154
  a76 := Tryd.isAgg154
  z76 := Tryd.sizeOf154
  v76 := Tryd.zeroValue154
  t77 := Tryd.underlying58
  a77 := Tryd.isAgg58
  z77 := Tryd.sizeOf58
  v77 := Tryd.zeroValue58 }
end Go.Proofs
end

section
set_option linter.unusedVariables false
set_option linter.unusedSimpArgs false
namespace Go.Proofs.YtpfenoioeajkmaaDoor.X
open Go.RowKit Go.Proofs.YtpfenoioeajkmaaDoorW.PrintWords Go.Proofs.YtpfenoioeajkmaaDoorW.PrintLast Go.Proofs.YtpfenoioeajkmaaDoorW.PrintMore Go.Proofs.YtpfenoioeajkmaaDoor.L
structure PtS (B : Nat) (s : ByteArray) (x y : Int) (wr : World) : Prop where
  p0 : wr.cell? ⟨B, 0, none⟩ = some (.int .i64 x)
  p1 : wr.cell? ⟨B, 1, none⟩ = some (.int .i64 y)
  pf : wr.frozen? ⟨B, 0, none⟩ = false
  pg : wr.frozen? ⟨B, 1, none⟩ = false
  bs : ∀ i : Nat, i < s.size → wr.cell? ⟨B + 1, i, none⟩ = some (.int .u8 (bt s i))
  sz : B + 1 < wr.heap.size
theorem frozen_of_block {w w' : World} {a : Addr} (h : w'.heap[a.block]? = w.heap[a.block]?) : w'.frozen? a = w.frozen? a := by
  unfold World.frozen?
  rw [h]
theorem PtS.keep {B : Nat} {s : ByteArray} {x y : Int} {wr w2 : World} (h : PtS B s x y wr) (h0 : w2.heap[B]? = wr.heap[B]?) (h1 : w2.heap[B + 1]? = wr.heap[B + 1]?) (hs : wr.heap.size ≤ w2.heap.size) : PtS B s x y w2 where
  p0 := (World.cell?_of_block h0).trans h.p0
  p1 := (World.cell?_of_block h0).trans h.p1
  pf := (frozen_of_block h0).trans h.pf
  pg := (frozen_of_block h0).trans h.pg
  bs := fun i hi => (World.cell?_of_block h1).trans (h.bs i hi)
  sz := Nat.lt_of_lt_of_le h.sz hs
theorem PtS.later {B : Nat} {s : ByteArray} {x y : Int} {wr w2 : World} (h : PtS B s x y wr) (hb : Below wr.heap.size wr w2) : PtS B s x y w2 :=
  h.keep (hb.block B (by have := h.sz; omega)) (hb.block (B + 1) h.sz) hb.size
theorem PtS.set {B : Nat} {s : ByteArray} {x y : Int} {wr : World} (h : PtS B s x y wr) {g i : Nat} (hg : B + 1 < g) (u : Value) : PtS B s x y (wr.setCell ⟨g, i, none⟩ u) :=
  h.keep (Below.heap_setCell _ _ _ _ (by simp; omega)) (Below.heap_setCell _ _ _ _ (by simp; omega)) (by simp)
theorem PtS.draw {B : Nat} {s : ByteArray} {x y : Int} {wr : World} (h : PtS B s x y wr) : PtS B s x y wr.drew := h.later (Below.refl _ _).drew
theorem PtS.put {B : Nat} {s : ByteArray} {x y : Int} {wr : World} (h : PtS B s x y wr) (a b : Int) : PtS B s a b ((wr.setCell ⟨B, 0, none⟩ (.int .i64 a)).setCell ⟨B, 1, none⟩ (.int .i64 b)) where
  p0 := (cell_set_off _ (by decide)).trans (cell_set_self _ h.p0)
  p1 := cell_set_self _ ((cell_set_off _ (by decide)).trans h.p1)
  pf := by simpa using h.pf
  pg := by simpa using h.pg
  bs := fun i hi => (cell_set_other _ (by simp)).trans ((cell_set_other _ (by simp)).trans (h.bs i hi))
  sz := by simpa using h.sz
def wallTo (s : ByteArray) (y : Int) : Nat → List Int
  | 0 => []
  | k + 1 => wallTo s y k ++ if sumy s k ≠ sumy s (k + 1) ∧ min (sumy s k) (sumy s (k + 1)) = y then [sumx s k] else []
theorem wallTo_len (s : ByteArray) (y : Int) : ∀ k, (wallTo s y k).length ≤ k
  | 0 => by simp [wallTo]
  | k + 1 => by
    have := wallTo_len s y k
    rw [wallTo, List.length_append]
    split <;> simp <;> omega
def RV (v : Value) : Option (DataW Value × List MemPlace) := some (.held v, [])
def nilS : DataW Value := .held (.slice none 0 0)
theorem law3 : Maps.Keyed Tryd.prog 3 := Maps.int_keyed Tryd.underlying3
structure WallS (M C : Nat) (f : Int → List Int) (n : Nat) (D : DataW Value) (val : Int → Value) (wr : World) : Prop where
  own : wr.ownsMap Tryd.prog 3 RV M n D
  at_ : ∀ y, D.atKey (.int .i64 y) nilS = .held (val y)
  row : ∀ y, wr.ownsRow C 3 1 (val y) (f y).length ((f y).map (Value.int .i64))
  off : ∀ y z, y ≠ z → (val y).ownBlock = (val z).ownBlock → (val y).ownBlock = none
  has_ : ∀ y, Maps.has D (.int .i64 y) = true → f y ≠ []
theorem own_low {C e sz n : Nat} {w : World} {v : Value} {xs : List Value} (h : w.ownsRow C e sz v n xs) : ∀ g, v.ownBlock = some g → C ≤ g ∧ g < w.heap.size := by
  intro g hg
  obtain ⟨_, ⟨h, _⟩ | ⟨b, cap, cur, h, h2, h3, _⟩⟩ := h
  · rw [h] at hg
    cases hg
  · rw [h] at hg
    injection hg with hg
    subst hg
    exact ⟨h2, (Array.getElem?_eq_some_iff.1 h3).1⟩
theorem WallS.later {M C : Nat} {f : Int → List Int} {n : Nat} {D : DataW Value} {val : Int → Value} {wr w2 : World} (h : WallS M C f n D val wr) (hb : Below wr.heap.size wr w2) : WallS M C f n D val w2 where
  own := h.own.kept (grown_of_below hb) (by simp)
  at_ := h.at_
  row := fun y => pw_own_below (h.row y) hb
  off := h.off
  has_ := h.has_
theorem WallS.set {M C : Nat} {f : Int → List Int} {n : Nat} {D : DataW Value} {val : Int → Value} {wr w2 : World} (h : WallS M C f n D val wr) {g : Nat} (hg : wr.grownBy w2 (some g)) (hM : M ≠ g) (hgC : ∀ y, (val y).ownBlock ≠ some g) : WallS M C f n D val w2 where
  own := h.own.kept hg (by simpa using hM)
  at_ := h.at_
  row := fun y => (h.row y).kept hg (.inr (hgC y))
  off := h.off
  has_ := h.has_
structure St (w : World) (s : ByteArray) (k : Nat) (x y : Int) (wr : World) : Prop where
  pt : PtS (w.heap.size + 1) s x y wr
  wl : ∃ D val, WallS w.heap.size (w.heap.size + 3) (fun y => wallTo s y k) k D val wr
  bl : Below w.heap.size w wr
  hi : w.heap.size + 3 ≤ wr.heap.size
structure StQ (w : World) (s : ByteArray) (k : Nat) (x y : Int) (g : Nat) (a b : Int) (wr : World) : Prop where
  pt : PtS (w.heap.size + 1) s x y wr
  wl : ∃ D val, WallS w.heap.size (w.heap.size + 3) (fun y => wallTo s y k) k D val wr ∧ ∀ y, (val y).ownBlock ≠ some g
  bl : Below w.heap.size w wr
  hi : w.heap.size + 3 ≤ wr.heap.size
  q0 : wr.cell? ⟨g, 0, none⟩ = some (.int .i64 a)
  q1 : wr.cell? ⟨g, 1, none⟩ = some (.int .i64 b)
  qf : wr.frozen? ⟨g, 0, none⟩ = false
  qg : wr.frozen? ⟨g, 1, none⟩ = false
  lo : w.heap.size + 2 < g
  up : g < wr.heap.size
theorem St.later {w : World} {s : ByteArray} {k : Nat} {x y : Int} {wr w2 : World} (h : St w s k x y wr) (hb : Below wr.heap.size wr w2) : St w s k x y w2 where
  pt := h.pt.later hb
  wl := let ⟨D, val, e⟩ := h.wl; ⟨D, val, e.later hb⟩
  bl := h.bl.trans (hb.mono h.bl.size)
  hi := Nat.le_trans h.hi hb.size
theorem St.draw {w : World} {s : ByteArray} {k : Nat} {x y : Int} {wr : World} (h : St w s k x y wr) : St w s k x y wr.drew := h.later (Below.refl _ _).drew
theorem StQ.later {w : World} {s : ByteArray} {k : Nat} {x y : Int} {g : Nat} {a b : Int} {wr w2 : World} (h : StQ w s k x y g a b wr) (hb : Below wr.heap.size wr w2) : StQ w s k x y g a b w2 where
  pt := h.pt.later hb
  wl := let ⟨D, val, e, f⟩ := h.wl; ⟨D, val, e.later hb, f⟩
  bl := h.bl.trans (hb.mono h.bl.size)
  hi := Nat.le_trans h.hi hb.size
  q0 := (hb.cell (p := ⟨g, 0, none⟩) h.up).trans h.q0
  q1 := (hb.cell (p := ⟨g, 1, none⟩) h.up).trans h.q1
  qf := (hb.frozen (p := ⟨g, 0, none⟩) h.up).trans h.qf
  qg := (hb.frozen (p := ⟨g, 1, none⟩) h.up).trans h.qg
  lo := h.lo
  up := Nat.lt_of_lt_of_le h.up hb.size
theorem StQ.start {w : World} {s : ByteArray} {k : Nat} {x y : Int} {g : Nat} {wr w1 : World} (h : St w s k x y wr) (hg : g = wr.heap.size) (hb : w1.heap[g]? = some (.cells #[.int .i64 0, .int .i64 0] 63 (0, 0))) (hba : Below wr.heap.size wr w1) : StQ w s k x y g 0 0 w1 where
  pt := h.pt.later hba
  wl := let ⟨D, val, e⟩ := h.wl; ⟨D, val, e.later hba, fun y q => by have := (own_low (e.row y) g q).2; omega⟩
  bl := h.bl.trans (hba.mono h.bl.size)
  hi := Nat.le_trans h.hi hba.size
  q0 := (blk_cell hb 0).trans rfl
  q1 := (blk_cell hb 1).trans rfl
  qf := blk_frozen hb 0
  qg := blk_frozen hb 1
  lo := by have := h.hi; omega
  up := (Array.getElem?_eq_some_iff.1 hb).1
theorem grown_set (w : World) (a : Addr) (u : Value) : w.grownBy (w.setCell a u) (some a.block) :=
  ⟨rfl, rfl, rfl, by simp, fun k _ hk => Below.heap_setCell _ _ _ _ (fun e => hk (by rw [e]))⟩
theorem StQ.set1 {w : World} {s : ByteArray} {k : Nat} {x y : Int} {g : Nat} {a b : Int} {wr : World} (h : StQ w s k x y g a b wr) (a' b' : Int) : StQ w s k x y g a' b' ((wr.setCell ⟨g, 0, none⟩ (.int .i64 a')).setCell ⟨g, 1, none⟩ (.int .i64 b')) where
  pt := (h.pt.set (g := g) (i := 0) (by have := h.lo; omega) _).set (g := g) (i := 1) (by have := h.lo; omega) _
  wl := let ⟨D, val, e, f⟩ := h.wl; ⟨D, val, (e.set (grown_set wr ⟨g, 0, none⟩ _) (by have := h.lo; show _ ≠ g; omega) f).set (grown_set _ ⟨g, 1, none⟩ _) (by have := h.lo; show _ ≠ g; omega) f, f⟩
  bl := (h.bl.setCell (p := ⟨g, 0, none⟩) (by have := h.lo; show _ ≤ g; omega) _).setCell (p := ⟨g, 1, none⟩) (by have := h.lo; show _ ≤ g; omega) _
  hi := by simpa using h.hi
  q0 := (cell_set_off _ (by decide)).trans (cell_set_self _ h.q0)
  q1 := cell_set_self _ ((cell_set_off _ (by decide)).trans h.q1)
  qf := by simpa using h.qf
  qg := by simpa using h.qg
  lo := h.lo
  up := by simpa using h.up
theorem St.put {w : World} {s : ByteArray} {k : Nat} {x y : Int} {wr : World} (h : St w s k x y wr) (a b : Int) : St w s k a b ((wr.setCell ⟨w.heap.size + 1, 0, none⟩ (.int .i64 a)).setCell ⟨w.heap.size + 1, 1, none⟩ (.int .i64 b)) where
  pt := h.pt.put a b
  wl := by
    obtain ⟨D, val, e⟩ := h.wl
    have f : ∀ y, (val y).ownBlock ≠ some (w.heap.size + 1) := fun y q => by have := (own_low (e.row y) _ q).1; omega
    exact ⟨D, val, (e.set (grown_set wr ⟨w.heap.size + 1, 0, none⟩ _) (by show _ ≠ w.heap.size + 1; omega) f).set (grown_set _ ⟨w.heap.size + 1, 1, none⟩ _) (by show _ ≠ w.heap.size + 1; omega) f⟩
  bl := (h.bl.setCell (p := ⟨w.heap.size + 1, 0, none⟩) (by simp) _).setCell (p := ⟨w.heap.size + 1, 1, none⟩) (by simp) _
  hi := by simpa using h.hi
theorem StQ.st {w : World} {s : ByteArray} {k : Nat} {x y : Int} {g : Nat} {a b : Int} {wr : World} (h : StQ w s k x y g a b wr) : St w s k x y wr := ⟨h.pt, let ⟨D, val, e, _⟩ := h.wl; ⟨D, val, e⟩, h.bl, h.hi⟩
theorem St.flat {w : World} {s : ByteArray} {k : Nat} {x y : Int} {wr : World} (h : St w s k x y wr) (hk : sumy s k = sumy s (k + 1)) : St w s (k + 1) x y wr := by
  refine ⟨h.pt, ?_, h.bl, h.hi⟩
  obtain ⟨D, val, e⟩ := h.wl
  have hf : (fun y => wallTo s y (k + 1)) = fun y => wallTo s y k := by
    funext z
    rw [wallTo, if_neg (fun q => q.1 hk), List.append_nil]
  rw [hf]
  exact ⟨D, val, e.own.mono (Nat.le_succ k), e.at_, e.row, e.off, e.has_⟩
section
variable {P : Program} {ops : Array Oper} {rest : List Oper} {o : Oper} {a : Act} {Q : Exit → Act → World → Prop}
theorem wpList_lookup_held (w : World) (hg : o.guard = none) (m x : Operand) (t : TypeId) (hop : o.op = .lookup t m x false) {k e : TypeId} (K : Maps.Keyed P k) (ht : P.underlying t = some (.map k e)) (hz : ∀ w, (zeroValue e).run P w = .ok (.slice none 0 0) w) {b n : Nat} {D : DataW Value}
    (hm : a.eval m = .map (some b)) (hown : w.ownsMap P k RV b n D) (key : Value) (kl : Lit) (hx : a.eval x = key) (hkey : keyOf P k key = some kl) (hK : ∀ v, D.atKey kl nilS = .held v → wpList P ops Q rest (a.put o.dst v) w) : wpList P ops Q (o :: rest) a w := by
  refine wpList_plain hg fun K' hK' => ?_
  obtain ⟨v, ps, hrun, hv⟩ := hown.lookup K ht (hz w) (R := RV) (zd := nilS) (zp := []) rfl hkey
  have e1 : D.atKey kl nilS = .held v := by
    unfold RV at hv
    injection hv with hv
    injection hv with h1 h2
    exact h1.symm
  unfold Oper.wp
  simp [execOp, hop, hm, hx, hrun, Result.andThen]
  exact hK' _ _ (hK v e1)
end
theorem WallS.put {M C : Nat} {f f' : Int → List Int} {n : Nat} {D : DataW Value} {val : Int → Value} {w0 w1 w2 : World} (h : WallS M C f n D val w0) {y X : Int} {v1 : Value} (hn : ∀ z, f' z = if z = y then f y ++ [X] else f z) (hMC : M < C)
    (hr : w1.ownsRow C 3 1 v1 ((f y).length + 1) ((f y).map (Value.int .i64) ++ [.int .i64 X])) (hg : w0.grownBy w1 (val y).ownBlock) (hl : v1.ownBlock = (val y).ownBlock ∨ v1.ownBlock = some w0.heap.size) (hwf : WideAt.IsKeyLit (.int .i64 y))
    (hown : w2.ownsMap Tryd.prog 3 RV M (n + 1) (D.put (.int .i64 y) (.held v1))) (hg2 : w1.grownBy w2 (some M)) : WallS M C f' (n + 1) (D.put (.int .i64 y) (.held v1)) (fun z => if z = y then v1 else val z) w2 where
  own := hown
  at_ z := by
    by_cases e : z = y
    · subst e
      rw [if_pos rfl]
      exact Maps.atKey_put_same (Maps.Tidy.isMap (h.own.tidy law3)) hwf _ _
    · rw [if_neg e, Maps.atKey_put_other (by intro q; injection q with _ q; exact e q)]
      exact h.at_ z
  row z := by
    have offM : ∀ {v : Value} {m : Nat} {xs : List Value} {w : World}, w.ownsRow C 3 1 v m xs → v.ownBlock ≠ some M := fun ho q => by have := (own_low ho _ q).1; omega
    by_cases e : z = y
    · subst e
      have e1 := hn z
      rw [if_pos rfl] at e1
      show w2.ownsRow C 3 1 (if z = z then v1 else val z) _ _
      rw [if_pos rfl, e1, List.length_append, List.map_append]
      exact hr.kept hg2 (.inr (offM hr))
    · have e1 := hn z
      rw [if_neg e] at e1
      show w2.ownsRow C 3 1 (if z = y then v1 else val z) _ _
      rw [if_neg e, e1]
      have r1 := (h.row z).kept hg (by
        by_cases q : (val z).ownBlock = (val y).ownBlock
        · exact .inl (h.off z y e q)
        · exact .inr q)
      exact r1.kept hg2 (.inr (offM r1))
  off z z' hne := by
    have key : ∀ z, z ≠ y → v1.ownBlock = (val z).ownBlock → v1.ownBlock = none := fun z hz q => by
      rcases hl with hl | hl
      · rw [hl] at q ⊢
        exact h.off y z (fun e => hz e.symm) q
      · rw [hl] at q
        have := (own_low (h.row z) _ q.symm).2
        omega
    show (if z = y then v1 else val z).ownBlock = (if z' = y then v1 else val z').ownBlock → (if z = y then v1 else val z).ownBlock = none
    by_cases e : z = y
    · rw [if_pos e]
      by_cases e' : z' = y
      · exact absurd (e.trans e'.symm) hne
      · rw [if_neg e']
        exact key z' e'
    · rw [if_neg e]
      by_cases e' : z' = y
      · rw [if_pos e']
        intro q
        rw [q]
        exact key z e q.symm
      · rw [if_neg e']
        exact h.off z z' hne
  has_ z hz := by
    rw [hn z]
    by_cases e : z = y
    · rw [if_pos e]
      simp
    · rw [if_neg e]
      rw [Maps.has_put_other (by intro q; injection q with _ q; exact e q)] at hz
      exact h.has_ z hz
theorem grown_cell {w w' : World} {row : Option Nat} (hg : w.grownBy w' row) {b : Nat} (hb : b < w.heap.size) (hne : some b ≠ row) : w'.heap[b]? = w.heap[b]? := hg.block b hb hne
theorem StQ.wall {w : World} {s : ByteArray} {k : Nat} {x y : Int} {g : Nat} {a b : Int} {w5 w6 w8 w9 : World} {D : DataW Value} {val : Int → Value} {r : Int} {v1 : Value} (h : StQ w s k x y g a b w5) (e : WallS w.heap.size (w.heap.size + 3) (fun y => wallTo s y k) k D val w5) (f : ∀ y, (val y).ownBlock ≠ some g)
    (hk : sumy s k ≠ sumy s (k + 1)) (hr : min (sumy s k) (sumy s (k + 1)) = r) (hx : sumx s k = x) (hb6 : Below w5.heap.size w5 w6)
    (ho : w8.ownsRow (w.heap.size + 3) 3 1 v1 ((wallTo s r k).length + 1) ((wallTo s r k).map (Value.int .i64) ++ [.int .i64 x])) (hg : w6.grownBy w8 (val r).ownBlock) (hl : v1.ownBlock = (val r).ownBlock ∨ v1.ownBlock = some w6.heap.size) (hwf : WideAt.IsKeyLit (.int .i64 r))
    (hown : w9.ownsMap Tryd.prog 3 RV w.heap.size (k + 1) (D.put (.int .i64 r) (.held v1))) (hg9 : w8.grownBy w9 (some w.heap.size)) : StQ w s (k + 1) x y g a b w9 := by
  have h6 := h.later hb6
  have e6 := e.later hb6
  have low := own_low (e6.row r)
  have keep : ∀ {c}, c < w6.heap.size → c ≠ w.heap.size → (val r).ownBlock ≠ some c → w9.heap[c]? = w6.heap[c]? := fun {c} h1 h2 h3 => (grown_cell hg9 (Nat.lt_of_lt_of_le h1 hg.size) (by simpa using h2)).trans (grown_cell hg h1 (fun q => h3 q.symm))
  have no : ∀ {c}, c < w.heap.size + 3 → (val r).ownBlock ≠ some c := fun {c} h1 q => by have := (low c q).1; omega
  have hi := h6.hi
  have hup := h6.up
  have hlo := h6.lo
  have kg := keep hup (by omega) (f r)
  refine ⟨h6.pt.keep (keep (by omega) (by omega) (no (by omega))) (keep (by omega) (by omega) (no (by omega))) (Nat.le_trans hg.size hg9.size), ⟨_, _, e6.put (f' := fun y => wallTo s y (k + 1)) (y := r) (X := x) (fun z => ?_) (by omega) ho hg hl hwf hown hg9, fun z => ?_⟩, ?_, Nat.le_trans hi (Nat.le_trans hg.size hg9.size), (World.cell?_of_block kg).trans h6.q0, (World.cell?_of_block kg).trans h6.q1, (frozen_of_block kg).trans h6.qf, (frozen_of_block kg).trans h6.qg, hlo, Nat.lt_of_lt_of_le hup (Nat.le_trans hg.size hg9.size)⟩
  · show wallTo s z (k + 1) = if z = r then wallTo s r k ++ [x] else wallTo s z k
    rw [wallTo, hr, hx]
    by_cases q : z = r
    · rw [if_pos ⟨hk, q.symm⟩, if_pos q, q]
    · rw [if_neg (fun c => q c.2.symm), if_neg q, List.append_nil]
  · show (if z = r then v1 else val z).ownBlock ≠ some g
    by_cases q : z = r
    · rw [if_pos q]
      rcases hl with hl | hl
      · rw [hl]; exact f r
      · rw [hl]; intro c; injection c with c; omega
    · rw [if_neg q]; exact f z
  · have b8 : Below w.heap.size w w8 := h6.bl.grown hg h6.bl.size (fun c hc => by have := (low c hc).1; omega)
    exact b8.grown hg9 b8.size (fun c hc => by injection hc with hc; omega)
end Go.Proofs.YtpfenoioeajkmaaDoor.X
end

section
set_option linter.unusedVariables false
set_option linter.unusedSimpArgs false
namespace Go.Proofs.YtpfenoioeajkmaaDoor.X
open Go.RowKit Go.Proofs.YtpfenoioeajkmaaDoorW.PrintWords Go.Proofs.YtpfenoioeajkmaaDoorW.PrintLast Go.Proofs.YtpfenoioeajkmaaDoorW.PrintMore Go.Proofs.YtpfenoioeajkmaaDoor.L
theorem put_heap {α : Type} [Inhabited α] (enc : α → Value) (w : World) (m g : Nat) (d : Array α) (os : Array Obj) {cur : Array Value} {e : TypeId} (hb : w.heap[g]? = some (.cells cur e (0, 0))) (hd : d.size ≤ cur.size) :
    (∃ cur', (Go.Sort.grow (Go.Sort.putRow enc (Go.Sort.ahead w m) g 0 d) os).heap[g]? = some (.cells cur' e (0, 0)) ∧ cur'.size = cur.size ∧ cur'.toList.take d.size = d.toList.map enc) ∧
      w.grownBy (Go.Sort.grow (Go.Sort.putRow enc (Go.Sort.ahead w m) g 0 d) os) (some g) := by
  have hg := (Array.getElem?_eq_some_iff.1 hb).1
  have hs : (Go.Sort.putRow enc (Go.Sort.ahead w m) g 0 d).heap.size = w.heap.size := by
    unfold Go.Sort.putRow Go.Sort.mapBlock Go.Sort.ahead
    simp
  refine ⟨⟨Go.Sort.putCells enc 0 d cur, ?_, ?_, ?_⟩, ⟨rfl, rfl, rfl, ?_, ?_⟩⟩
  · unfold Go.Sort.grow
    rw [Array.getElem?_append_left (by rw [hs]; exact hg)]
    unfold Go.Sort.putRow Go.Sort.mapBlock Go.Sort.ahead
    rw [Array.getElem?_modify, if_pos rfl, hb]
    rfl
  · unfold Go.Sort.putCells; simp
  · apply List.ext_getElem
    · unfold Go.Sort.putCells; simp; omega
    · intro i h1 h2
      have hi : i < d.size := by simpa using h2
      unfold Go.Sort.putCells
      simp only [List.getElem_take, Array.getElem_toList, Array.getElem_mapIdx, List.getElem_map, Nat.zero_le, Nat.zero_add, true_and, Nat.sub_zero, if_pos hi]
      rw [getElem!_pos d i hi]
  · unfold Go.Sort.grow
    simp only [Array.size_append]
    rw [hs]
    omega
  · intro k hk hne
    have hne' : g ≠ k := fun e => hne (by rw [e])
    unfold Go.Sort.grow
    rw [Array.getElem?_append_left (by rw [hs]; exact hk)]
    unfold Go.Sort.putRow Go.Sort.mapBlock Go.Sort.ahead
    rw [Array.getElem?_modify, if_neg hne']
theorem own_block {C e sz n : Nat} {w : World} {v : Value} {xs : List Value} (h : w.ownsRow C e sz v n xs) (h0 : 0 < n) :
    ∃ g cap cur, v = .slice (some ⟨g, 0, none⟩) n cap ∧ C ≤ g ∧ w.heap[g]? = some (.cells cur e (0, 0)) ∧ n ≤ cap ∧ cap ≤ maxLen ∧ cur.size = cap * sz ∧ cur.toList.take (n * sz) = xs := by
  obtain ⟨_, ⟨_, q⟩ | h⟩ := h
  · omega
  · exact h
theorem sort_row {C : Nat} {w : World} {v : Value} {l : List Int} (h : w.ownsRow C 3 1 v l.length (l.map (Value.int .i64))) (h0 : 0 < l.length) (hl : l.length < 4611686018427387904) :
    Calls Tryd.prog 80 #[v] w fun e w' => e = .returned (.tuple #[]) ∧ w'.ownsRow C 3 1 v l.length ((l.mergeSort fun x y => decide (x ≤ y)).map (Value.int .i64)) ∧ w.grownBy w' v.ownBlock := by
  obtain ⟨g, cap, cur, rfl, hC, hb, hn, hm, hs, ht⟩ := own_block h h0
  rw [Nat.mul_one] at hs ht
  have hH : Go.Sort.Holds (Value.int .i64) w g 0 l.toArray := fun j hj => by
    have hj' : j < l.length := by simpa using hj
    have e : (cur.toList.take l.length)[j]? = some (.int .i64 l[j]) := by rw [ht]; simp [hj']
    rw [List.getElem?_take, if_pos hj'] at e
    have e' : cur[j]? = some (.int .i64 l[j]) := by simpa using e
    rw [Nat.zero_add]
    refine ⟨?_, ?_⟩
    · rw [getElem!_pos l.toArray j hj]
      have : w.cell? ⟨g, j, none⟩ = some (.int .i64 l[j]) := by
        unfold World.cell?
        simp only [hb]
        simpa using e'
      simpa using this
    · exact blk_frozen hb j
  refine (Tryd.slices_Sort_int g 0 cap l w hH (Array.getElem?_eq_some_iff.1 hb).1 hl).mono ?_
  rintro e w' ⟨rfl, m, os, rfl⟩
  have hz : (l.mergeSort fun x y => decide (x ≤ y)).toArray.size = l.length := by simp
  obtain ⟨⟨cur', c1, c2, c3⟩, hg⟩ := put_heap (Value.int .i64) w m g (l.mergeSort fun x y => decide (x ≤ y)).toArray os hb (by rw [hz]; omega)
  refine ⟨rfl, ⟨by simp, .inr ⟨g, cap, cur', rfl, hC, c1, hn, hm, by omega, ?_⟩⟩, hg⟩
  rw [hz] at c3
  rw [Nat.mul_one, c3]
def encP (p : Int × Int) : List Value := [.int .i64 p.1, .int .i64 p.2]
end Go.Proofs.YtpfenoioeajkmaaDoor.X
end

section
set_option linter.unusedVariables false
set_option linter.unusedSimpArgs false
namespace Go.Proofs.YtpfenoioeajkmaaDoor.X
open Go.RowKit Go.Proofs.YtpfenoioeajkmaaDoorW.PrintWords Go.Proofs.YtpfenoioeajkmaaDoorW.PrintLast Go.Proofs.YtpfenoioeajkmaaDoorW.PrintMore Go.Proofs.YtpfenoioeajkmaaDoor.L
set_option maxHeartbeats 2000000 in
set_option maxRecDepth 100000 in
theorem compare_grown (a b c d : Int) (w : World) : Calls Tryd.prog 67 #[ptV a b, ptV c d] w fun e w' => e = .returned (.int .i64 (cmpP a b c d)) ∧ ∃ q os', w' = Go.Sort.grow (w.drewN q) os' := by
  unfold ptV
  go_enter Tryd.func67, Tryd.ntmps67
  go_wp2_with fail
  have h0 : ((w.alloc (.cells #[.int .i64 a, .int .i64 b] 63)).alloc (.cells #[.int .i64 c, .int .i64 d] 63)).drew.cell? ⟨w.heap.size, 0, none⟩ = some (.int .i64 a) := by simp
  have h1 : ((w.alloc (.cells #[.int .i64 a, .int .i64 b] 63)).alloc (.cells #[.int .i64 c, .int .i64 d] 63)).drew.cell? ⟨w.heap.size, 1, none⟩ = some (.int .i64 b) := by simp
  have h2 : ((w.alloc (.cells #[.int .i64 a, .int .i64 b] 63)).alloc (.cells #[.int .i64 c, .int .i64 d] 63)).drew.cell? ⟨w.heap.size + 1, 0, none⟩ = some (.int .i64 c) := by simp
  have h3 : ((w.alloc (.cells #[.int .i64 a, .int .i64 b] 63)).alloc (.cells #[.int .i64 c, .int .i64 d] 63)).drew.cell? ⟨w.heap.size + 1, 1, none⟩ = some (.int .i64 d) := by simp
  have HB := Lib.hid ((below_one (w := w) (.cells #[.int .i64 a, .int .i64 b] 63)).alloc (by simp) (.cells #[.int .i64 c, .int .i64 d] 63)).drew
  have HC0 := Lib.hid (pair_C _ _ a b h0 h1)
  have HC1 := Lib.hid (pair_C _ _ c d h2 h3)
  clear h0 h1 h2 h3
  refine start_ (n := 4) (S := fun w' => True) (ds := []) #[false, false, false, false] (by kernel_rfl) rfl rfl trivial (fun hHeld => ?_)
  refine pure_ (i := 0) (N := (some 5)) (v := ?_) (a' := ?_) #[true, false, false, false] rfl rfl (by kernel_rfl) (fun _ _ _ h => h) (Or.inl ⟨by rfl, ?_⟩) ?_ ?_
  rotate_left
  · intro w'; go_simp; first | done | with_reducible rfl
  rotate_left
  · simp only [Act.put, List.setIfInBounds_toArray, List.set_cons_zero, List.set_cons_succ, i64_w, i32_w]; rfl
  refine pure_ (i := 1) (N := (some 6)) (v := ?_) (a' := ?_) #[true, true, false, false] rfl rfl (by kernel_rfl) (fun _ _ _ h => h) (Or.inl ⟨by rfl, ?_⟩) ?_ ?_
  rotate_left
  · intro w'; go_simp; first | done | with_reducible rfl
  rotate_left
  · simp only [Act.put, List.setIfInBounds_toArray, List.set_cons_zero, List.set_cons_succ, i64_w, i32_w]; rfl
  refine one_ (i := 2) (N := (some 7)) #[true, true, true, false] rfl rfl (by kernel_rfl) (by decide) (fun K hK => ?_)
  refine goes_ Tryd.func78 (by kernel_rfl) rfl #[.slice (some ⟨w.heap.size, 0, none⟩) 2 2, .slice (some ⟨w.heap.size + 1, 0, none⟩) 2 2] (by rfl) rfl rfl (by (try simp only [List.map_toArray, List.map_cons, List.map_nil]); first | done | rfl) ?_
  refine (PC.slices_Compare_int_int.calls 3 _ 2 [a, b] _ 2 [c, d] _ _ HC0.out (Nat.le_refl 2) HC1.out (Nat.le_refl 2) (compare_f a b c d)).mono ?_
  rintro e w2 ⟨rfl, nd, rfl⟩
  refine ⟨_, rfl, ?_⟩
  refine hK.out _ _ trivial (fun hHeld => ?_)
  clear hK K
  refine norm_ (a' := ?_) ?_ ?_
  rotate_left
  · show Act.put _ (some 7) _ = _; simp only [Act.put, List.setIfInBounds_toArray, List.set_cons_zero, List.set_cons_succ, i64_w, i32_w]; rfl
  refine pure_ (i := 3) (N := (some 4)) (v := ?_) (a' := ?_) #[true, true, true, true] rfl rfl (by kernel_rfl) (fun _ _ _ h => h) (Or.inl ⟨by rfl, ?_⟩) ?_ ?_
  rotate_left
  · intro w'; go_simp; first | done | with_reducible rfl
  rotate_left
  · simp only [Act.put, List.setIfInBounds_toArray, List.set_cons_zero, List.set_cons_succ, i64_w, i32_w]; rfl
  refine done_ (by kernel_rfl) ?_
  go_wp2
  go_ret
  refine ⟨rfl, 1 + nd, #[.cells #[.int .i64 a, .int .i64 b] 63, .cells #[.int .i64 c, .int .i64 d] 63], ?_⟩
  unfold Go.Sort.grow World.drewN World.drew World.alloc
  simp only [World.mk.injEq, Nat.add_assoc, and_true, true_and]
  apply Array.ext'
  simp
theorem cmpLays (blk off size : Nat) (w : World) : CmpLays Tryd.prog 67 #[] encP 2 (fun p q : Int × Int => cmpP p.1 p.2 q.1 q.2) blk off size w :=
  fun _ _ _ _ x y => compare_grown x.1 x.2 y.1 y.2 _
def ltP (p q : Int × Int) : Bool := decide (p.1 < q.1 ∨ (p.1 = q.1 ∧ p.2 < q.2))
theorem ltOf_P (p q : Int × Int) : ltOf (fun p q : Int × Int => cmpP p.1 p.2 q.1 q.2) p q = ltP p q := by
  unfold ltOf ltP
  have := cmpP_iff p.1 p.2 q.1 q.2
  by_cases h : p.1 < q.1 ∨ (p.1 = q.1 ∧ p.2 < q.2)
  · rw [decide_eq_true h, decide_eq_true (this.2 h)]
  · rw [decide_eq_false h, decide_eq_false (fun c => h (this.1 c))]
theorem swoP : Go.Sort.SWO (ltOf fun p q : Int × Int => cmpP p.1 p.2 q.1 q.2) where
  irrefl x := by rw [ltOf_P]; unfold ltP; simp
  trans x y z h1 h2 := by rw [ltOf_P] at *; unfold ltP at *; simp only [decide_eq_true_eq] at *; omega
  ntrans x y z h1 h2 := by rw [ltOf_P] at *; unfold ltP at *; simp only [decide_eq_false_iff_not] at *; omega
end Go.Proofs.YtpfenoioeajkmaaDoor.X
end

section
set_option linter.unusedVariables false
set_option linter.unusedSimpArgs false
namespace Go.Proofs.YtpfenoioeajkmaaDoor.X
open Go.RowKit Go.Proofs.YtpfenoioeajkmaaDoorW.PrintWords Go.Proofs.YtpfenoioeajkmaaDoorW.PrintLast Go.Proofs.YtpfenoioeajkmaaDoorW.PrintMore Go.Proofs.YtpfenoioeajkmaaDoor.L
theorem flatP_len : ∀ l : List (Int × Int), (flatP l).length = l.length * 2
  | [] => rfl
  | p :: l => by rw [flatP, List.length_append, flatP_len l]; simp; omega
theorem flatP_get : ∀ (l : List (Int × Int)) (t : Nat), t < l.length * 2 → (flatP l)[t]? = some (encP (l.getD (t / 2) (0, 0)))[t % 2]!
  | [], t, h => by simp at h
  | p :: l, 0, h => rfl
  | p :: l, 1, h => rfl
  | p :: l, t + 2, h => by
    have ih := flatP_get l t (by simp at h; omega)
    show ([.int .i64 p.1, .int .i64 p.2] ++ flatP l)[t + 2]? = _
    rw [List.getElem?_append_right (by simp)]
    show (flatP l)[t + 2 - 2]? = _
    rw [Nat.add_sub_cancel, ih, show (t + 2) / 2 = t / 2 + 1 by omega, show (t + 2) % 2 = t % 2 by omega]
    rfl
theorem flatK_P (d : Array (Int × Int)) : (Go.Sort.flatK encP 2 d).toList = flatP d.toList := by
  apply List.ext_getElem?
  intro t
  by_cases h : t < d.size * 2
  · have h1 : t < (Go.Sort.flatK encP 2 d).size := by rw [Go.Sort.size_flatK]; exact h
    rw [flatP_get d.toList t (by simpa using h)]
    have := Go.Sort.get_flatK encP 2 d t h
    rw [getElem!_pos _ t h1] at this
    rw [Array.getElem?_toList, Array.getElem?_eq_getElem h1, this]
    have h2 : t / 2 < d.size := by omega
    rw [getElem!_pos d (t / 2) h2]
    simp [h2]
  · rw [List.getElem?_eq_none (by simp; omega), List.getElem?_eq_none (by rw [flatP_len]; simp; omega)]
theorem sort_pts {C : Nat} {w : World} {v : Value} {l : List (Int × Int)} (h : OwnP C 63 w v l) (h0 : 0 < l.length) (hl : l.length < 4611686018427387904) :
    Calls Tryd.prog 81 #[v, .func (.func 67) #[] #[]] w fun e w' => e = .returned (.tuple #[]) ∧ ∃ l', l'.Perm l ∧ l'.Pairwise (fun p q => ltP q p = false) ∧ OwnP C 63 w' v l' ∧ w.grownBy w' v.ownBlock := by
  unfold OwnP at h
  obtain ⟨g, cap, cur, rfl, hC, hb, hn, hm, hs, ht⟩ := own_block h h0
  have hflat : (Go.Sort.flatK encP 2 l.toArray).toList = flatP l := flatK_P _
  have hH : Go.Sort.HoldsK encP 2 w g 0 l.toArray := fun j hj => by
    have hj2 : j < l.length * 2 := by simpa using hj
    rw [Nat.zero_add]
    refine ⟨?_, blk_frozen hb j⟩
    have e : (cur.toList.take (l.length * 2))[j]? = (Go.Sort.flatK encP 2 l.toArray).toList[j]? := by rw [ht, hflat]
    rw [List.getElem?_take, if_pos hj2, Array.getElem?_toList, Array.getElem?_toList, Array.getElem?_eq_getElem hj] at e
    rw [getElem!_pos _ j hj]
    unfold World.cell?
    simp only [hb]
    simpa using e
  have eg : ∀ args w, (callFunc 67 args).run Tryd.prog w = .ok (.enter 67 args) w := enters_of Tryd.func67 (by kernel_rfl) rfl
  have hcon := AnyQ.slices_SortFunc Tryd.sortPts 2 Tryd.isAgg63 Tryd.sizeOf63 encP (fun _ => rfl) (fun x v hv => by simp [encP] at hv; rcases hv with rfl | rfl <;> rfl) (fun p q : Int × Int => cmpP p.1 p.2 q.1 q.2) swoP 67 #[] g 0 cap l.toArray w eg (cmpLays g 0 _ w) hH (Array.getElem?_eq_some_iff.1 hb).1 (by simpa using hl)
  change Calls Tryd.prog 81 _ _ _ at hcon
  have hz : l.toArray.size = l.length := by simp
  rw [hz] at hcon
  refine hcon.mono ?_
  rintro e w' ⟨rfl, d', m, os, hp, hsrt, rfl⟩
  obtain ⟨p1, -, p3⟩ := hp
  rw [hz] at p1
  have hp3 : d'.toList.Perm l := by
    rw [← p1] at p3
    rw [Array.extract_size] at p3
    rw [p1, ← hz, Array.extract_size] at p3
    exact p3
  have hk : (Go.Sort.flatK encP 2 d').size = l.length * 2 := by rw [Go.Sort.size_flatK, p1]
  obtain ⟨⟨cur', c1, c2, c3⟩, hg⟩ := put_heap id w m g (Go.Sort.flatK encP 2 d') os hb (by rw [hk, hs]; exact Nat.mul_le_mul_right 2 hn)
  have hlen : d'.toList.length = l.length := by simpa using p1
  refine ⟨rfl, d'.toList, hp3, ?_, ⟨by rw [flatP_len], .inr ⟨g, cap, cur', by rw [hlen], hC, c1, by omega, hm, by rw [c2, hs], ?_⟩⟩, hg⟩
  · rw [List.pairwise_iff_getElem]
    intro i j hi hj hij
    have := hsrt i j (Nat.zero_le _) hij (by simpa [p1] using hj)
    rw [ltOf_P] at this
    rw [getElem!_pos d' j (by simpa using hj), getElem!_pos d' i (by simpa using hi)] at this
    simpa using this
  · rw [hk] at c3
    rw [hlen, c3, List.map_id, flatK_P]
end Go.Proofs.YtpfenoioeajkmaaDoor.X
end

section
set_option linter.unusedVariables false
set_option linter.unusedSimpArgs false
namespace Go.Proofs.YtpfenoioeajkmaaDoor.X
open Go.RowKit Go.Proofs.YtpfenoioeajkmaaDoorW.PrintWords Go.Proofs.YtpfenoioeajkmaaDoorW.PrintLast Go.Proofs.YtpfenoioeajkmaaDoorW.PrintMore Go.Proofs.YtpfenoioeajkmaaDoor.L
def spanTo (y a : Int) : Nat → List (Int × Int)
  | 0 => []
  | m + 1 => spanTo y a m ++ [(a + m, y)]
def rowTo (y : Int) (l : List Int) : Nat → List (Int × Int)
  | 0 => []
  | j + 1 => rowTo y l j ++ spanTo y (l.getD (2 * j) 0) (l.getD (2 * j + 1) 0 - l.getD (2 * j) 0).toNat
def srt (l : List Int) : List Int := l.mergeSort fun x y => decide (x ≤ y)
def rowAll (f : Int → List Int) (y : Int) : List (Int × Int) := rowTo y (srt (f y)) ((f y).length / 2)
def outOf (f : Int → List Int) (vis : List Int) : List (Int × Int) := vis.flatMap (rowAll f)
theorem outOf_snoc (f : Int → List Int) (vis : List Int) (y : Int) : outOf f (vis ++ [y]) = outOf f vis ++ rowAll f y := by
  unfold outOf
  rw [List.flatMap_append]
  simp
theorem srt_len (l : List Int) : (srt l).length = l.length := by unfold srt; exact List.length_mergeSort _
theorem srt_mem (l : List Int) (x : Int) : x ∈ srt l ↔ x ∈ l := by unfold srt; exact (List.mergeSort_perm _ _).mem_iff
theorem spanTo_len (y a : Int) : ∀ m, (spanTo y a m).length = m
  | 0 => rfl
  | m + 1 => by rw [spanTo, List.length_append, spanTo_len y a m]; rfl
theorem rowTo_len {y : Int} {l : List Int} (hl : ∀ x ∈ l, -24 ≤ x ∧ x ≤ 24) : ∀ j, 2 * j ≤ l.length → (rowTo y l j).length ≤ j * 48
  | 0, _ => by simp [rowTo]
  | j + 1, h => by
    have ih := rowTo_len hl (y := y) j (by omega)
    have a := hl (l.getD (2 * j) 0) (by rw [List.getD_eq_getElem?_getD, List.getElem?_eq_getElem (by omega)]; exact List.getElem_mem _)
    have b := hl (l.getD (2 * j + 1) 0) (by rw [List.getD_eq_getElem?_getD, List.getElem?_eq_getElem (by omega)]; exact List.getElem_mem _)
    rw [rowTo, List.length_append, spanTo_len]
    omega
theorem rowAll_len {f : Int → List Int} {y : Int} {n : Nat} (hl : ∀ x ∈ f y, -24 ≤ x ∧ x ≤ 24) (hn : (f y).length ≤ n) : (rowAll f y).length ≤ n * 48 := by
  unfold rowAll
  have := rowTo_len (y := y) (l := srt (f y)) (fun x hx => hl x ((srt_mem _ _).1 hx)) ((f y).length / 2) (by rw [srt_len]; omega)
  omega
theorem outOf_len {f : Int → List Int} {n : Nat} (hl : ∀ y, ∀ x ∈ f y, -24 ≤ x ∧ x ≤ 24) (hn : ∀ y, (f y).length ≤ n) : ∀ vis : List Int, (outOf f vis).length ≤ vis.length * (n * 48)
  | [] => by simp [outOf]
  | y :: vis => by
    have ih := outOf_len hl hn vis
    have := rowAll_len (hl y) (hn y)
    show (rowAll f y ++ outOf f vis).length ≤ (vis.length + 1) * (n * 48)
    rw [List.length_append, Nat.add_mul]
    omega
theorem ranges_le {w : World} {P : Program} {k : TypeId} {R : Value → Option (DataW Value × List MemPlace)} {b r n : Nat} {D : DataW Value} {left : Lit → Bool} {cnt : Nat} (h : w.ranges P k R b r n D left cnt) : cnt ≤ n := by
  obtain ⟨es, clock, since, seen, c0, h1, h2, h3, h4, h5, h6, h7, -⟩ := h
  rw [← h7]
  unfold leftOf
  exact Nat.le_trans (Array.size_filter_le ..) h3
structure RgS (w : World) (C2 : Nat) (f : Int → List Int) (D : DataW Value) (val : Int → Value) (n rB : Nat) (vis : List Int) (left : Lit → Bool) (cnt : Nat) (v : Value) (wr : World) : Prop where
  rg : wr.ranges Tryd.prog 3 RV w.heap.size rB n D left cnt
  lf : ∀ y, left (.int .i64 y) = (Maps.has D (.int .i64 y) && !vis.contains y)
  ne : ∀ y ∈ vis, f y ≠ []
  nd : vis.Nodup
  cv : vis.length + cnt ≤ n
  row : ∀ y, y ∉ vis → wr.ownsRow (w.heap.size + 3) 3 1 (val y) (f y).length ((f y).map (Value.int .i64))
  lo : ∀ y g, (val y).ownBlock = some g → w.heap.size + 3 ≤ g ∧ g < C2
  out : OwnP (C2 + 1) 63 wr v (outOf f vis)
  bl : Below w.heap.size w wr
  hi : C2 + 1 ≤ wr.heap.size
theorem RgS.start {w wa w0 : World} {f : Int → List Int} {n : Nat} {D : DataW Value} {val : Int → Value} (h : WallS w.heap.size (w.heap.size + 3) f n D val wa) (hb : Below w.heap.size w wa) (hi : w.heap.size + 3 ≤ wa.heap.size)
    (hrg : w0.ranges Tryd.prog 3 RV w.heap.size wa.heap.size n D (Maps.has D) (Maps.size D)) (hg : wa.grownBy w0 none) (hs : w0.heap.size = wa.heap.size + 1) :
    RgS w wa.heap.size f D val n wa.heap.size [] (Maps.has D) (Maps.size D) (.slice none 0 0) w0 where
  rg := hrg
  lf y := by simp
  ne y hy := by cases hy
  nd := List.nodup_nil
  cv := by have := ranges_le hrg; simpa using this
  row y _ := (h.row y).kept hg (Classical.em _)
  lo y g hg2 := own_low (h.row y) g hg2
  out := World.ownsRow_nil _ _ _ _
  bl := hb.grown hg hb.size (fun j hj => by cases hj)
  hi := by omega
end Go.Proofs.YtpfenoioeajkmaaDoor.X
end

section
set_option linter.unusedVariables false
set_option linter.unusedSimpArgs false
namespace Go.Proofs.YtpfenoioeajkmaaDoor.X
open Go.RowKit Go.Proofs.YtpfenoioeajkmaaDoorW.PrintWords Go.Proofs.YtpfenoioeajkmaaDoorW.PrintLast Go.Proofs.YtpfenoioeajkmaaDoorW.PrintMore Go.Proofs.YtpfenoioeajkmaaDoor.L
theorem same_int (x z : Int) : Lit.sameKey (.int .i64 z) (.int .i64 x) = decide (z = x) := by
  by_cases h : z = x
  · subst h
    simp [Lit.sameKey]
  · rw [Maps.sameKey_ne (fun q => by injection q with _ q; exact h q)]
    simp [h]
theorem wallTo_in {s : ByteArray} (h : s.size ≤ 24) (y : Int) : ∀ k, k ≤ s.size → ∀ x ∈ wallTo s y k, -24 ≤ x ∧ x ≤ 24
  | 0, _, x, hx => by simp [wallTo] at hx
  | k + 1, hk, x, hx => by
    rw [wallTo, List.mem_append] at hx
    rcases hx with hx | hx
    · exact wallTo_in h y k (by omega) x hx
    · split at hx
      · have e : x = sumx s k := by simpa using hx
        have := sumx_le s k
        omega
      · cases hx
structure RowS (w : World) (C2 : Nat) (f : Int → List Int) (D : DataW Value) (val : Int → Value) (n : Nat) (vis : List Int) (y : Int) (left : Lit → Bool) (cnt : Nat) (out : List (Int × Int)) (v : Value) (wr : World) : Prop where
  rg : wr.ranges Tryd.prog 3 RV w.heap.size C2 n D left cnt
  lf : ∀ z, left (.int .i64 z) = (Maps.has D (.int .i64 z) && !(vis ++ [y]).contains z)
  ne : ∀ z ∈ vis ++ [y], f z ≠ []
  nd : (vis ++ [y]).Nodup
  cv : vis.length + 1 + cnt ≤ n
  row : ∀ z, z ∉ vis ++ [y] → wr.ownsRow (w.heap.size + 3) 3 1 (val z) (f z).length ((f z).map (Value.int .i64))
  cur : wr.ownsRow (w.heap.size + 3) 3 1 (val y) (f y).length ((srt (f y)).map (Value.int .i64))
  lo : ∀ y g, (val y).ownBlock = some g → w.heap.size + 3 ≤ g ∧ g < C2
  off : ∀ y z, y ≠ z → (val y).ownBlock = (val z).ownBlock → (val y).ownBlock = none
  out : OwnP (C2 + 1) 63 wr v out
  bl : Below w.heap.size w wr
  hi : C2 + 1 ≤ wr.heap.size
  mid : w.heap.size + 3 ≤ C2
structure ComeS (w : World) (C2 : Nat) (f : Int → List Int) (D : DataW Value) (val : Int → Value) (n : Nat) (vis : List Int) (y : Int) (left : Lit → Bool) (cnt : Nat) (out : List (Int × Int)) (v : Value) (wr : World) : Prop where
  rg : wr.ranges Tryd.prog 3 RV w.heap.size C2 n D left cnt
  lf : ∀ z, left (.int .i64 z) = (Maps.has D (.int .i64 z) && !(vis ++ [y]).contains z)
  ne : ∀ z ∈ vis ++ [y], f z ≠ []
  nd : (vis ++ [y]).Nodup
  cv : vis.length + 1 + cnt ≤ n
  row : ∀ z, z ∉ vis → wr.ownsRow (w.heap.size + 3) 3 1 (val z) (f z).length ((f z).map (Value.int .i64))
  lo : ∀ y g, (val y).ownBlock = some g → w.heap.size + 3 ≤ g ∧ g < C2
  off : ∀ y z, y ≠ z → (val y).ownBlock = (val z).ownBlock → (val y).ownBlock = none
  out : OwnP (C2 + 1) 63 wr v out
  bl : Below w.heap.size w wr
  hi : C2 + 1 ≤ wr.heap.size
  mid : w.heap.size + 3 ≤ C2
theorem RgS.come {w wr w1 : World} {C2 n cnt cnt1 : Nat} {f : Int → List Int} {D : DataW Value} {val : Int → Value} {vis : List Int} {left : Lit → Bool} {v : Value} (h : RgS w C2 f D val n C2 vis left cnt v wr)
    (hs : ∀ z, Maps.has D (.int .i64 z) = true → f z ≠ []) (hoff : ∀ y z, y ≠ z → (val y).ownBlock = (val z).ownBlock → (val y).ownBlock = none) (hmid : w.heap.size + 3 ≤ C2) {y : Int} (hl : left (.int .i64 y) = true)
    (hrg : w1.ranges Tryd.prog 3 RV w.heap.size C2 n D (fun z => left z && !z.sameKey (.int .i64 y)) cnt1) (hlt : cnt1 < cnt) (hg : wr.grownBy w1 (some C2)) (hsz : w1.heap.size = wr.heap.size) :
    ComeS w C2 f D val n vis y (fun z => left z && !z.sameKey (.int .i64 y)) cnt1 (outOf f vis) v w1 := by
  have e := h.lf y
  rw [hl] at e
  have e1 : Maps.has D (.int .i64 y) = true := by
    cases q : Maps.has D (.int .i64 y) with
    | true => rfl
    | false => rw [q] at e; simp at e
  have e2 : y ∉ vis := by
    rw [e1] at e
    simpa using e
  refine ⟨hrg, fun z => ?_, fun z hz => ?_, ?_, by have := h.cv; omega, fun z hz => (h.row z hz).kept hg (.inr fun q => by have := (h.lo z C2 q).2; omega), h.lo, hoff, ?_, ?_, by rw [hsz]; exact h.hi, hmid⟩
  · show (left (.int .i64 z) && !(Lit.sameKey (.int .i64 z) (.int .i64 y))) = _
    rw [h.lf z, same_int]
    cases Maps.has D (.int .i64 z) <;> simp [Bool.not_or]
  · rcases List.mem_append.1 hz with hz | hz
    · exact h.ne z hz
    · have : z = y := by simpa using hz
      rw [this]
      exact hs y e1
  · rw [List.nodup_append]
    exact ⟨h.nd, by simp, fun a ha b hb => by
      have : b = y := by simpa using hb
      subst this
      exact fun q => e2 (q ▸ ha)⟩
  · have o := h.out
    unfold OwnP at o ⊢
    exact o.kept hg (.inr fun q => by have := (own_low o _ q).1; omega)
  · exact h.bl.grown hg h.bl.size (fun c hc => by injection hc with hc; omega)
theorem ComeS.sorted {w w1 w2 : World} {C2 n cnt : Nat} {f : Int → List Int} {D : DataW Value} {val : Int → Value} {vis : List Int} {y : Int} {left : Lit → Bool} {out : List (Int × Int)} {v : Value} (h : ComeS w C2 f D val n vis y left cnt out v w1)
    (hr : w2.ownsRow (w.heap.size + 3) 3 1 (val y) (f y).length ((srt (f y)).map (Value.int .i64))) (hg : w1.grownBy w2 (val y).ownBlock) : RowS w C2 f D val n vis y left cnt out v w2 := by
  have low := h.lo y
  refine ⟨h.rg.kept hg (fun q => by have := (low _ q.symm).1; omega) (fun q => by have := (low _ q.symm).2; omega), h.lf, h.ne, h.nd, h.cv, fun z hz => ?_, hr, h.lo, h.off, ?_, ?_, Nat.le_trans h.hi hg.size, h.mid⟩
  · have hzv : z ∉ vis := fun q => hz (List.mem_append.2 (.inl q))
    have hzy : z ≠ y := fun q => hz (List.mem_append.2 (.inr (by simp [q])))
    refine (h.row z hzv).kept hg ?_
    by_cases q : (val z).ownBlock = (val y).ownBlock
    · exact .inl (h.off z y hzy q)
    · exact .inr q
  · have o := h.out
    unfold OwnP at o ⊢
    refine o.kept hg ?_
    by_cases q : v.ownBlock = none
    · exact .inl q
    · refine .inr fun q2 => ?_
      cases q3 : v.ownBlock with
      | none => exact q q3
      | some c =>
        have a := (own_low o c q3).1
        have b := (low c (q2 ▸ q3)).2
        omega
  · exact h.bl.grown hg h.bl.size (fun c hc => by have := (low c hc).1; omega)
theorem RowS.later {w wr w2 : World} {C2 n cnt : Nat} {f : Int → List Int} {D : DataW Value} {val : Int → Value} {vis : List Int} {y : Int} {left : Lit → Bool} {out : List (Int × Int)} {v : Value} (h : RowS w C2 f D val n vis y left cnt out v wr) (hb : Below wr.heap.size wr w2) : RowS w C2 f D val n vis y left cnt out v w2 :=
  ⟨h.rg.kept (grown_of_below hb) (by simp) (by simp), h.lf, h.ne, h.nd, h.cv, fun z hz => pw_own_below (h.row z hz) hb, pw_own_below h.cur hb, h.lo, h.off, pw_own_below h.out hb, h.bl.trans (hb.mono h.bl.size), Nat.le_trans h.hi hb.size, h.mid⟩
theorem RowS.put {w wr w2 : World} {C2 n cnt : Nat} {f : Int → List Int} {D : DataW Value} {val : Int → Value} {vis : List Int} {y : Int} {left : Lit → Bool} {out : List (Int × Int)} {v v' : Value} {p : Int × Int} (h : RowS w C2 f D val n vis y left cnt out v wr)
    (ho : w2.ownsRow (C2 + 1) 63 2 v' (out.length + 1) (flatP out ++ [.int .i64 p.1, .int .i64 p.2])) (hg : wr.grownBy w2 v.ownBlock) : RowS w C2 f D val n vis y left cnt (out ++ [p]) v' w2 := by
  have o := h.out
  unfold OwnP at o
  have low := own_low o
  have far : ∀ z, (val z).ownBlock = none ∨ (val z).ownBlock ≠ v.ownBlock := fun z => by
    by_cases q : (val z).ownBlock = none
    · exact .inl q
    · refine .inr fun q2 => ?_
      cases q3 : (val z).ownBlock with
      | none => exact q q3
      | some c =>
        have a := (low c (q2 ▸ q3)).1
        have b := (h.lo z c q3).2
        omega
  refine ⟨h.rg.kept hg (fun q => by have a := (low _ q.symm).1; have b := h.mid; omega) (fun q => by have := (low _ q.symm).1; omega), h.lf, h.ne, h.nd, h.cv, fun z hz => (h.row z hz).kept hg (far z), h.cur.kept hg (far y), h.lo, h.off, ?_, h.bl.grown hg h.bl.size (fun c hc => by have a := (low c hc).1; have b := h.mid; omega), Nat.le_trans h.hi hg.size, h.mid⟩
  unfold OwnP
  rw [List.length_append, flatP_app]
  exact ho
theorem RowS.done {w wr : World} {C2 n cnt : Nat} {f : Int → List Int} {D : DataW Value} {val : Int → Value} {vis : List Int} {y : Int} {left : Lit → Bool} {v : Value} (h : RowS w C2 f D val n vis y left cnt (outOf f vis ++ rowAll f y) v wr) : RgS w C2 f D val n C2 (vis ++ [y]) left cnt v wr :=
  ⟨h.rg, h.lf, h.ne, h.nd, by rw [List.length_append]; exact h.cv, h.row, h.lo, by rw [outOf_snoc]; exact h.out, h.bl, h.hi⟩
theorem row_at {w : World} {C g cap : Nat} {l : List Int} (h : w.ownsRow C 3 1 (.slice (some ⟨g, 0, none⟩) l.length cap) l.length (l.map (Value.int .i64))) {i : Nat} (hi : i < l.length) : w.cell? ⟨g, i, none⟩ = some (.int .i64 (l.getD i 0)) := by
  obtain ⟨g', cap', cur, e, hC, hb, hn, hm, hs, ht⟩ := own_block h (by omega)
  injection e with e1 e2 e3
  injection e1 with e1
  injection e1 with e1
  subst e1
  rw [Nat.mul_one] at hs ht
  have e : (cur.toList.take l.length)[i]? = some (.int .i64 (l.getD i 0)) := by
    rw [ht, List.getD_eq_getElem?_getD]
    simp [hi]
  rw [List.getElem?_take, if_pos hi] at e
  unfold World.cell?
  simp only [hb]
  simpa using e
end Go.Proofs.YtpfenoioeajkmaaDoor.X
end

section
set_option linter.unusedVariables false
set_option linter.unusedSimpArgs false
namespace Go.Proofs.YtpfenoioeajkmaaDoor.X
open Go.RowKit Go.Proofs.YtpfenoioeajkmaaDoorW.PrintWords Go.Proofs.YtpfenoioeajkmaaDoorW.PrintLast Go.Proofs.YtpfenoioeajkmaaDoorW.PrintMore Go.Proofs.YtpfenoioeajkmaaDoor.L
section
variable {ops : Array Oper} {rest : List Oper} {o : Oper} {a : Act} {Q : Exit → Act → World → Prop}
set_option maxRecDepth 20000 in
theorem wpList_next_rows {w wr : World} {C2 n cnt : Nat} {f : Int → List Int} {D : DataW Value} {val : Int → Value} {vis : List Int} {left : Lit → Bool} {v : Value} (hg : o.guard = none) (it : Operand) (hop : o.op = Op.next it false) (h : RgS w C2 f D val n C2 vis left cnt v wr)
    (hs : ∀ z, Maps.has D (.int .i64 z) = true → f z ≠ []) (hoff : ∀ y z, y ≠ z → (val y).ownBlock = (val z).ownBlock → (val y).ownBlock = none) (hmid : w.heap.size + 3 ≤ C2) (hat : ∀ y, D.atKey (.int .i64 y) nilS = .held (val y))
    (hit : a.eval it = .pointer (some ⟨C2, 0, none⟩)) (hDone : (∀ kl, left kl = false) → wpList Tryd.prog ops Q rest (a.put o.dst (.tuple #[.bool false])) wr)
    (hMore : ∀ (x : Int) (w1 : World) (left1 : Lit → Bool) (cnt1 : Nat), cnt1 < cnt → -9223372036854775808 ≤ x ∧ x ≤ 9223372036854775807 → ComeS w C2 f D val n vis x left1 cnt1 (outOf f vis) v w1 → (Instr.entry (.pointer (some ⟨C2, 0, none⟩))).run Tryd.prog w1 = .ok (.tuple #[.int .i64 x, val x]) w1 →
      wpList Tryd.prog ops Q rest (a.put o.dst (.tuple #[.bool true, .int .i64 x, val x])) w1) : wpList Tryd.prog ops Q (o :: rest) a wr := by
  refine wpList_next_ranges (P := Tryd.prog) wr hg it hop 3 law3 RV (Value.int .i64) (fun v : Value => v) (fun key kl h => let ⟨x, e, _⟩ := Maps.keyOf_int_inv Tryd.underlying3 h; ⟨x, e⟩) (fun v y _ => ⟨v, rfl⟩) w.heap.size C2 n D left cnt hit h.rg (fun _ => hDone) ?_
  intro x c kl y w1 cnt1 hkey hlk hR hat2 hrg1 hlt hg1 hs1 hen
  obtain ⟨x', e1, e2, e3⟩ := Maps.keyOf_int_inv Tryd.underlying3 hkey
  injection e1 with _ e1
  subst e1
  subst e2
  have e4 := (hat2 nilS).symm.trans (hat x)
  unfold RV at hR
  injection hR with hR
  rw [← hR] at e4
  injection e4 with e4
  have e4 : c = val x := e4
  subst e4
  have hx : -9223372036854775808 ≤ x ∧ x ≤ 9223372036854775807 := by
    have e5 : (decide (IntKind.i64.min ≤ x) && decide (x ≤ IntKind.i64.max)) = true := e3
    rw [Bool.and_eq_true] at e5
    exact ⟨of_decide_eq_true e5.1, of_decide_eq_true e5.2⟩
  exact hMore x w1 _ cnt1 hlt hx (h.come hs hoff hmid hlk hrg1 hlt hg1 hs1) hen
end
theorem own_lower {B C : Nat} {e sz n : Nat} {w : World} {v : Value} {xs : List Value} (h : w.ownsRow C e sz v n xs) (hb : B ≤ C) : w.ownsRow B e sz v n xs := by
  obtain ⟨a, h | ⟨g, cap, cur, h1, h2, h3⟩⟩ := h
  · exact ⟨a, .inl h⟩
  · exact ⟨a, .inr ⟨g, cap, cur, h1, Nat.le_trans hb h2, h3⟩⟩
theorem RgS.all {w wr : World} {C2 n cnt : Nat} {f : Int → List Int} {D : DataW Value} {val : Int → Value} {vis : List Int} {left : Lit → Bool} {v : Value} (h : RgS w C2 f D val n C2 vis left cnt v wr) (hl : ∀ kl, left kl = false) (hat : ∀ y, D.atKey (.int .i64 y) nilS = .held (val y))
    (hrow : ∀ y, ∃ C w', World.ownsRow w' C 3 1 (val y) (f y).length ((f y).map (Value.int .i64))) (y : Int) : y ∈ vis ↔ f y ≠ [] := by
  refine ⟨h.ne y, fun hy => ?_⟩
  have e := h.lf y
  rw [hl] at e
  cases q : Maps.has D (.int .i64 y) with
  | true =>
    rw [q] at e
    simpa using e
  | false =>
    exfalso
    have e1 := hat y
    rw [Maps.atKey_of_not_has q] at e1
    injection e1 with e1
    obtain ⟨C, w', r⟩ := hrow y
    have h0 : 0 < (f y).length := List.length_pos_iff.2 hy
    obtain ⟨g, cap, cur, e2, -⟩ := own_block r h0
    rw [← e1] at e2
    injection e2 with e2
    cases e2
theorem outOf_small {f : Int → List Int} (hb : ∀ y, ∀ x ∈ f y, -24 ≤ x ∧ x ≤ 24) (hn : ∀ y, (f y).length ≤ 24) {vis : List Int} (hv : vis.length ≤ 24) (y : Int) {j : Nat} (hj : 2 * j ≤ (f y).length) : (outOf f vis ++ rowTo y (srt (f y)) j).length ≤ 28800 := by
  have a := outOf_len hb hn vis
  have b := rowTo_len (y := y) (l := srt (f y)) (fun x hx => hb y x ((srt_mem _ _).1 hx)) j (by rw [srt_len]; exact hj)
  have c := hn y
  rw [List.length_append]
  omega
theorem row_bnd {f : Int → List Int} (hb : ∀ y, ∀ x ∈ f y, -24 ≤ x ∧ x ≤ 24) (y : Int) {i : Nat} (hi : i < (f y).length) : -24 ≤ (srt (f y)).getD i 0 ∧ (srt (f y)).getD i 0 ≤ 24 := by
  rw [← srt_len] at hi
  refine hb y _ ((srt_mem _ _).1 ?_)
  rw [List.getD_eq_getElem?_getD, List.getElem?_eq_getElem hi]
  exact List.getElem_mem _
theorem RowS.at_ {w wr : World} {C2 n cnt : Nat} {f : Int → List Int} {D : DataW Value} {val : Int → Value} {vis : List Int} {y : Int} {left : Lit → Bool} {out : List (Int × Int)} {v : Value} (h : RowS w C2 f D val n vis y left cnt out v wr) {g L cap : Nat} (hv : val y = .slice (some ⟨g, 0, none⟩) L cap) (hL : (f y).length = L) {i : Nat} (hi : i < L) : wr.cell? ⟨g, i, none⟩ = some (.int .i64 ((srt (f y)).getD i 0)) := by
  have c := h.cur
  rw [hv] at c
  subst hL
  rw [← srt_len (f y)] at c hi
  exact row_at c hi
end Go.Proofs.YtpfenoioeajkmaaDoor.X
end

section
set_option linter.unusedVariables false
set_option linter.unusedSimpArgs false
namespace Go.Proofs.YtpfenoioeajkmaaDoor.X
open Go.RowKit Go.Proofs.YtpfenoioeajkmaaDoorW.PrintWords Go.Proofs.YtpfenoioeajkmaaDoorW.PrintLast Go.Proofs.YtpfenoioeajkmaaDoorW.PrintMore Go.Proofs.YtpfenoioeajkmaaDoor.L
theorem zero98 (w : World) : (zeroValue 98).run Tryd.prog w = .ok (.slice none 0 0) w := by kernel_rfl
theorem info3' : (Tryd.prog.info? 3).map (fun i => (i.zero, i.size, i.bytes)) = some (some (.int .i64 0), 1, 8) := by kernel_rfl
theorem St.start (w : World) (s : ByteArray) : St w s 0 0 0 (Lib.bytesWorld ((w.alloc (.map #[] 0)).alloc (.cells #[.int .i64 0, .int .i64 0] 63)) 5 s) := by
  have D := DblS.start (w.alloc (.map #[] 0)) s
  have e : (w.alloc (.map #[] 0)).heap.size = w.heap.size + 1 := by simp
  obtain ⟨h1, h2, h3⟩ := bytes_world ((w.alloc (.map #[] 0)).alloc (.cells #[.int .i64 0, .int .i64 0] 63)) s
  have hb : Below (w.alloc (.map #[] 0)).heap.size (w.alloc (.map #[] 0)) (Lib.bytesWorld ((w.alloc (.map #[] 0)).alloc (.cells #[.int .i64 0, .int .i64 0] 63)) 5 s) := D.bl
  refine ⟨⟨?_, ?_, ?_, ?_, ?_, ?_⟩, ⟨.map [], fun _ => .slice none 0 0, ⟨?_, fun y => rfl, fun y => World.ownsRow_nil _ _ _ _, fun y z _ _ => rfl, fun y h => by cases h⟩⟩, (below_one _).trans (hb.mono (by simp)), ?_⟩
  · rw [← e]; exact D.p0
  · rw [← e]; exact D.p1
  · rw [← e]; exact D.pf
  · rw [← e]; exact D.pg
  · rw [← e]; exact D.bs
  · rw [← e]; exact D.sz
  · exact (World.ownsMap_made w Tryd.prog 3 RV).kept (grown_of_below hb) (by simp)
  · have := D.sz; rw [e] at this; omega
set_option maxHeartbeats 16000000 in
set_option maxRecDepth 100000 in
theorem cells_calls (s : ByteArray) (hw : isW s = true) (hne : ∀ vis : List Int, vis.Nodup → (∀ y, y ∈ vis ↔ wallTo s y s.size ≠ []) → outOf (fun y => wallTo s y s.size) vis ≠ []) (w : World) :
    Calls Tryd.prog 73 #[.string s] w fun e w' => (∃ v, e = .returned v ∧ ∃ vis l, vis.Nodup ∧ (∀ y, y ∈ vis ↔ wallTo s y s.size ≠ []) ∧ l.Perm (outOf (fun y => wallTo s y s.size) vis) ∧ l.Pairwise (fun p q => ltP q p = false) ∧ OwnP w.heap.size 63 w' v l) ∧ Below w.heap.size w w' := by
  have HNE := Lib.hid hne
  clear hne
  have hs24 := isW_le hw
  have hcv := fun (w : World) => Lib.run_convert_string_bytes (P := Tryd.prog) w 9 78 5 s Tryd.underlying9 Tryd.underlying78 Tryd.underlying5
  have hmm := @run_makeMap Tryd.prog
  have HW := Lib.hid hw
  clear hw
  go_enter Tryd.func73, Tryd.ntmps73
  go_wp2_with fail
  have hst := St.start w s
  generalize Lib.bytesWorld ((w.alloc (.map #[] 0)).alloc (.cells #[.int .i64 0, .int .i64 0] 63)) 5 s = w1 at hst ⊢
  have HS : Hid (St w s 0 (sumx s 0) (sumy s 0) w1) := Lib.hid hst
  clear hst hcv hmm
  go_loopw [18] (fun i wr => ∃ k : Nat, k ≤ s.size ∧ i = .int .i64 k ∧ Hid (St w s k (sumx s k) (sumy s k) wr)) (fun i _ => s.size - (intOf i).toNat)
  case atStart => exact ⟨0, by omega, rfl, HS⟩
  case round =>
    clear HS
    obtain ⟨k, hk, rfl, HS⟩ := hrel
    by_cases hlt : k < s.size
    · skip
      have hb := HS.out.pt.bs k hlt
      have b1 := HS.out.pt.p0
      have b2 := HS.out.pt.p1
      go_wp2_with fail
      generalize hX : sumx s k = X at b1 ⊢
      generalize hY : sumy s k = Y at b2 ⊢
      refine start_ (n := 6) (S := fun w' => w'.cell? ⟨w.heap.size + 1, 0, none⟩ = some (.int .i64 X) ∧ w'.cell? ⟨w.heap.size + 1, 1, none⟩ = some (.int .i64 Y)) (ds := [5]) #[false, false, false, false, false, false] (by kernel_rfl) rfl rfl ⟨by simpa using b1, by simpa using b2⟩ (fun hHeld => ?_)
      refine take_ (i := 0) (N := (some 22)) (v := ?_) (a' := ?_) #[true, false, false, false, false, false] rfl rfl (by kernel_rfl) (fun _ _ _ h => h) (Or.inl ⟨by rfl, ?_⟩) hHeld ?_ ?_
      rotate_left
      · rintro w' ⟨s0, s1⟩; go_simp; first | done | with_reducible rfl
      rotate_left
      · simp only [Act.put, List.setIfInBounds_toArray, List.set_cons_zero, List.set_cons_succ, i64_w, i32_w]; rfl
      refine pure_ (i := 1) (N := (some 23)) (v := ?_) (a' := ?_) #[true, true, false, false, false, false] rfl rfl (by kernel_rfl) (fun _ _ _ h => h) (Or.inl ⟨by rfl, ?_⟩) ?_ ?_
      rotate_left
      · intro w'; go_simp; first | done | with_reducible rfl
      rotate_left
      · simp only [Act.put, List.setIfInBounds_toArray, List.set_cons_zero, List.set_cons_succ, i64_w, i32_w]; rfl
      refine two_ (i := 2) (j := 4) (Ni := (some 24)) (Nj := (some 7)) #[true, true, true, false, false, false] #[true, true, false, false, true, false] rfl rfl rfl rfl (by kernel_rfl) (by decide) (by decide) (fun K hK => ?_) (fun K hK => ?_)
      · skip
        refine goes_ Tryd.func69 (by kernel_rfl) rfl #[.int .u8 (bt s k)] (by rfl) rfl rfl (by (try simp only [List.map_toArray, List.map_cons, List.map_nil]); first | done | rfl) ?_
        refine (step_calls _ _).mono ?_
        rintro e w2 ⟨rfl, hb2⟩
        refine ⟨_, rfl, ?_⟩
        have HS2 := Lib.hid (HS.out.draw.later hb2)
        clear hb2
        refine hK.out _ _ ⟨hX ▸ HS2.out.pt.p0, hY ▸ HS2.out.pt.p1⟩ (fun hHeld => ?_)
        clear hK K
        refine norm_ (a' := ?_) ?_ ?_
        rotate_left
        · show Act.put _ (some 24) _ = _; simp only [Act.put, List.setIfInBounds_toArray, List.set_cons_zero, List.set_cons_succ, i64_w, i32_w]; rfl
        refine two_ (i := 3) (j := 4) (Ni := (some 25)) (Nj := (some 7)) #[true, true, true, true, false, false] #[true, true, true, false, true, false] rfl rfl rfl rfl (by kernel_rfl) (by decide) (by decide) (fun K hK => ?_) (fun K hK => ?_)
        · skip
          refine goes_ Tryd.func65 (by kernel_rfl) rfl #[ptV X Y, ptV (stepx (bt s k)) (stepy (bt s k))] (by rfl) rfl rfl (by (try simp only [List.map_toArray, List.map_cons, List.map_nil]); first | done | rfl) ?_
          refine (plus_calls _ _ _ _ _).mono ?_
          rintro e w3 ⟨rfl, hb2⟩
          refine ⟨_, rfl, ?_⟩
          have HS3 := Lib.hid (HS2.out.later hb2)
          clear hb2
          refine hK.out _ _ ⟨hX ▸ HS3.out.pt.p0, hY ▸ HS3.out.pt.p1⟩ (fun hHeld => ?_)
          clear hK K
          refine norm_ (a' := ?_) ?_ ?_
          rotate_left
          · show Act.put _ (some 25) _ = _; simp only [Act.put, List.setIfInBounds_toArray, List.set_cons_zero, List.set_cons_succ, i64_w, i32_w]; rfl
          refine one_ (i := 4) (N := (some 7)) #[true, true, true, true, true, false] rfl rfl (by kernel_rfl) (by decide) (fun K hK => ?_)
          refine alloc_step (cs := #[.int .i64 0, .int .i64 0]) (t := 63) (by rfl) rfl (by go_simp) ?_
          intro g hg w4 hbk hba
          have HQ4 := Lib.hid (StQ.start HS3.out hg hbk hba)
          clear hg hbk hba
          refine hK.out _ _ ⟨hX ▸ HQ4.out.pt.p0, hY ▸ HQ4.out.pt.p1⟩ (fun hHeld => ?_)
          clear hK K
          refine norm_ (a' := ?_) ?_ ?_
          rotate_left
          · show Act.put _ (some 7) _ = _; simp only [Act.put, List.setIfInBounds_toArray, List.set_cons_zero, List.set_cons_succ, i64_w, i32_w]; rfl
          have d0 := HQ4.out.q0
          have d1 := HQ4.out.q1
          have d2 := HQ4.out.qf
          have d3 := HQ4.out.qg
          refine last_ (i := 5) (N := none) #[true, true, true, true, true, true] rfl rfl (by kernel_rfl) (by decide) (fun K hK => ?_)
          refine skip_step (w1 := (w4.setCell ⟨g, 0, none⟩ (.int .i64 (wrap64 (X + stepx (bt s k))))).setCell ⟨g, 1, none⟩ (.int .i64 (wrap64 (Y + stepy (bt s k))))) (by rfl) (by unfold ptV; go_simp) ?_
          refine hK.out _ _ ?_
          clear hK K
          refine norm_ (a' := ?_) ?_ ?_
          rotate_left
          · show Act.put _ none _ = _; simp only [Act.put, List.setIfInBounds_toArray, List.set_cons_zero, List.set_cons_succ, i64_w, i32_w]; rfl
          refine done_ (by kernel_rfl) ?_
          clear d0 d1 d2 d3 hHeld
          have HQ5 := Lib.hid (HQ4.out.set1 (wrap64 (X + stepx (bt s k))) (wrap64 (Y + stepy (bt s k))))
          clear HQ4
          generalize (w4.setCell ⟨g, 0, none⟩ (.int .i64 (wrap64 (X + stepx (bt s k))))).setCell ⟨g, 1, none⟩ (.int .i64 (wrap64 (Y + stepy (bt s k)))) = w5 at HQ5 ⊢
          rw [← hX, ← hY, sumx_succ s k (by omega), sumy_succ s k (by omega)] at HQ5
          have HQ6 : Hid (StQ w s k X Y g (sumx s (k + 1)) (sumy s (k + 1)) w5) := by rw [← hX, ← hY]; exact HQ5
          have by1 := sumy_le s k
          have by2 := sumy_le s (k + 1)
          rw [hY] at by1
          obtain ⟨X2, hX2⟩ : ∃ X2, sumx s (k + 1) = X2 := ⟨_, rfl⟩
          obtain ⟨Y2, hY2⟩ : ∃ Y2, sumy s (k + 1) = Y2 := ⟨_, rfl⟩
          rw [hX2, hY2] at HQ6
          rw [hY2] at by2
          have HX := Lib.hid hX
          have HY := Lib.hid hY
          have HX2 := Lib.hid hX2
          have HY2 := Lib.hid hY2
          clear hX hY hX2 hY2 HQ5
          have e0 := HQ6.out.pt.p0
          have e1 := HQ6.out.pt.p1
          have e2 := HQ6.out.pt.pf
          have e3 := HQ6.out.pt.pg
          have f0 := HQ6.out.q0
          have f1 := HQ6.out.q1
          by_cases hv : Y = Y2
          · have bv : (Y != Y2) = false := by simp [hv]
            have HV := Lib.hid hv
            clear hv
            go_wp2_with fail
            refine ⟨⟨k + 1, by omega, by go_num, Lib.hid ?_⟩, by simp [intOf]; omega⟩
            rw [HX2.out, HY2.out]
            exact (HQ6.out.st.flat (by rw [HY.out, HY2.out, HV.out])).put _ _
          · have bv : (Y != Y2) = true := by simp [hv]
            have HV := Lib.hid hv
            obtain ⟨r, hr⟩ : ∃ r, min Y Y2 = r := ⟨_, rfl⟩
            have hr1 : -9223372036854775808 ≤ r ∧ r ≤ 9223372036854775807 := by omega
            have HR := Lib.hid hr
            obtain ⟨D, val, hWL, hgv⟩ := HQ6.out.wl
            have HWL := Lib.hid hWL
            have HGV := Lib.hid hgv
            have hb6 := below_one (w := w5) (.cells #[.int .i64 X] 3)
            have HO6 := Lib.hid (pw_own_below (hWL.row r) hb6)
            have HB6 := Lib.hid hb6
            have HL := Lib.hid (Nat.le_trans (wallTo_len s r k) (Nat.le_trans hk hs24))
            have HKEY := Lib.hid (Maps.keyOf_int_mk Tryd.underlying3 (WalkArith.wf_i64 hr1))
            have HHI := Lib.hid HQ6.out.hi
            obtain ⟨i0, hi0, hz0, hz1, hz2⟩ := info_parts info3'
            have HI := Lib.hid hi0
            have HZ := Lib.hid (And.intro hz0 (And.intro hz1 hz2))
            clear hi0 hz0 hz1 hz2 hv hr1 hWL hgv hb6
            go_wp2_with (first | (at_lookup; go_loud (refine wpList_lookup_held _ rfl _ _ 100 rfl law3 Tryd.underlying100 zero98 rfl HWL.out.own _ (.int .i64 r) rfl HKEY.out ?_); intro v hvv; have hve := (HWL.out.at_ r).symm.trans hvv; injection hve with hve; subst hve; clear hvv) | (at_builtin; go_loud (refine wpList_append_own_at _ rfl (.tmp 40) (.tmp 43) 98 rfl (w.heap.size + 3) 3 i0 (.int .i64 0) 1 8 Tryd.underlying98 HI.out HZ.out.1 HZ.out.2.1 HZ.out.2.2 rfl (by decide) (val r) _ _ rfl HO6.out ⟨w5.heap.size, 0, none⟩ 1 1 [.int .i64 X] rfl rfl (cell_one_new _ _ _) (ints_oneCell .i64 [X]) (by have := HL.out; unfold maxLen; omega) (by have := HL.out; omega) (Nat.le_trans HHI.out HB6.out.size) ?_); intro v1 w8 hown1 hgrow1 hnil1 hloc1; have HO8 := Lib.hid hown1; have HG8 := Lib.hid hgrow1; have HL8 := Lib.hid hloc1; clear hown1 hgrow1 hnil1 hloc1) | (at_mapUpdate; go_loud (refine wpList_mapUpdate_own _ rfl _ _ _ 100 rfl 3 98 law3 Tryd.underlying100 RV w.heap.size k D rfl ((HWL.out.own.kept (grown_of_below HB6.out) (by simp)).kept HG8.out (fun q => by have := (own_low HO6.out _ q.symm).1; omega)) (by unfold maxLen; omega) _ _ (.int .i64 r) rfl rfl HKEY.out (.held v1) [] rfl ?_); intro w9 hown9 hgrow9; have HQ9 := Lib.hid (HQ6.out.wall HWL.out HGV.out (by rw [HY.out, HY2.out]; exact HV.out) (by rw [HY.out, HY2.out]; exact HR.out) HX.out HB6.out HO8.out HG8.out HL8.out trivial hown9 hgrow9); clear hown9 hgrow9 e0 e1 e2 e3 f0 f1; have e0 := HQ9.out.pt.p0; have e1 := HQ9.out.pt.p1; have e2 := HQ9.out.pt.pf; have e3 := HQ9.out.pt.pg; have f0 := HQ9.out.q0; have f1 := HQ9.out.q1))
            refine ⟨⟨k + 1, by omega, by go_num, Lib.hid ?_⟩, by simp [intOf]; omega⟩
            rw [HX2.out, HY2.out]
            exact HQ9.out.st.put _ _
        · skip
          refine alloc_step (cs := #[.int .i64 0, .int .i64 0]) (t := 63) (by rfl) rfl (by go_simp) ?_
          intro g hg w3 hbk hba
          have HQ3 := Lib.hid (StQ.start HS2.out hg hbk hba)
          clear hg hbk hba
          refine hK.out _ _ ⟨hX ▸ HQ3.out.pt.p0, hY ▸ HQ3.out.pt.p1⟩ (fun hHeld => ?_)
          clear hK K
          refine norm_ (a' := ?_) ?_ ?_
          rotate_left
          · show Act.put _ (some 7) _ = _; simp only [Act.put, List.setIfInBounds_toArray, List.set_cons_zero, List.set_cons_succ, i64_w, i32_w]; rfl
          refine one_ (i := 3) (N := (some 25)) #[true, true, true, true, true, false] rfl rfl (by kernel_rfl) (by decide) (fun K hK => ?_)
          refine goes_ Tryd.func65 (by kernel_rfl) rfl #[ptV X Y, ptV (stepx (bt s k)) (stepy (bt s k))] (by rfl) rfl rfl (by (try simp only [List.map_toArray, List.map_cons, List.map_nil]); first | done | rfl) ?_
          refine (plus_calls _ _ _ _ _).mono ?_
          rintro e w4 ⟨rfl, hb2⟩
          refine ⟨_, rfl, ?_⟩
          have HQ4 := Lib.hid (HQ3.out.later hb2)
          clear hb2
          refine hK.out _ _ ⟨hX ▸ HQ4.out.pt.p0, hY ▸ HQ4.out.pt.p1⟩ (fun hHeld => ?_)
          clear hK K
          refine norm_ (a' := ?_) ?_ ?_
          rotate_left
          · show Act.put _ (some 25) _ = _; simp only [Act.put, List.setIfInBounds_toArray, List.set_cons_zero, List.set_cons_succ, i64_w, i32_w]; rfl
          have d0 := HQ4.out.q0
          have d1 := HQ4.out.q1
          have d2 := HQ4.out.qf
          have d3 := HQ4.out.qg
          refine last_ (i := 5) (N := none) #[true, true, true, true, true, true] rfl rfl (by kernel_rfl) (by decide) (fun K hK => ?_)
          refine skip_step (w1 := (w4.setCell ⟨g, 0, none⟩ (.int .i64 (wrap64 (X + stepx (bt s k))))).setCell ⟨g, 1, none⟩ (.int .i64 (wrap64 (Y + stepy (bt s k))))) (by rfl) (by unfold ptV; go_simp) ?_
          refine hK.out _ _ ?_
          clear hK K
          refine norm_ (a' := ?_) ?_ ?_
          rotate_left
          · show Act.put _ none _ = _; simp only [Act.put, List.setIfInBounds_toArray, List.set_cons_zero, List.set_cons_succ, i64_w, i32_w]; rfl
          refine done_ (by kernel_rfl) ?_
          clear d0 d1 d2 d3 hHeld
          have HQ5 := Lib.hid (HQ4.out.set1 (wrap64 (X + stepx (bt s k))) (wrap64 (Y + stepy (bt s k))))
          clear HQ4
          generalize (w4.setCell ⟨g, 0, none⟩ (.int .i64 (wrap64 (X + stepx (bt s k))))).setCell ⟨g, 1, none⟩ (.int .i64 (wrap64 (Y + stepy (bt s k)))) = w5 at HQ5 ⊢
          rw [← hX, ← hY, sumx_succ s k (by omega), sumy_succ s k (by omega)] at HQ5
          have HQ6 : Hid (StQ w s k X Y g (sumx s (k + 1)) (sumy s (k + 1)) w5) := by rw [← hX, ← hY]; exact HQ5
          have by1 := sumy_le s k
          have by2 := sumy_le s (k + 1)
          rw [hY] at by1
          obtain ⟨X2, hX2⟩ : ∃ X2, sumx s (k + 1) = X2 := ⟨_, rfl⟩
          obtain ⟨Y2, hY2⟩ : ∃ Y2, sumy s (k + 1) = Y2 := ⟨_, rfl⟩
          rw [hX2, hY2] at HQ6
          rw [hY2] at by2
          have HX := Lib.hid hX
          have HY := Lib.hid hY
          have HX2 := Lib.hid hX2
          have HY2 := Lib.hid hY2
          clear hX hY hX2 hY2 HQ5
          have e0 := HQ6.out.pt.p0
          have e1 := HQ6.out.pt.p1
          have e2 := HQ6.out.pt.pf
          have e3 := HQ6.out.pt.pg
          have f0 := HQ6.out.q0
          have f1 := HQ6.out.q1
          by_cases hv : Y = Y2
          · have bv : (Y != Y2) = false := by simp [hv]
            have HV := Lib.hid hv
            clear hv
            go_wp2_with fail
            refine ⟨⟨k + 1, by omega, by go_num, Lib.hid ?_⟩, by simp [intOf]; omega⟩
            rw [HX2.out, HY2.out]
            exact (HQ6.out.st.flat (by rw [HY.out, HY2.out, HV.out])).put _ _
          · have bv : (Y != Y2) = true := by simp [hv]
            have HV := Lib.hid hv
            obtain ⟨r, hr⟩ : ∃ r, min Y Y2 = r := ⟨_, rfl⟩
            have hr1 : -9223372036854775808 ≤ r ∧ r ≤ 9223372036854775807 := by omega
            have HR := Lib.hid hr
            obtain ⟨D, val, hWL, hgv⟩ := HQ6.out.wl
            have HWL := Lib.hid hWL
            have HGV := Lib.hid hgv
            have hb6 := below_one (w := w5) (.cells #[.int .i64 X] 3)
            have HO6 := Lib.hid (pw_own_below (hWL.row r) hb6)
            have HB6 := Lib.hid hb6
            have HL := Lib.hid (Nat.le_trans (wallTo_len s r k) (Nat.le_trans hk hs24))
            have HKEY := Lib.hid (Maps.keyOf_int_mk Tryd.underlying3 (WalkArith.wf_i64 hr1))
            have HHI := Lib.hid HQ6.out.hi
            obtain ⟨i0, hi0, hz0, hz1, hz2⟩ := info_parts info3'
            have HI := Lib.hid hi0
            have HZ := Lib.hid (And.intro hz0 (And.intro hz1 hz2))
            clear hi0 hz0 hz1 hz2 hv hr1 hWL hgv hb6
            go_wp2_with (first | (at_lookup; go_loud (refine wpList_lookup_held _ rfl _ _ 100 rfl law3 Tryd.underlying100 zero98 rfl HWL.out.own _ (.int .i64 r) rfl HKEY.out ?_); intro v hvv; have hve := (HWL.out.at_ r).symm.trans hvv; injection hve with hve; subst hve; clear hvv) | (at_builtin; go_loud (refine wpList_append_own_at _ rfl (.tmp 40) (.tmp 43) 98 rfl (w.heap.size + 3) 3 i0 (.int .i64 0) 1 8 Tryd.underlying98 HI.out HZ.out.1 HZ.out.2.1 HZ.out.2.2 rfl (by decide) (val r) _ _ rfl HO6.out ⟨w5.heap.size, 0, none⟩ 1 1 [.int .i64 X] rfl rfl (cell_one_new _ _ _) (ints_oneCell .i64 [X]) (by have := HL.out; unfold maxLen; omega) (by have := HL.out; omega) (Nat.le_trans HHI.out HB6.out.size) ?_); intro v1 w8 hown1 hgrow1 hnil1 hloc1; have HO8 := Lib.hid hown1; have HG8 := Lib.hid hgrow1; have HL8 := Lib.hid hloc1; clear hown1 hgrow1 hnil1 hloc1) | (at_mapUpdate; go_loud (refine wpList_mapUpdate_own _ rfl _ _ _ 100 rfl 3 98 law3 Tryd.underlying100 RV w.heap.size k D rfl ((HWL.out.own.kept (grown_of_below HB6.out) (by simp)).kept HG8.out (fun q => by have := (own_low HO6.out _ q.symm).1; omega)) (by unfold maxLen; omega) _ _ (.int .i64 r) rfl rfl HKEY.out (.held v1) [] rfl ?_); intro w9 hown9 hgrow9; have HQ9 := Lib.hid (HQ6.out.wall HWL.out HGV.out (by rw [HY.out, HY2.out]; exact HV.out) (by rw [HY.out, HY2.out]; exact HR.out) HX.out HB6.out HO8.out HG8.out HL8.out trivial hown9 hgrow9); clear hown9 hgrow9 e0 e1 e2 e3 f0 f1; have e0 := HQ9.out.pt.p0; have e1 := HQ9.out.pt.p1; have e2 := HQ9.out.pt.pf; have e3 := HQ9.out.pt.pg; have f0 := HQ9.out.q0; have f1 := HQ9.out.q1))
            refine ⟨⟨k + 1, by omega, by go_num, Lib.hid ?_⟩, by simp [intOf]; omega⟩
            rw [HX2.out, HY2.out]
            exact HQ9.out.st.put _ _
      · skip
        refine alloc_step (cs := #[.int .i64 0, .int .i64 0]) (t := 63) (by rfl) rfl (by go_simp) ?_
        intro g hg w2 hbk hba
        have HQ2 := Lib.hid (StQ.start HS.out.draw hg hbk hba)
        clear hg hbk hba
        refine hK.out _ _ ⟨hX ▸ HQ2.out.pt.p0, hY ▸ HQ2.out.pt.p1⟩ (fun hHeld => ?_)
        clear hK K
        refine norm_ (a' := ?_) ?_ ?_
        rotate_left
        · show Act.put _ (some 7) _ = _; simp only [Act.put, List.setIfInBounds_toArray, List.set_cons_zero, List.set_cons_succ, i64_w, i32_w]; rfl
        refine one_ (i := 2) (N := (some 24)) #[true, true, true, false, true, false] rfl rfl (by kernel_rfl) (by decide) (fun K hK => ?_)
        refine goes_ Tryd.func69 (by kernel_rfl) rfl #[.int .u8 (bt s k)] (by rfl) rfl rfl (by (try simp only [List.map_toArray, List.map_cons, List.map_nil]); first | done | rfl) ?_
        refine (step_calls _ _).mono ?_
        rintro e w3 ⟨rfl, hb2⟩
        refine ⟨_, rfl, ?_⟩
        have HQ3 := Lib.hid (HQ2.out.later hb2)
        clear hb2
        refine hK.out _ _ ⟨hX ▸ HQ3.out.pt.p0, hY ▸ HQ3.out.pt.p1⟩ (fun hHeld => ?_)
        clear hK K
        refine norm_ (a' := ?_) ?_ ?_
        rotate_left
        · show Act.put _ (some 24) _ = _; simp only [Act.put, List.setIfInBounds_toArray, List.set_cons_zero, List.set_cons_succ, i64_w, i32_w]; rfl
        refine one_ (i := 3) (N := (some 25)) #[true, true, true, true, true, false] rfl rfl (by kernel_rfl) (by decide) (fun K hK => ?_)
        refine goes_ Tryd.func65 (by kernel_rfl) rfl #[ptV X Y, ptV (stepx (bt s k)) (stepy (bt s k))] (by rfl) rfl rfl (by (try simp only [List.map_toArray, List.map_cons, List.map_nil]); first | done | rfl) ?_
        refine (plus_calls _ _ _ _ _).mono ?_
        rintro e w4 ⟨rfl, hb2⟩
        refine ⟨_, rfl, ?_⟩
        have HQ4 := Lib.hid (HQ3.out.later hb2)
        clear hb2
        refine hK.out _ _ ⟨hX ▸ HQ4.out.pt.p0, hY ▸ HQ4.out.pt.p1⟩ (fun hHeld => ?_)
        clear hK K
        refine norm_ (a' := ?_) ?_ ?_
        rotate_left
        · show Act.put _ (some 25) _ = _; simp only [Act.put, List.setIfInBounds_toArray, List.set_cons_zero, List.set_cons_succ, i64_w, i32_w]; rfl
        have d0 := HQ4.out.q0
        have d1 := HQ4.out.q1
        have d2 := HQ4.out.qf
        have d3 := HQ4.out.qg
        refine last_ (i := 5) (N := none) #[true, true, true, true, true, true] rfl rfl (by kernel_rfl) (by decide) (fun K hK => ?_)
        refine skip_step (w1 := (w4.setCell ⟨g, 0, none⟩ (.int .i64 (wrap64 (X + stepx (bt s k))))).setCell ⟨g, 1, none⟩ (.int .i64 (wrap64 (Y + stepy (bt s k))))) (by rfl) (by unfold ptV; go_simp) ?_
        refine hK.out _ _ ?_
        clear hK K
        refine norm_ (a' := ?_) ?_ ?_
        rotate_left
        · show Act.put _ none _ = _; simp only [Act.put, List.setIfInBounds_toArray, List.set_cons_zero, List.set_cons_succ, i64_w, i32_w]; rfl
        refine done_ (by kernel_rfl) ?_
        clear d0 d1 d2 d3 hHeld
        have HQ5 := Lib.hid (HQ4.out.set1 (wrap64 (X + stepx (bt s k))) (wrap64 (Y + stepy (bt s k))))
        clear HQ4
        generalize (w4.setCell ⟨g, 0, none⟩ (.int .i64 (wrap64 (X + stepx (bt s k))))).setCell ⟨g, 1, none⟩ (.int .i64 (wrap64 (Y + stepy (bt s k)))) = w5 at HQ5 ⊢
        rw [← hX, ← hY, sumx_succ s k (by omega), sumy_succ s k (by omega)] at HQ5
        have HQ6 : Hid (StQ w s k X Y g (sumx s (k + 1)) (sumy s (k + 1)) w5) := by rw [← hX, ← hY]; exact HQ5
        have by1 := sumy_le s k
        have by2 := sumy_le s (k + 1)
        rw [hY] at by1
        obtain ⟨X2, hX2⟩ : ∃ X2, sumx s (k + 1) = X2 := ⟨_, rfl⟩
        obtain ⟨Y2, hY2⟩ : ∃ Y2, sumy s (k + 1) = Y2 := ⟨_, rfl⟩
        rw [hX2, hY2] at HQ6
        rw [hY2] at by2
        have HX := Lib.hid hX
        have HY := Lib.hid hY
        have HX2 := Lib.hid hX2
        have HY2 := Lib.hid hY2
        clear hX hY hX2 hY2 HQ5
        have e0 := HQ6.out.pt.p0
        have e1 := HQ6.out.pt.p1
        have e2 := HQ6.out.pt.pf
        have e3 := HQ6.out.pt.pg
        have f0 := HQ6.out.q0
        have f1 := HQ6.out.q1
        by_cases hv : Y = Y2
        · have bv : (Y != Y2) = false := by simp [hv]
          have HV := Lib.hid hv
          clear hv
          go_wp2_with fail
          refine ⟨⟨k + 1, by omega, by go_num, Lib.hid ?_⟩, by simp [intOf]; omega⟩
          rw [HX2.out, HY2.out]
          exact (HQ6.out.st.flat (by rw [HY.out, HY2.out, HV.out])).put _ _
        · have bv : (Y != Y2) = true := by simp [hv]
          have HV := Lib.hid hv
          obtain ⟨r, hr⟩ : ∃ r, min Y Y2 = r := ⟨_, rfl⟩
          have hr1 : -9223372036854775808 ≤ r ∧ r ≤ 9223372036854775807 := by omega
          have HR := Lib.hid hr
          obtain ⟨D, val, hWL, hgv⟩ := HQ6.out.wl
          have HWL := Lib.hid hWL
          have HGV := Lib.hid hgv
          have hb6 := below_one (w := w5) (.cells #[.int .i64 X] 3)
          have HO6 := Lib.hid (pw_own_below (hWL.row r) hb6)
          have HB6 := Lib.hid hb6
          have HL := Lib.hid (Nat.le_trans (wallTo_len s r k) (Nat.le_trans hk hs24))
          have HKEY := Lib.hid (Maps.keyOf_int_mk Tryd.underlying3 (WalkArith.wf_i64 hr1))
          have HHI := Lib.hid HQ6.out.hi
          obtain ⟨i0, hi0, hz0, hz1, hz2⟩ := info_parts info3'
          have HI := Lib.hid hi0
          have HZ := Lib.hid (And.intro hz0 (And.intro hz1 hz2))
          clear hi0 hz0 hz1 hz2 hv hr1 hWL hgv hb6
          go_wp2_with (first | (at_lookup; go_loud (refine wpList_lookup_held _ rfl _ _ 100 rfl law3 Tryd.underlying100 zero98 rfl HWL.out.own _ (.int .i64 r) rfl HKEY.out ?_); intro v hvv; have hve := (HWL.out.at_ r).symm.trans hvv; injection hve with hve; subst hve; clear hvv) | (at_builtin; go_loud (refine wpList_append_own_at _ rfl (.tmp 40) (.tmp 43) 98 rfl (w.heap.size + 3) 3 i0 (.int .i64 0) 1 8 Tryd.underlying98 HI.out HZ.out.1 HZ.out.2.1 HZ.out.2.2 rfl (by decide) (val r) _ _ rfl HO6.out ⟨w5.heap.size, 0, none⟩ 1 1 [.int .i64 X] rfl rfl (cell_one_new _ _ _) (ints_oneCell .i64 [X]) (by have := HL.out; unfold maxLen; omega) (by have := HL.out; omega) (Nat.le_trans HHI.out HB6.out.size) ?_); intro v1 w8 hown1 hgrow1 hnil1 hloc1; have HO8 := Lib.hid hown1; have HG8 := Lib.hid hgrow1; have HL8 := Lib.hid hloc1; clear hown1 hgrow1 hnil1 hloc1) | (at_mapUpdate; go_loud (refine wpList_mapUpdate_own _ rfl _ _ _ 100 rfl 3 98 law3 Tryd.underlying100 RV w.heap.size k D rfl ((HWL.out.own.kept (grown_of_below HB6.out) (by simp)).kept HG8.out (fun q => by have := (own_low HO6.out _ q.symm).1; omega)) (by unfold maxLen; omega) _ _ (.int .i64 r) rfl rfl HKEY.out (.held v1) [] rfl ?_); intro w9 hown9 hgrow9; have HQ9 := Lib.hid (HQ6.out.wall HWL.out HGV.out (by rw [HY.out, HY2.out]; exact HV.out) (by rw [HY.out, HY2.out]; exact HR.out) HX.out HB6.out HO8.out HG8.out HL8.out trivial hown9 hgrow9); clear hown9 hgrow9 e0 e1 e2 e3 f0 f1; have e0 := HQ9.out.pt.p0; have e1 := HQ9.out.pt.p1; have e2 := HQ9.out.pt.pf; have e3 := HQ9.out.pt.pg; have f0 := HQ9.out.q0; have f1 := HQ9.out.q1))
          refine ⟨⟨k + 1, by omega, by go_num, Lib.hid ?_⟩, by simp [intOf]; omega⟩
          rw [HX2.out, HY2.out]
          exact HQ9.out.st.put _ _
    · have hk2 : k = s.size := by omega
      subst hk2
      obtain ⟨D, val, hWL⟩ := HS.out.wl
      obtain ⟨f, hf⟩ : ∃ f : Int → List Int, f = fun y => wallTo s y s.size := ⟨_, rfl⟩
      rw [← hf] at hWL
      have HAT := Lib.hid hWL.at_
      have HHAS := Lib.hid hWL.has_
      have HOFF := Lib.hid hWL.off
      have HROW : Hid (∀ y, ∃ C w', World.ownsRow w' C 3 1 (val y) (f y).length ((f y).map (Value.int .i64))) := Lib.hid fun y => ⟨_, _, hWL.row y⟩
      have HWL := Lib.hid hWL
      have HBL := Lib.hid HS.out.bl
      have HHI := Lib.hid HS.out.hi
      have HB1 : Hid (∀ y, ∀ x ∈ f y, -24 ≤ x ∧ x ≤ 24) := Lib.hid (by subst hf; exact fun y => wallTo_in hs24 y s.size (Nat.le_refl _))
      have HB2 : Hid (∀ y, (f y).length ≤ 24) := Lib.hid (by subst hf; exact fun y => Nat.le_trans (wallTo_len s y s.size) hs24)
      have HF := Lib.hid hf
      clear hWL hk HS
      go_wp2_with (first | (at_range; go_loud (refine wpList_range_own wr rfl _ 100 rfl 3 98 law3 Tryd.underlying100 RV w.heap.size s.size D rfl HWL.out.own ?_); intro w0 hrg0 hg0 hs0; have HR0 := Lib.hid (RgS.start HWL.out HBL.out HHI.out hrg0 hg0 hs0); clear hrg0 hg0 hs0) | go_in)
      go_frame
      clear hlt hf HWL HBL
      generalize wr.heap.size = C2 at HR0 HHI ⊢
      clear wr
      go_loopw [9] (fun v wr => ∃ vis left cnt, Hid (RgS w C2 f D val s.size C2 vis left cnt v wr)) (fun _ wr => wr.rangeLeft w.heap.size C2)
      case atStart => exact ⟨_, _, _, HR0⟩
      case round =>
        clear HR0
        obtain ⟨vis, left, cnt, HR⟩ := hrel
        obtain ⟨wo, rfl⟩ : ∃ wo : World, wo = wr := ⟨_, rfl⟩
        go_wp2_with (first | (at_next; go_loud (refine wpList_next_rows rfl _ rfl HR.out HHAS.out HOFF.out HHI.out HAT.out rfl ?_ ?_)) | go_in)
        · intro hl0
          have HL0 := Lib.hid hl0
          clear hl0
          go_wp2_with fail
          have hvis := HR.out.all HL0.out HAT.out HROW.out
          have hlen0 : 0 < (outOf f vis).length := List.length_pos_iff.2 (HNE.out vis HR.out.nd (by have e := HF.out; subst e; exact hvis) |> fun h => by have e := HF.out; subst e; exact h)
          have hlen1 : (outOf f vis).length < 4611686018427387904 := by
            have := outOf_small HB1.out HB2.out (vis := vis) (by have := HR.out.cv; omega) 0 (j := 0) (by omega)
            rw [List.length_append] at this
            omega
          refine (sort_pts HR.out.out hlen0 hlen1).mono ?_
          rintro e w3 ⟨rfl, l', hp, hpw, ho, hg⟩
          have HO := Lib.hid ho
          have HP := Lib.hid (And.intro hp (And.intro hpw hvis))
          have HB3 : Hid (Below w.heap.size w w3) := Lib.hid (HR.out.bl.grown hg HR.out.bl.size (fun c hc => by have := (own_low HR.out.out c hc).1; have := HHI.out; omega))
          clear ho hp hpw hg hlen0 hlen1 hvis
          go_wp2
          go_ret
          refine ⟨⟨_, rfl, vis, l', HR.out.nd, ?_, ?_, HP.out.2.1, ?_⟩, HB3.out⟩
          · have e := HF.out; subst e; exact HP.out.2.2
          · have e := HF.out; subst e; exact HP.out.1
          · exact own_lower HO.out (by have := HHI.out; omega)
        · intro x w1 left1 cnt1 hlt hx1 hx2 hcome hen
          have hnot : x ∉ vis := fun q => by
            have := List.nodup_append.1 hcome.nd
            exact this.2.2 x q x (by simp) rfl
          have hpos : 0 < (f x).length := List.length_pos_iff.2 (hcome.ne x (by simp))
          have hb2 := HB2.out x
          have HC := Lib.hid hcome
          have HLT := Lib.hid hlt
          clear hcome hlt
          go_wp2_with fail
          refine (sort_row (HC.out.row x hnot) hpos (by omega)).mono ?_
          rintro e w2 ⟨rfl, hr2, hg2⟩
          have HQ := Lib.hid (HC.out.sorted hr2 hg2)
          clear hr2 hg2 HC hen hnot
          obtain ⟨g, cap, cur, hv, -⟩ := own_block HQ.out.cur hpos
          obtain ⟨L, hL⟩ : ∃ L, (f x).length = L := ⟨_, rfl⟩
          rw [hL] at hv hb2 hpos
          rw [hv]
          have HV := Lib.hid hv
          have HL := Lib.hid hL
          have HQ0 : Hid (RowS w C2 f D val s.size vis x left1 cnt1 (outOf f vis ++ rowTo x (srt (f x)) (0 / 2)) u9 w2) := Lib.hid (by rw [Nat.zero_div, rowTo, List.append_nil]; exact HQ.out)
          clear hv hL HQ
          go_wp2_with fail
          go_loopw [12, 9] (fun i v wr => ∃ i' : Nat, i' % 2 = 0 ∧ i' ≤ L ∧ i = .int .i64 (i' : Int) ∧ Hid (RowS w C2 f D val s.size vis x left1 cnt1 (outOf f vis ++ rowTo x (srt (f x)) (i' / 2)) v wr)) (fun i _ _ => L - (intOf i).toNat)
          case atStart => exact ⟨0, rfl, by omega, rfl, HQ0⟩
          case round =>
            clear HQ0
            obtain ⟨i, hi2, hiL, rfl, HQ⟩ := hrel
            obtain ⟨wp, rfl⟩ : ∃ wp : World, wp = wr := ⟨_, rfl⟩
            by_cases hlt : i + 1 < L
            · obtain ⟨A, hA⟩ : ∃ A, (srt (f x)).getD i 0 = A := ⟨_, rfl⟩
              obtain ⟨B, hB⟩ : ∃ B, (srt (f x)).getD (i + 1) 0 = B := ⟨_, rfl⟩
              have a1 := row_bnd HB1.out x (i := i) (by rw [HL.out]; omega)
              have a2 := row_bnd HB1.out x (i := i + 1) (by rw [HL.out]; omega)
              rw [hA] at a1
              rw [hB] at a2
              have c1 := HQ.out.at_ HV.out HL.out (i := i) (by omega)
              rw [hA] at c1
              have HA := Lib.hid hA
              have HB := Lib.hid hB
              clear hA hB
              go_wp2_with fail
              have HQ0 : Hid (RowS w C2 f D val s.size vis x left1 cnt1 (outOf f vis ++ rowTo x (srt (f x)) (i / 2) ++ spanTo x A 0) u9 wp) := Lib.hid (by rw [spanTo, List.append_nil]; exact HQ.out)
              clear c1
              rw [show decide ((i : Int) + 1 < (L : Int)) = true from decide_eq_true (by omega)]
              go_loopw [13, 9] (fun z v wr => ∃ m : Nat, m ≤ (B - A).toNat ∧ z = .int .i64 (A + m) ∧ Hid (RowS w C2 f D val s.size vis x left1 cnt1 (outOf f vis ++ rowTo x (srt (f x)) (i / 2) ++ spanTo x A m) v wr)) (fun z _ _ => (B - intOf z).toNat)
              case atStart => exact ⟨0, by omega, by simp, HQ0⟩
              case round =>
                clear HQ0 HQ
                obtain ⟨m, hm, rfl, HQ⟩ := hrel
                obtain ⟨wq, rfl⟩ : ∃ wq : World, wq = wr := ⟨_, rfl⟩
                obtain ⟨z, hz⟩ : ∃ z : Int, A + (m : Int) = z := ⟨_, rfl⟩
                rw [hz]
                have c2 := HQ.out.at_ HV.out HL.out (i := i + 1) hlt
                rw [HB.out] at c2
                have hz1 : -24 ≤ z ∧ z ≤ 72 := by omega
                have HZ := Lib.hid hz
                clear hz
                by_cases hzb : z < B
                · have hb7 := below_one (w := wq) (.cells #[.int .i64 z, .int .i64 x] 63)
                  have HQ7 := Lib.hid (HQ.out.later hb7)
                  have hlen : (outOf f vis ++ rowTo x (srt (f x)) (i / 2) ++ spanTo x A m).length ≤ 28848 := by
                    have h1 := outOf_small HB1.out HB2.out (vis := vis) (by have := HQ.out.cv; omega) x (j := i / 2) (by rw [HL.out]; omega)
                    rw [List.length_append, spanTo_len]
                    omega
                  have HLEN := Lib.hid hlen
                  obtain ⟨i0, hi0, hz0, hz1', hz2⟩ := info_parts info63
                  have HI := Lib.hid hi0
                  have HZ2 := Lib.hid (And.intro hz0 (And.intro hz1' hz2))
                  clear hb7 hlen hi0 hz0 hz1' hz2
                  go_wp2_with (first | (at_builtin; go_loud (refine wpList_append_own_at _ rfl (.tmp 76) (.tmp 80) 67 rfl (C2 + 1) 63 i0 _ 2 16 Tryd.underlying67 HI.out HZ2.out.1 HZ2.out.2.1 HZ2.out.2.2 rfl (by decide) u9 _ _ rfl HQ7.out.out ⟨wq.heap.size, 0, none⟩ 1 1 [.int .i64 z, .int .i64 x] rfl rfl (two_new _ _ _ _) (by simp [Value.oneCell']) (by have := HLEN.out; unfold maxLen; omega) (by have := HLEN.out; omega) HQ7.out.hi ?_); intro v1 w8 hown1 hgrow1 _ _; have HQ8 := Lib.hid (HQ7.out.put (p := (z, x)) hown1 hgrow1); clear hown1 hgrow1))
                  refine ⟨⟨m + 1, by have := HZ.out; omega, by have := HZ.out; go_num, Lib.hid ?_⟩, by simp [intOf]; omega⟩
                  rw [spanTo, HZ.out, ← List.append_assoc]
                  exact HQ8.out
                · go_wp2_with fail
                  have hm2 : m = (B - A).toNat := by have := HZ.out; omega
                  refine ⟨⟨i + 2, by omega, by omega, by go_num, Lib.hid ?_⟩, by simp [intOf]; omega⟩
                  rw [show (i + 2) / 2 = i / 2 + 1 by omega, rowTo, show 2 * (i / 2) = i by omega, HA.out, HB.out, ← hm2, ← List.append_assoc]
                  exact HQ.out
            · go_wp2_with fail
              refine ⟨⟨vis ++ [x], left1, cnt1, Lib.hid (RowS.done ?_)⟩, ?_⟩
              · rw [rowAll, HL.out, show L / 2 = i / 2 by omega]
                exact HQ.out
              · rw [HQ.out.rg.left_eq, HR.out.rg.left_eq]
                exact HLT.out
end Go.Proofs.YtpfenoioeajkmaaDoor.X
end

section
set_option linter.unusedVariables false
set_option linter.unusedSimpArgs false
namespace Go.Proofs.YtpfenoioeajkmaaDoor.L
open Go.RowKit Go.Proofs.YtpfenoioeajkmaaDoorW.PrintWords Go.Proofs.YtpfenoioeajkmaaDoorW.PrintLast Go.Proofs.YtpfenoioeajkmaaDoorW.PrintMore Go.Proofs.YtpfenoioeajkmaaDoor.X Go.Proofs.YtpfenoioeajkmaaDoor.G
theorem spanTo_mem (y a : Int) (p : Int × Int) : ∀ m, p ∈ spanTo y a m ↔ p.2 = y ∧ a ≤ p.1 ∧ p.1 < a + m
  | 0 => ⟨fun h => (by cases h), fun ⟨_, h1, h2⟩ => (by omega)⟩
  | m + 1 => by
    rw [spanTo, List.mem_append, spanTo_mem y a p m, List.mem_singleton]
    constructor
    · rintro (⟨h1, h2, h3⟩ | rfl)
      · exact ⟨h1, h2, by omega⟩
      · exact ⟨rfl, by show a ≤ a + m; omega, by show a + (m : Int) < a + ((m + 1 : Nat) : Int); omega⟩
    · rintro ⟨h1, h2, h3⟩
      by_cases e : p.1 = a + m
      · right
        rw [← e, ← h1]
      · exact .inl ⟨h1, h2, by omega⟩
theorem spanTo_pw (y a : Int) : ∀ m, (spanTo y a m).Pairwise fun p q => p.1 < q.1
  | 0 => List.Pairwise.nil
  | m + 1 => by
    rw [spanTo, List.pairwise_append]
    refine ⟨spanTo_pw y a m, by simp, fun p hp q hq => ?_⟩
    have h1 := ((spanTo_mem y a p m).1 hp).2.2
    rw [List.mem_singleton] at hq
    rw [hq]
    exact h1
def rows (y : Int) : List Int → List (Int × Int)
  | a :: b :: t => spanTo y a (b - a).toNat ++ rows y t
  | _ => []
theorem rowTo_cons (y a b : Int) (t : List Int) : ∀ j, rowTo y (a :: b :: t) (j + 1) = spanTo y a (b - a).toNat ++ rowTo y t j
  | 0 => by simp [rowTo]
  | j + 1 => by
    rw [rowTo, rowTo_cons y a b t j, rowTo, List.append_assoc]
    rw [show 2 * (j + 1) = 2 * j + 1 + 1 by omega]
    simp only [List.getD_cons_succ]
theorem rowTo_rows (y : Int) : ∀ l : List Int, rowTo y l (l.length / 2) = rows y l
  | [] => rfl
  | [a] => by simp [rowTo, rows]
  | a :: b :: t => by
    rw [show (a :: b :: t).length / 2 = t.length / 2 + 1 by simp only [List.length_cons]; omega, rowTo_cons, rowTo_rows y t]
    rfl
theorem still {g : Int → Int} {p : Int} : ∀ m : Nat, (∀ x, p < x → x ≤ p + m → g (x - 1) = g x) → g (p + m) = g p
  | 0, _ => by simp
  | m + 1, h => by
    have ih := still (g := g) (p := p) m fun x h1 h2 => h x h1 (by omega)
    have := h (p + m + 1) (by omega) (by omega)
    rw [show p + (m : Int) + 1 - 1 = p + m by omega] at this
    rw [show p + ((m + 1 : Nat) : Int) = p + m + 1 by omega, ← this, ih]
theorem still' {g : Int → Int} {p q : Int} (hpq : p ≤ q) (h : ∀ x, p < x → x ≤ q → g (x - 1) = g x) : g q = g p := by
  have := still (g := g) (p := p) (q - p).toNat fun x h1 h2 => h x h1 (by omega)
  rw [show p + ((q - p).toNat : Int) = q by omega] at this
  exact this
theorem rows_spec {g : Int → Int} (hz : ∀ x, g x = 0 ∨ g x = 1) {M : Int} (hM : ∀ x, M ≤ x → g x = 0) (y : Int) : ∀ (l : List Int) (lo : Int), l.Pairwise (· < ·) → (∀ x ∈ l, lo < x) → g lo = 0 → (∀ x, lo < x → (x ∈ l ↔ g (x - 1) ≠ g x)) →
    (∀ p, p ∈ rows y l ↔ p.2 = y ∧ lo < p.1 ∧ g p.1 = 1) ∧ (rows y l).Pairwise fun p q => p.1 < q.1
  | [], lo, _, _, h0, hw => by
    refine ⟨fun p => ⟨fun h => (by cases h), fun ⟨_, h1, h2⟩ => ?_⟩, List.Pairwise.nil⟩
    have := still' (g := g) (p := lo) (q := p.1) (by omega) fun x h3 _ => Classical.byContradiction fun q => by
      have := (hw x h3).2 q
      cases this
    omega
  | [a], lo, _, hl, h0, hw => by
    exfalso
    have ha := hl a (by simp)
    have h1 := still' (g := g) (p := lo) (q := a - 1) (by omega) fun x h3 h4 => Classical.byContradiction fun q => by
      have := (hw x h3).2 q
      rw [List.mem_singleton] at this
      omega
    have h2 := (hw a ha).1 (by simp)
    have h5 := still' (g := g) (p := a) (q := max a M) (by omega) fun x h3 h4 => Classical.byContradiction fun q => by
      have := (hw x (by omega)).2 q
      rw [List.mem_singleton] at this
      omega
    have h6 := hM (max a M) (by omega)
    omega
  | a :: b :: t, lo, hp, hl, h0, hw => by
    have ha := hl a (by simp)
    rw [List.pairwise_cons, List.pairwise_cons] at hp
    obtain ⟨p1, p2, p3⟩ := hp
    have hab := p1 b (by simp)
    have h1 : ∀ q, lo ≤ q → q < a → g q = 0 := fun q q1 q2 => by
      rw [still' (g := g) (p := lo) (q := q) q1 fun x h3 h4 => Classical.byContradiction fun c => by
        have := (hw x h3).2 c
        rw [List.mem_cons, List.mem_cons] at this
        rcases this with e | e | e
        · omega
        · omega
        · have := p2 x e; omega]
      exact h0
    have h2 := (hw a ha).1 (by simp)
    rw [h1 (a - 1) (by omega) (by omega)] at h2
    have h3 : g a = 1 := by rcases hz a with e | e <;> omega
    have h4 : ∀ q, a ≤ q → q < b → g q = 1 := fun q q1 q2 => by
      rw [still' (g := g) (p := a) (q := q) q1 fun x h3 h4 => Classical.byContradiction fun c => by
        have := (hw x (by omega)).2 c
        rw [List.mem_cons, List.mem_cons] at this
        rcases this with e | e | e
        · omega
        · omega
        · have := p2 x e; omega]
      exact h3
    have h5 := (hw b (by omega)).1 (by simp)
    rw [h4 (b - 1) (by omega) (by omega)] at h5
    have h6 : g b = 0 := by rcases hz b with e | e <;> omega
    obtain ⟨r1, r2⟩ := rows_spec hz hM y t b p3 p2 h6 fun x hx => by
      rw [← hw x (by omega), List.mem_cons, List.mem_cons]
      constructor
      · exact fun h => .inr (.inr h)
      · rintro (e | e | e)
        · omega
        · omega
        · exact e
    refine ⟨fun p => ?_, ?_⟩
    · rw [rows, List.mem_append, spanTo_mem, r1]
      constructor
      · rintro (⟨q1, q2, q3⟩ | ⟨q1, q2, q3⟩)
        · exact ⟨q1, by omega, h4 _ q2 (by omega)⟩
        · exact ⟨q1, by omega, q3⟩
      · rintro ⟨q1, q2, q3⟩
        by_cases c1 : p.1 < a
        · have := h1 p.1 (by omega) c1; omega
        · by_cases c2 : p.1 < b
          · exact .inl ⟨q1, by omega, by omega⟩
          · refine .inr ⟨q1, ?_, q3⟩
            by_cases c3 : p.1 = b
            · rw [c3] at q3; omega
            · omega
    · rw [rows, List.pairwise_append]
      refine ⟨spanTo_pw _ _ _, r2, fun p hp q hq => ?_⟩
      have := ((spanTo_mem _ _ _ _).1 hp).2.2
      have := ((r1 q).1 hq).2.1
      omega
def isWall (s : ByteArray) (x y : Int) (i : Nat) : Prop := ((gD s i = 1 ∧ gY s i = y) ∨ (gD s i = 3 ∧ gY s i = y + 1)) ∧ gX s i = x
theorem once {s : ByteArray} (h : isO s = true) {x y : Int} {i j : Nat} (hi : i < s.size) (hj : j < s.size) (a : isWall s x y i) (b : isWall s x y j) : i = j := by
  have L := loop_of h
  have same : gX s i = gX s j → gY s i = gY s j → i = j := fun e1 e2 => by
    have := L.inj i j e1 e2
    rwa [Nat.mod_eq_of_lt hi, Nat.mod_eq_of_lt hj] at this
  have cross : ∀ {i j : Nat}, gD s i = 1 → gY s i = y → gX s i = x → gD s j = 3 → gY s j = y + 1 → gX s j = x → False := fun {i j} d1 y1 x1 d2 y2 x2 => by
    have e := L.inj (i + 1) j (by rw [L.sx, d1, x1, x2]; simp [ux]) (by rw [L.sy, d1, y1, y2]; simp [uy])
    have e1 := L.mod_d (i + 1)
    rw [e, L.mod_d j, d2] at e1
    exact L.no_u i (by rw [← e1, d1])
  obtain ⟨a1, a2⟩ := a
  obtain ⟨b1, b2⟩ := b
  rcases a1 with ⟨a1, a3⟩ | ⟨a1, a3⟩ <;> rcases b1 with ⟨b1, b3⟩ | ⟨b1, b3⟩
  · exact same (by omega) (by omega)
  · exact (cross a1 a3 a2 b1 b3 b2).elim
  · exact (cross b1 b3 b2 a1 a3 a2).elim
  · exact same (by omega) (by omega)
theorem wallTo_step {s : ByteArray} (h : isO s = true) (y : Int) {k : Nat} (hk : k < s.size) (x : Int) : (x ∈ if sumy s k ≠ sumy s (k + 1) ∧ min (sumy s k) (sumy s (k + 1)) = y then [sumx s k] else []) ↔ isWall s x y k := by
  obtain ⟨hw, h4, -, -, -⟩ := isO_parts h
  have hl := ((isW_iff s).1 hw).2
  have hk' : k % s.size = k := Nat.mod_eq_of_lt hk
  have hs := (cd_step (hl k hk)).2
  have e0 : sumy s (k + 1) = sumy s k + stepy (bt s (k : Int)) := rfl
  unfold isWall gD gX gY
  rw [hk', e0, hs]
  have := cd_lt (bt s (k : Int))
  rcases d_cases this with e | e | e | e <;> rw [e] <;> simp [uy] <;> omega
theorem wallTo_mem {s : ByteArray} (h : isO s = true) (x y : Int) : ∀ k, k ≤ s.size → (x ∈ wallTo s y k ↔ ∃ i, i < k ∧ isWall s x y i)
  | 0, _ => ⟨fun h => (by cases h), fun ⟨i, h, _⟩ => (by omega)⟩
  | k + 1, hk => by
    rw [wallTo, List.mem_append, wallTo_mem h x y k (by omega), wallTo_step h y (by omega)]
    constructor
    · rintro (⟨i, h1, h2⟩ | h)
      · exact ⟨i, by omega, h2⟩
      · exact ⟨k, by omega, h⟩
    · rintro ⟨i, h1, h2⟩
      by_cases e : i = k
      · subst e; exact .inr h2
      · exact .inl ⟨i, by omega, h2⟩
theorem wallTo_nodup {s : ByteArray} (h : isO s = true) (y : Int) : ∀ k, k ≤ s.size → (wallTo s y k).Nodup
  | 0, _ => List.nodup_nil
  | k + 1, hk => by
    rw [wallTo, List.nodup_append]
    refine ⟨wallTo_nodup h y k (by omega), by split <;> simp, fun a ha b hb => ?_⟩
    obtain ⟨i, hi, h1⟩ := (wallTo_mem h a y k (by omega)).1 ha
    have h2 := (wallTo_step h y (by omega) b).1 hb
    intro e
    subst e
    have := once h (by omega) (by omega) h1 h2
    omega
theorem wall_cross {s : ByteArray} (h : isO s = true) (x y : Int) : x ∈ wallTo s y s.size ↔ gW s (x - 1) y ≠ gW s x y := by
  have L := loop_of h
  have hc := cross_v L x y
  rw [wallTo_mem h x y s.size (Nat.le_refl _)]
  have off : ∀ i, ¬ isWall s x y i → (if gD s i = 1 ∧ gX s i = x ∧ gY s i = y then (1 : Int) else 0) - (if gD s i = 3 ∧ gX s i = x ∧ gY s i = y + 1 then 1 else 0) = 0 := fun i hi => by
    unfold isWall at hi
    rw [if_neg (fun c => hi ⟨.inl ⟨c.1, c.2.2⟩, c.2.1⟩), if_neg (fun c => hi ⟨.inr ⟨c.1, c.2.2⟩, c.2.1⟩)]
    rfl
  constructor
  · rintro ⟨i, hi, hw⟩ e
    unfold gW at e
    rw [e, Int.sub_self, S_one (k := i) hi fun j hj hne => off j fun hj2 => hne (once h hj hi hj2 hw)] at hc
    obtain ⟨a, b⟩ := hw
    rcases a with ⟨a, c⟩ | ⟨a, c⟩
    · rw [if_pos ⟨a, b, c⟩, if_neg (fun q => by rw [a] at q; omega)] at hc
      omega
    · rw [if_neg (fun q => by rw [a] at q; omega), if_pos ⟨a, b, c⟩] at hc
      omega
  · intro hne
    refine Classical.byContradiction fun q => hne ?_
    rw [S_zero fun i hi => off i fun c => q ⟨i, hi, c⟩] at hc
    unfold gW
    omega
theorem row_spec {s : ByteArray} (h : isO s = true) (y : Int) : (∀ p, p ∈ rowAll (fun y => wallTo s y s.size) y ↔ p.2 = y ∧ gW s p.1 y = 1) ∧ (rowAll (fun y => wallTo s y s.size) y).Pairwise fun p q => p.1 < q.1 := by
  have h24 := isW_le (isO_W h)
  have e0 : rowAll (fun y => wallTo s y s.size) y = rows y (srt (wallTo s y s.size)) := by
    rw [← rowTo_rows, srt_len]
    rfl
  have zero : ∀ x, ¬ (-24 ≤ x ∧ x ≤ 23) → gW s x y = 0 := fun x hx => by
    rcases gW_zo h x y with e | e
    · exact e
    · have := gW_in h e; omega
  have hnd : (srt (wallTo s y s.size)).Nodup := (List.Perm.nodup_iff (List.mergeSort_perm _ _)).2 (wallTo_nodup h y _ (Nat.le_refl _))
  have hpw : (srt (wallTo s y s.size)).Pairwise (· < ·) := by
    have h1 := List.pairwise_mergeSort (le := fun x y : Int => decide (x ≤ y)) (fun a b c h1 h2 => by simp at *; omega) (fun a b => by simp; omega) (wallTo s y s.size)
    have h2 : (srt (wallTo s y s.size)).Pairwise (fun a b => a ≠ b) := hnd
    exact (List.pairwise_and_iff.2 ⟨h1, h2⟩).imp fun {a b} q => by
      have := q.1
      have := q.2
      simp at *
      omega
  rw [e0]
  obtain ⟨r1, r2⟩ := rows_spec (g := fun x => gW s x y) (fun x => gW_zo h x y) (M := 24) (fun x hx => zero x (by omega)) y (srt (wallTo s y s.size)) (-25) hpw (fun x hx => by
    have := wallTo_in h24 y s.size (Nat.le_refl _) x ((srt_mem _ _).1 hx); omega) (zero _ (by omega)) (fun x _ => by rw [srt_mem]; exact wall_cross h x y)
  refine ⟨fun p => ?_, r2⟩
  rw [r1]
  constructor
  · rintro ⟨a, -, b⟩; exact ⟨a, b⟩
  · rintro ⟨a, b⟩
    have := gW_in h b
    exact ⟨a, by omega, b⟩
end Go.Proofs.YtpfenoioeajkmaaDoor.L
end

section
set_option linter.unusedVariables false
set_option linter.unusedSimpArgs false
namespace Go.Proofs.YtpfenoioeajkmaaDoor.L
open Go.RowKit Go.Proofs.YtpfenoioeajkmaaDoorW.PrintWords Go.Proofs.YtpfenoioeajkmaaDoorW.PrintLast Go.Proofs.YtpfenoioeajkmaaDoorW.PrintMore Go.Proofs.YtpfenoioeajkmaaDoor.X Go.Proofs.YtpfenoioeajkmaaDoor.G
theorem out_mem {s : ByteArray} (h : isO s = true) {vis : List Int} (hv : ∀ y, y ∈ vis ↔ wallTo s y s.size ≠ []) (x y : Int) : (x, y) ∈ outOf (fun y => wallTo s y s.size) vis ↔ gW s x y = 1 := by
  unfold outOf
  rw [List.mem_flatMap]
  constructor
  · rintro ⟨z, h1, h2⟩
    obtain ⟨e, h3⟩ := ((row_spec h z).1 (x, y)).1 h2
    have e : y = z := e
    subst e
    exact h3
  · intro hw
    refine ⟨y, (hv y).2 fun q => ?_, ((row_spec h y).1 (x, y)).2 ⟨rfl, hw⟩⟩
    have := ((row_spec h y).1 (x, y)).2 ⟨rfl, hw⟩
    unfold rowAll at this
    simp only [q] at this
    simp [rowTo] at this
theorem out_nodup {s : ByteArray} (h : isO s = true) : ∀ vis : List Int, vis.Nodup → (outOf (fun y => wallTo s y s.size) vis).Nodup
  | [], _ => List.nodup_nil
  | y :: vis, hn => by
    rw [List.nodup_cons] at hn
    show (rowAll (fun y => wallTo s y s.size) y ++ outOf (fun y => wallTo s y s.size) vis).Nodup
    rw [List.nodup_append]
    refine ⟨(row_spec h y).2.imp fun q e => by rw [e] at q; omega, out_nodup h vis hn.2, fun a ha b hb e => ?_⟩
    subst e
    have h1 := (((row_spec h y).1 a).1 ha).1
    unfold outOf at hb
    rw [List.mem_flatMap] at hb
    obtain ⟨z, h2, h3⟩ := hb
    have h4 := (((row_spec h z).1 a).1 h3).1
    rw [h1] at h4
    exact hn.1 (h4 ▸ h2)
theorem col_pw (s : ByteArray) (x : Int) : ∀ m, (colTo s x m).Pairwise fun p q => ltP q p = false
  | 0 => List.Pairwise.nil
  | m + 1 => by
    rw [colTo, List.pairwise_append]
    refine ⟨col_pw s x m, by split <;> simp, fun p hp q hq => ?_⟩
    obtain ⟨j, hj, -, rfl⟩ := (mem_col s x p m).1 hp
    split at hq
    · rw [List.mem_singleton] at hq
      subst hq
      unfold ltP
      simp
      omega
    · cases hq
theorem cells_pw' (s : ByteArray) : ∀ m, (cellsTo s m).Pairwise fun p q => ltP q p = false
  | 0 => List.Pairwise.nil
  | m + 1 => by
    rw [cellsTo, List.pairwise_append]
    refine ⟨cells_pw' s m, col_pw s _ _, fun p hp q hq => ?_⟩
    obtain ⟨i, hi, h1⟩ := (mem_cells' s p m).1 hp
    obtain ⟨j, hj, -, rfl⟩ := (mem_col s _ p _).1 h1
    obtain ⟨j2, hj2, -, rfl⟩ := (mem_col s _ q _).1 hq
    unfold ltP
    simp
    omega
theorem rcl_pw (s : ByteArray) : (rcl s).Pairwise fun p q => ltP q p = false := by
  unfold rcl
  exact cells_pw' s 49
theorem sorted_rcl {s : ByteArray} (h : isO s = true) {vis : List Int} {l : List (Int × Int)} (hn : vis.Nodup) (hv : ∀ y, y ∈ vis ↔ wallTo s y s.size ≠ []) (hp : l.Perm (outOf (fun y => wallTo s y s.size) vis)) (hs : l.Pairwise fun p q => ltP q p = false) : l = rcl s := by
  have h1 : (outOf (fun y => wallTo s y s.size) vis).Perm (rcl s) := (List.perm_ext_iff_of_nodup (out_nodup h vis hn) (cells_nodup s)).2 fun ⟨x, y⟩ => by rw [out_mem h hv, mem_cells h]
  refine List.Perm.eq_of_pairwise (le := fun p q => ltP q p = false) (fun a b _ _ e1 e2 => ?_) hs (rcl_pw s) (hp.trans h1)
  unfold ltP at e1 e2
  simp at e1 e2
  have e3 : a.1 = b.1 := by omega
  have e4 : a.2 = b.2 := by omega
  exact Prod.ext e3 e4
theorem some_cell {s : ByteArray} (h : isO s = true) : ∃ x y, gW s x y = 1 := by
  have hp := area_pos h
  rw [← (loop_of h).area (box_of h)] at hp
  obtain ⟨x, -, -, h1⟩ := Z_pos hp
  obtain ⟨y, -, -, h2⟩ := Z_pos h1
  have := gW_zo h x y
  unfold gW at this
  exact ⟨x, y, by unfold gW; omega⟩
theorem cells_ok {s : ByteArray} (h : isO s = true) (w : World) : Calls Tryd.prog 73 #[.string s] w fun e w' => (∃ v, e = .returned v ∧ OwnP w.heap.size 63 w' v (rcl s)) ∧ Below w.heap.size w w' := by
  refine (cells_calls s (isO_W h) (fun vis _ hv e => ?_) w).mono ?_
  · obtain ⟨x, y, hxy⟩ := some_cell h
    have := (out_mem h hv x y).2 hxy
    rw [e] at this
    cases this
  · rintro e w' ⟨⟨v, rfl, vis, l, h1, h2, h3, h4, h5⟩, hb⟩
    rw [sorted_rcl h h1 h2 h3 h4] at h5
    exact ⟨⟨v, rfl, h5⟩, hb⟩
end Go.Proofs.YtpfenoioeajkmaaDoor.L
end

section
set_option linter.unusedVariables false
set_option linter.unusedSimpArgs false
namespace Go.Proofs.YtpfenoioeajkmaaDoor.X
open Go.RowKit Go.Proofs.YtpfenoioeajkmaaDoorW.PrintWords Go.Proofs.YtpfenoioeajkmaaDoorW.PrintLast Go.Proofs.YtpfenoioeajkmaaDoorW.PrintMore Go.Proofs.YtpfenoioeajkmaaDoor.L
theorem take_p (l : List (Int × Int)) {k : Nat} (h : k < l.length) : l.take (k + 1) = l.take k ++ [(pX l k, pY l k)] := by
  rw [List.take_add_one, List.getElem?_eq_getElem h]
  unfold pX pY
  rw [List.getD_eq_getElem?_getD, List.getElem?_eq_getElem h]
  rfl
set_option maxHeartbeats 4000000 in
set_option maxRecDepth 100000 in
theorem told_calls {C : Nat} {w : World} {v : Value} {l : List (Int × Int)} (h : OwnP C 63 w v l) (hl : l.length ≤ 100) : Calls Tryd.prog 72 #[v] w fun e w' => (∃ u, e = .returned u ∧ OwnP w.heap.size 29 w' u l) ∧ Below w.heap.size w w' := by
  obtain ⟨A, c, rfl, hA⟩ := sl_list h
  obtain ⟨n, hn⟩ : ∃ n, l.length = n := ⟨_, rfl⟩
  rw [hn] at hA hl
  have HP := Lib.hid (show 0 < n → ∃ b off, A = some ⟨b, off, none⟩ ∧ n ≤ c ∧ Pts w b off n (pX l) (pY l) from fun h => by
    rcases hA with ⟨_, h2, _⟩ | ⟨b, off, h1, h4, h3⟩ | ⟨_, _, h2⟩
    · omega
    · exact ⟨b, off, h1, h4, h3⟩
    · omega)
  rw [hn]
  have HN := Lib.hid hn
  clear h hA hn
  go_enter Tryd.func72, Tryd.ntmps72
  go_wp2_with fail
  have HB := Lib.hid (Below.refl w.heap.size w)
  have HO : Hid (OwnP w.heap.size 29 w (.slice none 0 0) (l.take 0)) := Lib.hid (World.ownsRow_nil w w.heap.size 29 2)
  go_loopw [8, 3] (fun i v wr => ∃ k : Nat, k ≤ n ∧ i = .int .i64 k ∧ Hid (OwnP w.heap.size 29 wr v (l.take k)) ∧ Hid (Below w.heap.size w wr)) (fun i _ _ => n - (intOf i).toNat)
  case atStart => exact ⟨0, by omega, rfl, HO, HB⟩
  case round =>
    clear HB HO
    obtain ⟨k, hk, rfl, HO, HB⟩ := hrel
    by_cases hlt : k < n
    · obtain ⟨b', off, rfl, hnc, hP0⟩ := HP.out (by omega)
      have hp := hP0.later HB.out
      have q0 := hp.c0 k hlt
      have q1 := hp.c1 k hlt
      have hkc : k ≤ c := by omega
      have htk := take_p l (k := k) (by rw [HN.out]; exact hlt)
      have HTK := Lib.hid htk
      clear htk
      generalize hx : pX l k = x at q0 HTK
      generalize hy : pY l k = y at q1 HTK
      have hb1 := below_one (w := wr) (.cells #[.int .i64 x, .int .i64 y] 63)
      have hb2 := below_one (w := wr.alloc (.cells #[.int .i64 x, .int .i64 y] 63)) (.cells #[.int .i64 x, .int .i64 y] 29)
      have HO2 : Hid (OwnP w.heap.size 29 ((wr.alloc (.cells #[.int .i64 x, .int .i64 y] 63)).alloc (.cells #[.int .i64 x, .int .i64 y] 29)) u3 (l.take k)) := Lib.hid (pw_own_below (pw_own_below HO.out hb1) hb2)
      have HBA := Lib.hid (HB.out.trans ((hb1.trans (hb2.mono hb1.size)).mono HB.out.size))
      have HNW : Hid (∀ j u, [Value.int .i64 x, .int .i64 y][j]? = some u → ((wr.alloc (.cells #[.int .i64 x, .int .i64 y] 63)).alloc (.cells #[.int .i64 x, .int .i64 y] 29)).cell? ((⟨wr.heap.size + 1, 0, none⟩ : Addr).add j) = some u) := Lib.hid (by
        have e : (wr.alloc (.cells #[.int .i64 x, .int .i64 y] 63)).heap.size = wr.heap.size + 1 := by simp
        rw [← e]
        exact two_new _ _ _ _)
      have HLEN := Lib.hid (show (l.take k).length ≤ 100 by rw [List.length_take]; omega)
      obtain ⟨c0, c1⟩ := two_cells wr 63 (.int .i64 x) (.int .i64 y)
      obtain ⟨i0, hi0, hz0, hz1', hz2⟩ := info_parts info29
      have HI := Lib.hid hi0
      have HZ2 := Lib.hid (And.intro hz0 (And.intro hz1' hz2))
      clear hp hP0 HB hb1 hb2 hx hy hi0 hz0 hz1' hz2 HP
      go_wp2_with (first | (at_builtin; go_loud (refine wpList_append_own_at _ rfl (.tmp 12) (.tmp 14) 45 rfl w.heap.size 29 i0 _ 2 16 Tryd.underlying45 HI.out HZ2.out.1 HZ2.out.2.1 HZ2.out.2.2 rfl (by decide) u3 _ _ rfl HO2.out ⟨wr.heap.size + 1, 0, none⟩ 1 1 [.int .i64 x, .int .i64 y] rfl rfl HNW.out (by simp [Value.oneCell']) (by have := HLEN.out; unfold maxLen; omega) (by have := HLEN.out; omega) HBA.out.size ?_); intro v1 w8 hown1 hgrow1 _ _; have HO8 := Lib.hid hown1; have HB8 := Lib.hid (own_growS HBA.out HO2.out hgrow1); clear hown1 hgrow1))
      refine ⟨⟨k + 1, by omega, by go_num, Lib.hid ?_, HB8⟩, by simp [intOf]; omega⟩
      rw [HTK.out]
      unfold OwnP
      rw [List.length_append, flatP_app, flatP_one]
      exact HO8.out
    · obtain rfl : k = n := by omega
      clear HP
      go_wp2
      go_ret
      refine ⟨⟨_, rfl, ?_⟩, HB.out⟩
      have := HO.out
      rw [← HN.out, List.take_length] at this
      exact this
end Go.Proofs.YtpfenoioeajkmaaDoor.X
end

section
set_option linter.unusedVariables false
set_option linter.unusedSimpArgs false
namespace Go.Proofs.YtpfenoioeajkmaaDoor.X
open Go.RowKit Go.Proofs.YtpfenoioeajkmaaDoorW.PrintWords Go.Proofs.YtpfenoioeajkmaaDoorW.PrintLast Go.Proofs.YtpfenoioeajkmaaDoorW.PrintMore Go.Proofs.YtpfenoioeajkmaaDoor.L
set_option maxHeartbeats 4000000 in
set_option maxRecDepth 100000 in
theorem Cells_no {s : ByteArray} (hs : s.size ≤ 1000) (h : isO s = false) (w : World) : Calls Tryd.prog 48 #[.string s] w fun e w' => e = .returned (.tuple #[.slice none 0 0, .int .i64 2]) ∧ Below w.heap.size w w' := by
  have HI := Lib.hid (Is_any hs)
  rw [h] at HI
  clear h hs
  go_enter Tryd.func48, Tryd.ntmps48
  go_wp2_with fail
  refine (HI.out _).mono ?_
  rintro e w1 ⟨rfl, hb1⟩
  have H1 := Lib.hid ((Below.refl w.heap.size w).trans (hb1.mono (Below.refl w.heap.size w).size))
  clear hb1
  go_wp2
  go_ret2
  exact ⟨rfl, H1.out⟩
set_option maxHeartbeats 4000000 in
set_option maxRecDepth 100000 in
theorem Cells_yes {s : ByteArray} (h : isO s = true) (w : World) : Calls Tryd.prog 48 #[.string s] w fun e w' => (∃ v, e = .returned (.tuple #[v, .int .i64 0]) ∧ OwnP w.heap.size 29 w' v (rcl s)) ∧ Below w.heap.size w w' := by
  have HI := Lib.hid (Is_any (s := s) (by have := isW_le (isO_W h); omega))
  rw [h] at HI
  have HC := Lib.hid (cells_ok h)
  have HL := Lib.hid (cells_le h)
  clear h
  go_enter Tryd.func48, Tryd.ntmps48
  go_wp2_with fail
  refine (HI.out _).mono ?_
  rintro e w1 ⟨rfl, hb1⟩
  have H1 := Lib.hid ((Below.refl w.heap.size w).trans (hb1.mono (Below.refl w.heap.size w).size))
  clear hb1
  go_wp2_with fail
  refine (HC.out _).mono ?_
  rintro e w2 ⟨⟨v, rfl, hv⟩, hb2⟩
  have H2 := Lib.hid (H1.out.trans (hb2.mono H1.out.size))
  have HV := Lib.hid hv
  clear hv hb2
  go_wp2_with fail
  refine (told_calls HV.out (by have := HL.out; omega)).mono ?_
  rintro e w3 ⟨⟨u, rfl, hu⟩, hb3⟩
  have H3 := Lib.hid (H2.out.trans (hb3.mono H2.out.size))
  have HU := Lib.hid (own_lower hu H2.out.size)
  clear hu hb3
  go_wp2
  go_ret2
  exact ⟨⟨_, rfl, HU.out⟩, H3.out⟩
end Go.Proofs.YtpfenoioeajkmaaDoor.X
end

section
set_option linter.unusedVariables false
set_option linter.unusedSimpArgs false
namespace Go.Proofs.YtpfenoioeajkmaaDoor.L
open Go.RowKit Go.Proofs.YtpfenoioeajkmaaDoorW.PrintWords Go.Proofs.YtpfenoioeajkmaaDoorW.PrintLast Go.Proofs.YtpfenoioeajkmaaDoorW.PrintMore Go.Proofs.YtpfenoioeajkmaaDoor.X Go.Proofs.YtpfenoioeajkmaaDoor.G
theorem mem_at (l : List (Int × Int)) (a b : Int) : (∃ k, k < l.length ∧ pX l k = a ∧ pY l k = b) ↔ (a, b) ∈ l := by
  unfold pX pY
  constructor
  · rintro ⟨k, hk, h1, h2⟩
    rw [List.getD_eq_getElem?_getD, List.getElem?_eq_getElem hk] at h1 h2
    have : l[k] = (a, b) := Prod.ext h1 h2
    rw [← this]
    exact List.getElem_mem _
  · intro h
    obtain ⟨k, hk, e⟩ := List.getElem_of_mem h
    refine ⟨k, hk, ?_, ?_⟩ <;> rw [List.getD_eq_getElem?_getD, List.getElem?_eq_getElem hk, e] <;> rfl
end Go.Proofs.YtpfenoioeajkmaaDoor.L
end

section
set_option linter.unusedVariables false
set_option linter.unusedSimpArgs false
namespace Go.Proofs.YtpfenoioeajkmaaDoor.L
open Go.RowKit Go.Proofs.YtpfenoioeajkmaaDoorW.PrintWords Go.Proofs.YtpfenoioeajkmaaDoorW.PrintLast Go.Proofs.YtpfenoioeajkmaaDoorW.PrintMore Go.Proofs.YtpfenoioeajkmaaDoor.X Go.Proofs.YtpfenoioeajkmaaDoor.G
theorem good_to {s : ByteArray} (h : isO s = true) : ∀ k, k ≤ (rcl s).length → goodTo (pX (rcl s)) (pY (rcl s)) k = true
  | 0, _ => rfl
  | k + 1, hk => by
    have ih := good_to h k (by omega)
    have hb := gW_in h (cell_at h (i := k) (by omega))
    rw [goodTo, ih, Bool.true_and, Bool.and_eq_true, decide_eq_true_eq]
    refine ⟨by omega, ?_⟩
    by_cases e : k = 0
    · rw [e]; rfl
    · have hp := List.pairwise_iff_getElem.1 (rcl_pw s) (k - 1) k (by omega) (by omega) (by omega)
      have hne := cell_ne (s := s) (i := k) (j := k - 1) (by omega) (by omega)
      rw [← pt_mem (show k < (rcl s).length by omega), ← pt_mem (show k - 1 < (rcl s).length by omega)] at hp
      unfold ltP at hp
      simp only [decide_eq_false_iff_not] at hp
      rw [Bool.or_eq_true, decide_eq_true_eq, cmpP_iff]
      right
      omega
theorem good_rcl {s : ByteArray} (h : isO s = true) (hl : (rcl s).length ≤ 30) : goodL (pX (rcl s)) (pY (rcl s)) (rcl s).length = true := by
  have hpos := cells_pos h
  unfold goodL
  rw [good_to h _ (Nat.le_refl _), decide_eq_true (by omega), decide_eq_true hl]
  rfl
end Go.Proofs.YtpfenoioeajkmaaDoor.L
end

section
set_option linter.unusedVariables false
set_option linter.unusedSimpArgs false
namespace Go.Proofs.YtpfenoioeajkmaaDoor.L
open Go.RowKit Go.Proofs.YtpfenoioeajkmaaDoorW.PrintWords Go.Proofs.YtpfenoioeajkmaaDoorW.PrintLast Go.Proofs.YtpfenoioeajkmaaDoorW.PrintMore Go.Proofs.YtpfenoioeajkmaaDoor.X Go.Proofs.YtpfenoioeajkmaaDoor.G
theorem isO_mk {s : ByteArray} (hw : isW s = true) (h4 : 4 ≤ s.size) (hx : sumx s s.size = 0) (hy : sumy s s.size = 0) (hd : 0 < dbl s s.size)
    (ha : ∀ i j, i < j → j < s.size → sumx s i = sumx s j → sumy s i = sumy s j → False) : isO s = true := by
  unfold isO
  simp only [Bool.and_eq_true, decide_eq_true_eq]
  refine ⟨hw, h4, ⟨hx, hy⟩, hd, (apart_iff hw).1 fun i j hi hij hj => ?_⟩
  rw [Bool.eq_false_iff]
  intro q
  have := (same_iff hw (by omega) (by omega)).1 q
  injection this with a b
  exact ha i j hij hj a b
theorem dbl_sum (s : ByteArray) : ∀ k, dbl s k = S k fun i => sumx s i * stepy (bt s i) - sumy s i * stepx (bt s i)
  | 0 => rfl
  | k + 1 => by
    rw [dbl, S_succ, ← dbl_sum s k, sumx, sumy]
    grind
theorem gX_lt {s : ByteArray} {i : Nat} (hi : i < s.size) : gX s i = sumx s i ∧ gY s i = sumy s i ∧ gD s i = cd (bt s i) := by
  unfold gX gY gD
  rw [Nat.mod_eq_of_lt hi]
  exact ⟨rfl, rfl, rfl⟩
theorem rot_bt' (s : ByteArray) {k i : Nat} (hk : k < s.size) (hi : i < s.size) : bt (rotF s k) i = bt s ((k + i) % s.size : Nat) := by
  rw [rot_bt s (Nat.le_of_lt hk) i hi]
  congr 2
  by_cases q : i < s.size - k
  · rw [if_pos q, Nat.mod_eq_of_lt (by omega)]
  · rw [if_neg q, show k + i = (i - (s.size - k)) + s.size by omega, Nat.add_mod_right, Nat.mod_eq_of_lt (by omega)]
theorem rot_rot (s : ByteArray) {r i : Nat} (hr : r < s.size) (hi : i < s.size) : rotF (rotF s r) i = rotF s ((r + i) % s.size) := by
  have hn : 0 < s.size := by omega
  have z1 := rot_size s (Nat.le_of_lt hr)
  have z2 := rot_size (rotF s r) (show i ≤ (rotF s r).size by omega)
  have hm := Nat.mod_lt (r + i) hn
  have z3 := rot_size s (Nat.le_of_lt hm)
  refine bytes_ext (by omega) fun j hj => ?_
  rw [rot_bt' (rotF s r) (by omega) (by omega), z1, rot_bt' s hr (Nat.mod_lt _ hn), rot_bt' s hm (by omega)]
  congr 2
  rw [Nat.add_mod, Nat.mod_mod, ← Nat.add_mod, Nat.add_mod ((r + i) % s.size), Nat.mod_mod, ← Nat.add_mod, Nat.add_assoc]
theorem rot_zero (s : ByteArray) (hn : 0 < s.size) : rotF s 0 = s := by
  refine bytes_ext (rot_size s (Nat.zero_le _)) fun i hi => ?_
  rw [rot_size s (Nat.zero_le _)] at hi
  rw [rot_bt' s hn hi, Nat.zero_add, Nat.mod_eq_of_lt hi]
theorem rot_sum {s : ByteArray} (h : isO s = true) {k : Nat} (hk : k < s.size) : ∀ i, i ≤ s.size → sumx (rotF s k) i = gX s (k + i) - gX s k ∧ sumy (rotF s k) i = gY s (k + i) - gY s k
  | 0, _ => by show (0 : Int) = _ ∧ (0 : Int) = _; rw [Nat.add_zero]; omega
  | i + 1, hi => by
    obtain ⟨a, b⟩ := rot_sum h hk i (by omega)
    obtain ⟨e, l⟩ := gD_rot h hk (show i < s.size by omega)
    obtain ⟨c, d⟩ := cd_step l
    have sx := (loop_of h).sx (k + i)
    have sy := (loop_of h).sy (k + i)
    rw [sumx, sumy, a, b, c, d, ← e, ← Nat.add_assoc]
    omega
theorem S_ux {s : ByteArray} (h : isO s = true) : S s.size (fun i => ux (gD s i)) = 0 ∧ S s.size (fun i => uy (gD s i)) = 0 := by
  have L := loop_of h
  have tx := S_tel s.size (gX s)
  have ty := S_tel s.size (gY s)
  have px := L.px 0
  have py := L.py 0
  rw [Nat.zero_add] at px py
  rw [px, Int.sub_self] at tx
  rw [py, Int.sub_self] at ty
  refine ⟨?_, ?_⟩
  · rw [← tx]; exact S_congr fun i _ => by rw [L.sx]; omega
  · rw [← ty]; exact S_congr fun i _ => by rw [L.sy]; omega
theorem rot_O {s : ByteArray} (h : isO s = true) {k : Nat} (hk : k < s.size) : isO (rotF s k) = true ∧ dbl (rotF s k) s.size = dbl s s.size := by
  have L := loop_of h
  have hz := rot_size s (Nat.le_of_lt hk)
  have hs := rot_sum h hk
  have hd : dbl (rotF s k) s.size = dbl s s.size := by
    rw [dbl_sum, dbl_Q h]
    have e : (S s.size fun i => sumx (rotF s k) i * stepy (bt (rotF s k) i) - sumy (rotF s k) i * stepx (bt (rotF s k) i)) =
        S s.size fun i => (gX s (k + i) * uy (gD s (k + i)) - gY s (k + i) * ux (gD s (k + i))) - (gX s k * uy (gD s (k + i)) - gY s k * ux (gD s (k + i))) := S_congr fun i hi => by
      obtain ⟨a, b⟩ := hs i (by omega)
      obtain ⟨e, l⟩ := gD_rot h hk hi
      obtain ⟨c, d⟩ := cd_step l
      rw [a, b, c, d, e]
      grind
    rw [e, S_sub, S_sub (f := fun i => gX s k * uy (gD s (k + i))), S_mul, S_mul]
    have r1 := S_rot (n := s.size) (f := fun i => uy (gD s i)) (fun i => by rw [L.pd]) k
    have r2 := S_rot (n := s.size) (f := fun i => ux (gD s i)) (fun i => by rw [L.pd]) k
    have r3 := S_rot (n := s.size) (f := fun i => gX s i * uy (gD s i) - gY s i * ux (gD s i)) (fun i => by rw [L.px, L.py, L.pd]) k
    rw [r1, r2, r3, (S_ux h).1, (S_ux h).2]
    have := L.Q_area
    unfold Q at this
    simp only [Nat.zero_add] at this
    rw [this]
    omega
  refine ⟨isO_mk (rot_W (isO_W h) (Nat.le_of_lt hk)) (by rw [hz]; exact isO_4 h) ?_ ?_ ?_ ?_, hd⟩
  · rw [hz, (hs _ (Nat.le_refl _)).1, L.px, Int.sub_self]
  · rw [hz, (hs _ (Nat.le_refl _)).2, L.py, Int.sub_self]
  · rw [hz, hd]; exact (isO_parts h).2.2.2.1
  · intro i j hij hj hx hy
    rw [hz] at hj
    rw [(hs i (by omega)).1, (hs j (by omega)).1] at hx
    rw [(hs i (by omega)).2, (hs j (by omega)).2] at hy
    have := mod_add_cancel (L.inj (k + i) (k + j) (by omega) (by omega))
    rw [Nat.mod_eq_of_lt (by omega), Nat.mod_eq_of_lt (by omega)] at this
    omega
def leB (a b : ByteArray) : Prop := a.data.toList ≤ b.data.toList
theorem min_le (x y : ByteArray) : leB (Lib.minS x y) x ∧ leB (Lib.minS x y) y := by
  unfold Lib.minS leB
  split
  · rename_i h
    refine ⟨List.le_refl _, ?_⟩
    rcases h with h | h
    · exact List.le_of_lt h
    · rw [h]; exact List.le_refl _
  · rename_i h
    refine ⟨?_, List.le_refl _⟩
    intro q
    exact h (.inl q)
theorem min_one (x y : ByteArray) : Lib.minS x y = x ∨ Lib.minS x y = y := by
  unfold Lib.minS
  split
  · exact .inl rfl
  · exact .inr rfl
theorem leB_trans {a b c : ByteArray} (h : leB a b) (h2 : leB b c) : leB a c := List.le_trans h h2
theorem leB_antisymm {a b : ByteArray} (h : leB a b) (h2 : leB b a) : a = b := by
  have := List.le_antisymm h h2
  apply ByteArray.ext
  exact Array.toList_inj.1 this
theorem first_le (s : ByteArray) : ∀ k, (∀ i, i < k → leB (firstTo s k) (rotF s i)) ∧ leB (firstTo s k) s
  | 0 => ⟨fun i h => by omega, List.le_refl _⟩
  | k + 1 => by
    obtain ⟨a, b⟩ := first_le s k
    obtain ⟨m1, m2⟩ := min_le (firstTo s k) (rotF s k)
    refine ⟨fun i hi => ?_, leB_trans m1 b⟩
    by_cases e : i = k
    · rw [e]; exact m2
    · exact leB_trans m1 (a i (by omega))
theorem first_one (s : ByteArray) (hn : 0 < s.size) : ∀ k, k ≤ s.size → ∃ i, i < s.size ∧ firstTo s k = rotF s i
  | 0, _ => ⟨0, hn, (rot_zero s hn).symm⟩
  | k + 1, hk => by
    rcases min_one (firstTo s k) (rotF s k) with e | e
    · obtain ⟨i, hi, h⟩ := first_one s hn k (by omega)
      exact ⟨i, hi, by rw [firstTo, e, h]⟩
    · exact ⟨k, by omega, by rw [firstTo, e]⟩
theorem first_rot (s : ByteArray) {r : Nat} (hr : r < s.size) : firstTo (rotF s r) s.size = firstTo s s.size := by
  have hn : 0 < s.size := by omega
  have hz := rot_size s (Nat.le_of_lt hr)
  apply leB_antisymm
  · obtain ⟨i, hi, e⟩ := first_one s hn s.size (Nat.le_refl _)
    rw [e]
    have h := (first_le (rotF s r) s.size).1 ((i + s.size - r) % s.size) (Nat.mod_lt _ hn)
    rw [rot_rot s hr (Nat.mod_lt _ hn)] at h
    have e2 : (r + (i + s.size - r) % s.size) % s.size = i := by
      rw [Nat.add_mod, Nat.mod_mod, ← Nat.add_mod, show r + (i + s.size - r) = i + s.size by omega, Nat.add_mod_right, Nat.mod_eq_of_lt hi]
    rw [e2] at h
    exact h
  · obtain ⟨i, hi, e⟩ := first_one (rotF s r) (by omega) s.size (by omega)
    rw [e, rot_rot s hr (by omega)]
    exact (first_le s s.size).1 _ (Nat.mod_lt _ hn)
end Go.Proofs.YtpfenoioeajkmaaDoor.L
end

section
set_option linter.unusedVariables false
set_option linter.unusedSimpArgs false
namespace Go.Proofs.YtpfenoioeajkmaaDoor.L
open Go.RowKit Go.Proofs.YtpfenoioeajkmaaDoorW.PrintWords Go.Proofs.YtpfenoioeajkmaaDoorW.PrintLast Go.Proofs.YtpfenoioeajkmaaDoorW.PrintMore Go.Proofs.YtpfenoioeajkmaaDoor.X Go.Proofs.YtpfenoioeajkmaaDoor.G
abbrev rIn (s : ByteArray) : Int → Int → Bool := inB (pX (rcl s)) (pY (rcl s)) (rcl s).length
theorem rIn_iff {s : ByteArray} (h : isO s = true) (a b : Int) : rIn s a b = true ↔ gW s a b = 1 := by
  unfold rIn
  rw [inB_iff, mem_at, mem_cells h]
theorem rIn_no {s : ByteArray} (h : isO s = true) (a b : Int) : rIn s a b = false ↔ gW s a b = 0 := by
  rw [Bool.eq_false_iff, Ne, rIn_iff h]
  have := gW_zo h a b
  omega
def lc (k : Nat) : Int := if k = 0 then 114 else if k = 1 then 117 else if k = 2 then 108 else 100
theorem lc_cd {c : Int} (h : isL c) : lc (cd c) = c := by
  unfold isL at h
  rcases h with rfl | rfl | rfl | rfl <;> rfl
theorem side_cd {C : Int → Int → Bool} {p q c : Int} : side C p q c ↔ ∃ k, k < 4 ∧ c = lc k ∧ C (cx p k) (cy q k) = true ∧ C (cx p ((k + 3) % 4)) (cy q ((k + 3) % 4)) = false := by
  unfold side
  constructor
  · rintro (⟨rfl, h1, h2⟩ | ⟨rfl, h1, h2⟩ | ⟨rfl, h1, h2⟩ | ⟨rfl, h1, h2⟩)
    · exact ⟨0, by omega, rfl, h1, h2⟩
    · exact ⟨1, by omega, rfl, h1, h2⟩
    · exact ⟨2, by omega, rfl, h1, h2⟩
    · exact ⟨3, by omega, rfl, h1, h2⟩
  · rintro ⟨k, hk, rfl, h1, h2⟩
    rcases d_cases hk with e | e | e | e <;> subst e
    · exact .inl ⟨rfl, h1, h2⟩
    · exact .inr (.inl ⟨rfl, h1, h2⟩)
    · exact .inr (.inr (.inl ⟨rfl, h1, h2⟩))
    · exact .inr (.inr (.inr ⟨rfl, h1, h2⟩))
theorem side_step {s : ByteArray} (h : isO s = true) (p q c : Int) : side (rIn s) p q c ↔ ∃ i, i < s.size ∧ gX s i = p ∧ gY s i = q ∧ lc (gD s i) = c := by
  have L := loop_of h
  have h1 := left_one h
  rw [side_cd]
  constructor
  · rintro ⟨k, hk, rfl, e1, e2⟩
    rw [rIn_iff h] at e1
    rw [rIn_no h] at e2
    have hc := cross L p q hk
    unfold gW at e1 e2
    rw [e1, e2] at hc
    obtain ⟨i, hi, hp⟩ := S_pos (n := s.size) (f := ti (gX s) (gY s) (gD s) p q k) (by omega)
    unfold ti at hp
    by_cases hx : gD s i = k ∧ gX s i = p ∧ gY s i = q
    · exact ⟨i, hi, hx.2.1, hx.2.2, by rw [hx.1]⟩
    · rw [if_neg hx] at hp
      split at hp <;> omega
  · rintro ⟨i, hi, rfl, rfl, rfl⟩
    refine ⟨gD s i, L.d4 i, rfl, (rIn_iff h _ _).2 ?_, (rIn_no h _ _).2 ?_⟩
    · unfold gW
      rw [L.left, h1]
    · unfold gW
      rw [L.right, h1]
      rfl
abbrev rSides (s : ByteArray) : List Side := sidesTo (rIn s) (pX (rcl s)) (pY (rcl s)) (rcl s).length
theorem mem_rSides {s : ByteArray} (h : isO s = true) (p : Int × Int) (c : Int) : (p, c) ∈ rSides s ↔ ∃ i, i < s.size ∧ gX s i = p.1 ∧ gY s i = p.2 ∧ lc (gD s i) = c := by
  rw [← side_step h]
  exact mem_sides p.1 p.2 c
theorem sidesOf_nodup (C : Int → Int → Bool) (a b : Int) : (sidesOf C a b).Nodup := by
  unfold sidesOf
  cases C a (b - 1) <;> cases C (a + 1) b <;> cases C a (b + 1) <;> cases C (a - 1) b <;> simp
theorem sidesOf_cell {C : Int → Int → Bool} {a b a' b' : Int} {e : Side} (h : e ∈ sidesOf C a b) (h' : e ∈ sidesOf C a' b') : a = a' ∧ b = b' := by
  obtain ⟨⟨p, q⟩, c⟩ := e
  rw [mem_sidesOf] at h h'
  omega
theorem sidesTo_nodup {C : Int → Int → Bool} {x y : Nat → Int} : ∀ {n : Nat}, (∀ i j, i < j → j < n → ¬ (x i = x j ∧ y i = y j)) → (sidesTo C x y n).Nodup
  | 0, _ => List.nodup_nil
  | n + 1, h => by
    rw [sidesTo, List.nodup_append]
    refine ⟨sidesTo_nodup fun i j a b => h i j a (by omega), sidesOf_nodup _ _ _, fun a ha b hb e => ?_⟩
    subst e
    obtain ⟨i, hi, h1⟩ := (mem_sidesTo _ _ _ _ _).1 ha
    exact h i n hi (by omega) (sidesOf_cell h1 hb)
theorem rcl_apart (s : ByteArray) : ∀ i j, i < j → j < (rcl s).length → ¬ (pX (rcl s) i = pX (rcl s) j ∧ pY (rcl s) i = pY (rcl s) j) := by
  rintro i j hij hj ⟨h1, h2⟩
  have hi : i < (rcl s).length := by omega
  unfold pX at h1
  unfold pY at h2
  rw [List.getD_eq_getElem?_getD, List.getD_eq_getElem?_getD, List.getElem?_eq_getElem hi, List.getElem?_eq_getElem hj] at h1 h2
  have e : (rcl s)[i] = (rcl s)[j] := Prod.ext h1 h2
  have := List.pairwise_iff_getElem.1 (cells_nodup s) i j hi hj hij
  exact this e
theorem rSides_keys {s : ByteArray} (h : isO s = true) : ((rSides s).map (·.1)).Nodup := by
  unfold List.Nodup
  rw [List.pairwise_map]
  have hn : (rSides s).Nodup := sidesTo_nodup (rcl_apart s)
  refine List.Pairwise.imp_of_mem (fun {a b} ha hb hab he => hab ?_) hn
  obtain ⟨p, c⟩ := a
  obtain ⟨p', c'⟩ := b
  simp only at he
  subst he
  obtain ⟨i, hi, e1, e2, e3⟩ := (mem_rSides h p c).1 ha
  obtain ⟨j, hj, f1, f2, f3⟩ := (mem_rSides h p c').1 hb
  have := (loop_of h).inj i j (by rw [e1, f1]) (by rw [e2, f2])
  rw [Nat.mod_eq_of_lt hi, Nat.mod_eq_of_lt hj] at this
  subst this
  rw [← e3, ← f3]
theorem rSides_length {s : ByteArray} (h : isO s = true) : (rSides s).length = s.size := by
  have hn : (rSides s).Nodup := sidesTo_nodup (rcl_apart s)
  have L := loop_of h
  have h1 : ((List.range s.size).map fun i => (((gX s i, gY s i), lc (gD s i)) : Side)).Nodup := by
    unfold List.Nodup
    rw [List.pairwise_map]
    refine List.pairwise_lt_range.imp_of_mem fun {a b} ha hb hab he => ?_
    rw [List.mem_range] at ha hb
    simp only [Prod.mk.injEq] at he
    have := L.inj a b he.1.1 he.1.2
    rw [Nat.mod_eq_of_lt ha, Nat.mod_eq_of_lt hb] at this
    omega
  have a := subset_length h1 fun e he => by
    obtain ⟨i, hi, rfl⟩ := List.mem_map.1 he
    exact (mem_rSides h _ _).2 ⟨i, List.mem_range.1 hi, rfl, rfl, rfl⟩
  have b := subset_length (m := (List.range s.size).map fun i => (((gX s i, gY s i), lc (gD s i)) : Side)) hn fun e he => by
    obtain ⟨⟨p, q⟩, c⟩ := e
    obtain ⟨i, hi, e1, e2, e3⟩ := (mem_rSides h _ _).1 he
    have e : (((gX s i, gY s i), lc (gD s i)) : Side) = ((p, q), c) := by rw [e1, e2, e3]
    rw [← e]
    exact List.mem_map_of_mem (List.mem_range.2 hi)
  simp at a b
  omega
theorem fol_rSides {s : ByteArray} (h : isO s = true) (j : Nat) : ∀ k, fol (rSides s) (gX s j, gY s j) k = (gX s (j + k), gY s (j + k)) ∧ ltr (rSides s) (gX s (j + k), gY s (j + k)) = lc (gD s (j + k)) := by
  have L := loop_of h
  have hl : ∀ i, ltr (rSides s) (gX s i, gY s i) = lc (gD s i) := fun i => by
    unfold ltr
    rw [findL_of (rSides_keys h) (c := lc (gD s i)) ((mem_rSides h _ _).2 ⟨i % s.size, Nat.mod_lt _ (by have := L.n4; omega), L.mod_x i, L.mod_y i, by rw [L.mod_d]⟩)]
    rfl
  have hd : ∀ i, stepx (lc (gD s i)) = ux (gD s i) ∧ stepy (lc (gD s i)) = uy (gD s i) := fun i => by
    rcases d_cases (L.d4 i) with e | e | e | e <;> rw [e] <;> exact ⟨rfl, rfl⟩
  intro k
  refine ⟨?_, hl _⟩
  induction k with
  | zero => rfl
  | succ k ih =>
    unfold fol
    rw [ih, hl, (hd _).1, (hd _).2, ← Nat.add_assoc, L.sx, L.sy]
theorem first_corner {s : ByteArray} (h : isO s = true) : 0 < (rcl s).length ∧ ∃ j, j < s.size ∧ gX s j = pX (rcl s) 0 ∧ gY s j = pY (rcl s) 0 ∧ lc (gD s j) = 114 := by
  obtain ⟨a, b, hab⟩ := some_cell h
  have hpos : 0 < (rcl s).length := List.length_pos_of_mem ((mem_cells h a b).2 hab)
  refine ⟨hpos, (side_step h _ _ _).1 (.inl ⟨rfl, ?_, ?_⟩)⟩
  · rw [rIn, inB_iff]
    exact ⟨0, hpos, rfl, rfl⟩
  · rw [Bool.eq_false_iff, Ne, rIn, inB_iff]
    rintro ⟨k, hk, h1, h2⟩
    have hk0 : 0 < k := by
      refine Nat.pos_of_ne_zero fun e => ?_
      subst e
      omega
    have h3 := List.pairwise_iff_getElem.1 (rcl_pw s) 0 k hpos hk hk0
    unfold pX at h1
    unfold pY at h2
    rw [List.getD_eq_getElem?_getD, List.getD_eq_getElem?_getD, List.getElem?_eq_getElem hpos, List.getElem?_eq_getElem hk] at h1 h2
    simp only [Option.getD_some] at h1 h2
    unfold ltP at h3
    simp at h3
    omega
theorem back_at {s : ByteArray} (h : isO s = true) (j : Nat) {K : Nat} (h1 : 1 ≤ K) (h2 : K ≤ s.size) (he : fol (rSides s) (gX s j, gY s j) K = (gX s j, gY s j)) : K = s.size := by
  rw [(fol_rSides h j K).1] at he
  have e1 := congrArg Prod.fst he
  have e2 := congrArg Prod.snd he
  have := (loop_of h).inj (j + K) (j + 0) e1 e2
  have := mod_add_cancel this
  rw [Nat.zero_mod] at this
  by_cases q : K < s.size
  · rw [Nat.mod_eq_of_lt q] at this
    omega
  · omega
theorem fol_word {s : ByteArray} (h : isO s = true) {j : Nat} (hj : j < s.size) : ∀ k, k < s.size → ltr (rSides s) (fol (rSides s) (gX s j, gY s j) k) = bt (rotF s j) k := by
  intro k hk
  obtain ⟨a, b⟩ := fol_rSides h j k
  obtain ⟨c, d⟩ := gD_rot h hj hk
  rw [a, b, c, lc_cd d]
theorem S_cyc {n : Nat} {f : Nat → Int} (hp : ∀ i, f (i + n) = f i) : ∀ k, S n (fun i => f (k + i)) = S n f
  | 0 => by simp only [Nat.zero_add]
  | k + 1 => by
    rw [← S_cyc hp k]
    have a := S_head n fun i => f (k + i)
    rw [S_succ, hp, Nat.add_zero] at a
    have : S n (fun i => f (k + 1 + i)) = S n (fun i => f (k + (i + 1))) := S_congr fun i _ => by rw [show k + 1 + i = k + (i + 1) by omega]
    omega
theorem gW_rot {s : ByteArray} (h : isO s = true) {k : Nat} (hk : k < s.size) (x y : Int) : gW (rotF s k) x y = gW s (x + gX s k) (y + gY s k) := by
  have L := loop_of h
  have hz := rot_size s (Nat.le_of_lt hk)
  unfold gW W
  rw [hz, ← S_cyc (f := wi (gX s) (gY s) (gD s) (x + gX s k) (y + gY s k)) (fun i => by unfold wi; rw [L.px, L.py, L.pd]) k]
  refine S_congr fun i hi => ?_
  obtain ⟨a, b, c⟩ := gX_lt (s := rotF s k) (i := i) (by omega)
  obtain ⟨d, e⟩ := rot_sum h hk i (by omega)
  obtain ⟨f, -⟩ := gD_rot h hk hi
  unfold wi
  rw [a, b, c, d, e, ← f]
  by_cases h1 : gD s (k + i) = 1
  · rw [h1]
    simp only [true_and, show ¬ (1 = 3) by decide, false_and, if_false]
    by_cases q : x < gX s (k + i) - gX s k ∧ gY s (k + i) - gY s k = y
    · rw [if_pos q, if_pos (by omega)]
    · rw [if_neg q, if_neg (by omega)]
  · by_cases h3 : gD s (k + i) = 3
    · rw [h3]
      simp only [true_and, show ¬ (3 = 1) by decide, false_and, if_false]
      by_cases q : x < gX s (k + i) - gX s k ∧ gY s (k + i) - gY s k = y + 1
      · rw [if_pos q, if_pos (by omega)]
      · rw [if_neg q, if_neg (by omega)]
    · simp [h1, h3]
theorem rcl_rot {s : ByteArray} (h : isO s = true) {k : Nat} (hk : k < s.size) : (rcl (rotF s k)).map (fun p => (p.1 + gX s k, p.2 + gY s k)) = rcl s := by
  have h' := (rot_O h hk).1
  have hn : ((rcl (rotF s k)).map (fun p => (p.1 + gX s k, p.2 + gY s k))).Nodup := by
    unfold List.Nodup
    rw [List.pairwise_map]
    refine (cells_nodup (rotF s k)).imp fun {a b} hab he => hab ?_
    simp only [Prod.mk.injEq] at he
    exact Prod.ext (by omega) (by omega)
  have hp : ((rcl (rotF s k)).map (fun p => (p.1 + gX s k, p.2 + gY s k))).Perm (rcl s) := (List.perm_ext_iff_of_nodup hn (cells_nodup s)).2 fun ⟨x, y⟩ => by
    rw [mem_cells h, List.mem_map]
    constructor
    · rintro ⟨⟨a, b⟩, h1, h2⟩
      rw [mem_cells h', gW_rot h hk] at h1
      simp only [Prod.mk.injEq] at h2
      rw [← h2.1, ← h2.2]
      exact h1
    · intro hw
      refine ⟨(x - gX s k, y - gY s k), ?_, by simp⟩
      rw [mem_cells h', gW_rot h hk, Int.sub_add_cancel, Int.sub_add_cancel]
      exact hw
  refine List.Perm.eq_of_pairwise (le := fun p q => ltP q p = false) (fun a b _ _ e1 e2 => ?_) ?_ (rcl_pw s) hp
  · unfold ltP at e1 e2
    simp at e1 e2
    have e3 : a.1 = b.1 := by omega
    have e4 : a.2 = b.2 := by omega
    exact Prod.ext e3 e4
  · rw [List.pairwise_map]
    refine (rcl_pw (rotF s k)).imp fun {a b} hab => ?_
    unfold ltP at hab ⊢
    simp at hab ⊢
    omega
theorem rot_cells {s : ByteArray} (h : isO s = true) {k : Nat} (hk : k < s.size) : (rcl (rotF s k)).length = (rcl s).length ∧ ∀ i, i < (rcl s).length → pX (rcl (rotF s k)) i + sumx s k = pX (rcl s) i ∧ pY (rcl (rotF s k)) i + sumy s k = pY (rcl s) i := by
  have e := rcl_rot h hk
  have hl : (rcl (rotF s k)).length = (rcl s).length := by rw [← e, List.length_map]
  refine ⟨hl, fun i hi => ?_⟩
  have hi' : i < (rcl (rotF s k)).length := by omega
  obtain ⟨a, b, -⟩ := gX_lt hk
  rw [← a, ← b]
  unfold pX pY
  rw [← e]
  simp only [List.getD_eq_getElem?_getD, List.getElem?_map, List.getElem?_eq_getElem hi', Option.map_some, Option.getD_some]
  refine ⟨?_, ?_⟩ <;> first | rfl | trivial
end Go.Proofs.YtpfenoioeajkmaaDoor.L
end

section
set_option linter.unusedVariables false
set_option linter.unusedSimpArgs false
namespace Go.Proofs.YtpfenoioeajkmaaDoor.X
open Go.RowKit Go.Proofs.YtpfenoioeajkmaaDoorW.PrintWords Go.Proofs.YtpfenoioeajkmaaDoorW.PrintLast Go.Proofs.YtpfenoioeajkmaaDoorW.PrintMore Go.Proofs.YtpfenoioeajkmaaDoor.L Go.Proofs.YtpfenoioeajkmaaDoor.G
theorem wlB_bt {E : List Side} {p : Int × Int} {K i : Nat} (hi : i < K) (hl : isL (ltr E (fol E p i))) : bt (wlB E p K) i = ltr E (fol E p i) := by
  have hs : i < (wlB E p K).size := by rw [wlB_size]; exact hi
  rw [← bt_at (wlB E p K) i (by simpa using hs)]
  have e : (wlB E p K)[i]'hs = (ltr E (fol E p i)).toNat.toUInt8 := by
    show (wlB E p K).data[i]'hs = _
    simp [wlB, wl]
  show (((wlB E p K)[i]'hs).toNat : Int) = _
  rw [e]
  unfold isL at hl
  rcases hl with e | e | e | e <;> rw [e] <;> rfl
theorem round_out {s : ByteArray} (h : isO s = true) : OutR (rSides s) (pX (rcl s) 0, pY (rcl s) 0) s.size (firstTo s s.size) 0 := by
  obtain ⟨hpos, j, hj, e1, e2, e3⟩ := first_corner h
  have hk := rSides_keys h
  have hl := rSides_length h
  have h24 := isW_le (isO_W h)
  have hp : (gX s j, gY s j) = (pX (rcl s) 0, pY (rcl s) 0) := by rw [e1, e2]
  rw [← hp]
  obtain ⟨K, k1, k2, k3, k4, k5⟩ := come_back (E := rSides s) rfl hk (p := (gX s j, gY s j)) (c := lc (gD s j)) ((mem_rSides h _ _).2 ⟨j, hj, rfl, rfl, rfl⟩)
  have hK := back_at h j k1 (by omega) k3
  subst hK
  refine ⟨fun hn => absurd hk hn, fun _ => ⟨k1, k2, k3, k4, k5⟩, fun _ hlt => by omega, fun _ _ h2 => by omega, fun _ _ _ => ⟨?_, rfl⟩⟩
  have e : wlB (rSides s) (gX s j, gY s j) s.size = rotF s j := by
    have hz := rot_size s (Nat.le_of_lt hj)
    refine bytes_ext (by rw [wlB_size, hz]) fun i hi => ?_
    rw [wlB_size] at hi
    obtain ⟨c, _, hc, he⟩ := k5 i
    rw [wlB_bt hi (by rw [he]; exact hc), fol_word h hj i hi]
  rw [e, first_rot s hj]
set_option maxHeartbeats 8000000 in
set_option maxRecDepth 100000 in
theorem Round_no (a s : ByteArray) (k : Int) (w : World) (hs : s.size ≤ 1000) (ht : ∀ w, Calls Tryd.prog 18 #[.string a] w fun e w' => e = .returned (.string s) ∧ Below w.heap.size w w') (h : isO s = false) :
    Calls Tryd.prog 16 #[.string a, .int .i64 k] w fun e w' => e = .returned (.bool true) ∧ Below w.heap.size w w' := by
  have HT := Lib.hid ht
  have HC := Lib.hid (Cells_no hs h)
  clear ht h hs
  go_enter Tryd.func16, Tryd.ntmps16
  go_wp2_with fail
  refine (HT.out _).mono ?_
  rintro e w1 ⟨rfl, hb1⟩
  have H1 := Lib.hid ((Below.refl w.heap.size w).trans (hb1.mono (Below.refl w.heap.size w).size))
  clear hb1
  go_wp2_with fail
  refine (HC.out _).mono ?_
  rintro e w2 ⟨rfl, hb2⟩
  have H2 := Lib.hid (H1.out.trans (hb2.mono H1.out.size))
  clear hb2
  go_wp2_with fail
  refine (awake_ok _).mono ?_
  rintro e w3 ⟨rfl, hb3⟩
  have H3 := Lib.hid (H2.out.trans (hb3.mono H2.out.size))
  clear hb3
  go_wp2
  go_ret
  exact ⟨rfl, H3.out⟩
theorem Sl.open {w : World} {A : Option Addr} {n c : Nat} {x y : Nat → Int} (h : Sl w A n c x y) (h0 : 0 < n) : ∃ b off, A = some ⟨b, off, none⟩ ∧ n ≤ c ∧ Pts w b off n x y := by
  rcases h with ⟨_, h2, _⟩ | ⟨b, off, h1, h4, h3⟩ | ⟨_, _, h2⟩
  · omega
  · exact ⟨b, off, h1, h4, h3⟩
  · omega
theorem goodL_many {x y : Nat → Int} {n : Nat} (h : 30 < n) : goodL x y n = false := by
  unfold goodL
  rw [decide_eq_false (show ¬ n ≤ 30 by omega), Bool.and_false, Bool.false_and]
set_option maxHeartbeats 16000000 in
set_option maxRecDepth 100000 in
theorem Round_yes (s : ByteArray) (k : Int) (kk : Nat) (w : World) (h : isO s = true) (hK : kk < s.size) (hk : wrap64 ((IntKind.u64.wrap k).tmod s.size) = kk) :
    Calls Tryd.prog 16 #[.string s, .int .i64 k] w fun e w' => e = .returned (.bool true) ∧ Below w.heap.size w w' := by
  have hs24 := isW_le (isO_W h)
  have h4 := isO_4 h
  have HO := Lib.hid h
  have HT := Lib.hid (text_ok (isO_W h))
  have HC := Lib.hid (Cells_yes h)
  have HI := Lib.hid (ris_calls s (by omega))
  rw [h] at HI
  have HF := Lib.hid (fun w => PB.moulds_First.calls s _ _ w (First_O h))
  have HD := Lib.hid (Cells_yes (rot_O h hK).1)
  have hcutK : (s.extract 0 kk).size = kk := by rw [ByteArray.size_extract]; omega
  have HSUM := Lib.hid (fun w => Sum_calls (s.extract 0 kk) w (by omega))
  rw [hcutK, sumx_cut s 0 kk (by omega) kk (by omega), rsumy_cut s 0 kk (by omega) kk (by omega), Nat.zero_add, show sumx s 0 = 0 from rfl, show rsumy s 0 = 0 from rfl, Int.sub_zero, Int.sub_zero, rsumy_eq (isO_W h) kk (by omega)] at HSUM
  have HRC := Lib.hid (rot_cells h hK)
  have HBX := Lib.hid (cell_box h)
  have hsx := sumx_le s kk
  have hsy := sumy_le s kk
  have hsz0 : (s.size : Int) ≠ 0 := by omega
  have hs0 : s.size ≠ 0 := by omega
  have hkle : kk ≤ s.size := by omega
  have hsz : (9223372036854775807 < s.size) = False := by simp; omega
  have HSZ := Lib.hid hsz
  clear h hcutK hsz
  go_enter Tryd.func16, Tryd.ntmps16
  go_wp2_with fail
  refine (HT.out _).mono ?_
  rintro e w1 ⟨rfl, hb1⟩
  have H1 := Lib.hid ((Below.refl w.heap.size w).trans (hb1.mono (Below.refl w.heap.size w).size))
  clear hb1
  go_wp2_with fail
  refine (HC.out _).mono ?_
  rintro e w2 ⟨⟨v, rfl, hw2⟩, hb2⟩
  have H2 := Lib.hid (H1.out.trans (hb2.mono H1.out.size))
  obtain ⟨A, c, rfl, hA⟩ := sl_list hw2
  have hcap : c ≤ 9223372036854775807 := by
    obtain ⟨g, cap, cur, e, -, -, -, hm, -⟩ := own_block hw2 (cells_pos HO.out)
    injection e with _ _ e
    subst e
    exact hm
  have HS := Lib.hid hA
  clear hb2 hA hw2 HT
  have HL := Lib.hid (cells_le HO.out)
  have HP := Lib.hid (cells_pos HO.out)
  have HGD := Lib.hid (good_rcl HO.out)
  have HRO := Lib.hid (round_out HO.out)
  go_wp2_with fail
  refine (HI.out _).mono ?_
  rintro e w3 ⟨rfl, hb3⟩
  have H3 := Lib.hid (H2.out.trans (hb3.mono H2.out.size))
  have HS3 := Lib.hid (HS.out.later hb3)
  clear hb3 HS
  go_wp2_with fail
  refine (list_calls A _ c _ _ w3 HS3.out hcap).mono ?_
  rintro e w4 ⟨⟨A', c', rfl, hS4⟩, hb4⟩
  have H4 := Lib.hid (H3.out.trans (hb4.mono H3.out.size))
  have HS4 := Lib.hid (HS3.out.later hb4)
  have HL4 := Lib.hid hS4
  clear hb4 HS3 hS4
  by_cases hbig : 30 < (rcl s).length
  · have hbigI : (30 : Int) < ((rcl s).length : Int) := by omega
    have HBIG := Lib.hid hbig
    clear hbig
    go_wp2_with fail
    refine (Outline_bad A' _ c' _ _ w4 HL4.out (by unfold mnN; split <;> omega) (by rw [goodL_mn]; exact goodL_many HBIG.out)).mono ?_
    rintro e w5 ⟨rfl, hb5⟩
    have H5 := Lib.hid (H4.out.trans (hb5.mono H4.out.size))
    clear hb5
    go_wp2_with fail
    refine (HF.out _).mono ?_
    rintro e w6 ⟨rfl, hb6⟩
    have H6 := Lib.hid (H5.out.trans (hb6.mono H5.out.size))
    clear hb6
    have hsz := HSZ.out
    go_wp2_with fail
    refine start_ (n := 13) (S := fun w' => True) (ds := [7]) #[false, false, false, false, false, false, false, false, false, false, false, false, false] (by kernel_rfl) rfl rfl trivial (fun hHeld => ?_)
    refine pure_ (i := 0) (N := (some 53)) (v := ?_) (a' := ?_) #[true, false, false, false, false, false, false, false, false, false, false, false, false] rfl rfl (by kernel_rfl) (fun _ _ _ h => h) (Or.inl ⟨by rfl, ?_⟩) ?_ ?_
    rotate_left
    · intro w'; go_simp; first | done | with_reducible rfl
    rotate_left
    · simp only [Act.put, List.setIfInBounds_toArray, List.set_cons_zero, List.set_cons_succ, i64_w, i32_w]; rfl
    refine pure_ (i := 1) (N := (some 54)) (v := ?_) (a' := ?_) #[true, true, false, false, false, false, false, false, false, false, false, false, false] rfl rfl (by kernel_rfl) (fun _ _ _ h => h) (Or.inl ⟨by rfl, ?_⟩) ?_ ?_
    rotate_left
    · intro w'; go_simp; first | done | with_reducible rfl
    rotate_left
    · simp only [Act.put, List.setIfInBounds_toArray, List.set_cons_zero, List.set_cons_succ, i64_w, i32_w]; rfl
    refine pure_ (i := 2) (N := (some 55)) (v := ?_) (a' := ?_) #[true, true, true, false, false, false, false, false, false, false, false, false, false] rfl rfl (by kernel_rfl) (fun _ _ _ h => h) (Or.inl ⟨by rfl, ?_⟩) ?_ ?_
    rotate_left
    · intro w'; go_simp; first | done | with_reducible rfl
    rotate_left
    · simp only [Act.put, List.setIfInBounds_toArray, List.set_cons_zero, List.set_cons_succ, i64_w, i32_w]; rfl
    refine pure_ (i := 3) (N := (some 56)) (v := ?_) (a' := ?_) #[true, true, true, true, false, false, false, false, false, false, false, false, false] rfl rfl (by kernel_rfl) (fun _ _ _ h => h) (Or.inl ⟨by rfl, ?_⟩) ?_ ?_
    rotate_left
    · intro w'; go_simp; first | done | with_reducible rfl
    rotate_left
    · simp only [Act.put, List.setIfInBounds_toArray, List.set_cons_zero, List.set_cons_succ, i64_w, i32_w]; rfl
    refine pure_ (i := 4) (N := (some 57)) (v := ?_) (a' := ?_) #[true, true, true, true, true, false, false, false, false, false, false, false, false] rfl rfl (by kernel_rfl) (fun _ _ _ h => h) (Or.inl ⟨by rfl, ?_⟩) ?_ ?_
    rotate_left
    · intro w'; go_simp; first | done | with_reducible rfl
    rotate_left
    · simp only [Act.put, List.setIfInBounds_toArray, List.set_cons_zero, List.set_cons_succ, i64_w, i32_w]; rfl
    refine pure_ (i := 5) (N := (some 58)) (v := ?_) (a' := ?_) #[true, true, true, true, true, true, false, false, false, false, false, false, false] rfl rfl (by kernel_rfl) (fun _ _ _ h => h) (Or.inl ⟨by rfl, ?_⟩) ?_ ?_
    rotate_left
    · intro w'; go_simp; first | done | with_reducible rfl
    rotate_left
    · simp only [Act.put, List.setIfInBounds_toArray, List.set_cons_zero, List.set_cons_succ, i64_w, i32_w]; rfl
    refine pure_ (i := 6) (N := (some 59)) (v := ?_) (a' := ?_) #[true, true, true, true, true, true, true, false, false, false, false, false, false] rfl rfl (by kernel_rfl) (fun _ _ _ h => h) (Or.inl ⟨by rfl, ?_⟩) ?_ ?_
    rotate_left
    · intro w'; go_simp; first | done | with_reducible rfl
    rotate_left
    · simp only [Act.put, List.setIfInBounds_toArray, List.set_cons_zero, List.set_cons_succ, i64_w, i32_w]; rfl
    refine last_ (i := 7) (N := (some 60)) #[true, true, true, true, true, true, true, true, false, false, false, false, false] rfl rfl (by kernel_rfl) (by decide) (fun K hK => ?_)
    refine goes_ Tryd.func48 (by kernel_rfl) rfl #[.string (rotF s kk)] (by rfl) rfl rfl (by (try simp only [List.map_toArray, List.map_cons, List.map_nil]); first | done | rfl) ?_
    refine (HD.out _).mono ?_
    rintro e w7 ⟨⟨v7, rfl, hw7⟩, hb7⟩
    refine ⟨_, rfl, ?_⟩
    refine hK.out _ _ ?_
    clear hK K
    refine norm_ (a' := ?_) ?_ ?_
    rotate_left
    · show Act.put _ (some 60) _ = _; simp only [Act.put, List.setIfInBounds_toArray, List.set_cons_zero, List.set_cons_succ, i64_w, i32_w]; rfl
    refine pure_ (i := 8) (N := (some 52)) (v := ?_) (a' := ?_) #[true, true, true, true, true, true, true, true, true, false, false, false, false] rfl rfl (by kernel_rfl) (fun _ _ _ h => h) (Or.inl ⟨by rfl, ?_⟩) ?_ ?_
    rotate_left
    · intro w'; go_simp; first | done | with_reducible rfl
    rotate_left
    · simp only [Act.put, List.setIfInBounds_toArray, List.set_cons_zero, List.set_cons_succ, i64_w, i32_w]; rfl
    refine pure_ (i := 9) (N := (some 61)) (v := ?_) (a' := ?_) #[true, true, true, true, true, true, true, true, true, true, false, false, false] rfl rfl (by kernel_rfl) (fun _ _ _ h => h) (Or.inl ⟨by rfl, ?_⟩) ?_ ?_
    rotate_left
    · intro w'; go_simp; first | done | with_reducible rfl
    rotate_left
    · simp only [Act.put, List.setIfInBounds_toArray, List.set_cons_zero, List.set_cons_succ, i64_w, i32_w]; rfl
    refine pure_ (i := 10) (N := (some 62)) (v := ?_) (a' := ?_) #[true, true, true, true, true, true, true, true, true, true, true, false, false] rfl rfl (by kernel_rfl) (fun _ _ _ h => h) (Or.inl ⟨by rfl, ?_⟩) ?_ ?_
    rotate_left
    · intro w'; go_simp; first | done | with_reducible rfl
    rotate_left
    · simp only [Act.put, List.setIfInBounds_toArray, List.set_cons_zero, List.set_cons_succ, i64_w, i32_w]; rfl
    refine pure_ (i := 11) (N := (some 11)) (v := ?_) (a' := ?_) #[true, true, true, true, true, true, true, true, true, true, true, true, false] rfl rfl (by kernel_rfl) (fun _ _ _ h => h) (Or.inl ⟨by rfl, ?_⟩) ?_ ?_
    rotate_left
    · intro w'; go_simp; first | done | with_reducible rfl
    rotate_left
    · simp only [Act.put, List.setIfInBounds_toArray, List.set_cons_zero, List.set_cons_succ, i64_w, i32_w]; rfl
    refine pure_ (i := 12) (N := (some 12)) (v := ?_) (a' := ?_) #[true, true, true, true, true, true, true, true, true, true, true, true, true] rfl rfl (by kernel_rfl) (fun _ _ _ h => h) (Or.inl ⟨by rfl, ?_⟩) ?_ ?_
    rotate_left
    · intro w'; go_simp; first | done | with_reducible rfl
    rotate_left
    · simp only [Act.put, List.setIfInBounds_toArray, List.set_cons_zero, List.set_cons_succ, i64_w, i32_w]; rfl
    refine done_ (by kernel_rfl) ?_
    have H7 := Lib.hid (H6.out.drew.trans (hb7.mono H6.out.drew.size))
    have HW7 := Lib.hid hw7
    have HB7 := Lib.hid ((Below.refl w6.heap.size w6).drew.trans hb7)
    clear hb7 hw7 hHeld
    obtain ⟨A7, c7, rfl, -⟩ := sl_list HW7.out
    go_wp2_with fail
    refine (awake_ok _).mono ?_
    rintro e w8 ⟨rfl, hb8⟩
    have H8 := Lib.hid (H7.out.trans (hb8.mono H7.out.size))
    clear hb8
    go_wp2
    go_ret
    exact ⟨rfl, H8.out⟩
  · have hbigI : ¬ (30 : Int) < ((rcl s).length : Int) := by omega
    have hmn : mnN (rcl s).length 33 = (rcl s).length := mn_of_good (HGD.out (by omega))
    rw [hmn] at HL4 ⊢
    have HBIG := Lib.hid (show (rcl s).length ≤ 30 by omega)
    clear hbig hmn
    go_wp2_with fail
    refine (Outline_calls A' _ c' _ _ w4 HL4.out (HGD.out HBIG.out) _ _ _ HRO.out).mono ?_
    rintro e w5 ⟨rfl, hb5⟩
    have H5 := Lib.hid (H4.out.trans (hb5.mono H4.out.size))
    have HS5 := Lib.hid (HS4.out.later hb5)
    clear hb5
    go_wp2_with fail
    refine (HF.out _).mono ?_
    rintro e w6 ⟨rfl, hb6⟩
    have H6 := Lib.hid (H5.out.trans (hb6.mono H5.out.size))
    have HS6 := Lib.hid (HS5.out.later hb6)
    clear hb6 HS5 HS4 HL4
    have hsz := HSZ.out
    go_wp2_with fail
    refine start_ (n := 13) (S := fun w' => True) (ds := [7]) #[false, false, false, false, false, false, false, false, false, false, false, false, false] (by kernel_rfl) rfl rfl trivial (fun hHeld => ?_)
    refine pure_ (i := 0) (N := (some 53)) (v := ?_) (a' := ?_) #[true, false, false, false, false, false, false, false, false, false, false, false, false] rfl rfl (by kernel_rfl) (fun _ _ _ h => h) (Or.inl ⟨by rfl, ?_⟩) ?_ ?_
    rotate_left
    · intro w'; go_simp; first | done | with_reducible rfl
    rotate_left
    · simp only [Act.put, List.setIfInBounds_toArray, List.set_cons_zero, List.set_cons_succ, i64_w, i32_w]; rfl
    refine pure_ (i := 1) (N := (some 54)) (v := ?_) (a' := ?_) #[true, true, false, false, false, false, false, false, false, false, false, false, false] rfl rfl (by kernel_rfl) (fun _ _ _ h => h) (Or.inl ⟨by rfl, ?_⟩) ?_ ?_
    rotate_left
    · intro w'; go_simp; first | done | with_reducible rfl
    rotate_left
    · simp only [Act.put, List.setIfInBounds_toArray, List.set_cons_zero, List.set_cons_succ, i64_w, i32_w]; rfl
    refine pure_ (i := 2) (N := (some 55)) (v := ?_) (a' := ?_) #[true, true, true, false, false, false, false, false, false, false, false, false, false] rfl rfl (by kernel_rfl) (fun _ _ _ h => h) (Or.inl ⟨by rfl, ?_⟩) ?_ ?_
    rotate_left
    · intro w'; go_simp; first | done | with_reducible rfl
    rotate_left
    · simp only [Act.put, List.setIfInBounds_toArray, List.set_cons_zero, List.set_cons_succ, i64_w, i32_w]; rfl
    refine pure_ (i := 3) (N := (some 56)) (v := ?_) (a' := ?_) #[true, true, true, true, false, false, false, false, false, false, false, false, false] rfl rfl (by kernel_rfl) (fun _ _ _ h => h) (Or.inl ⟨by rfl, ?_⟩) ?_ ?_
    rotate_left
    · intro w'; go_simp; first | done | with_reducible rfl
    rotate_left
    · simp only [Act.put, List.setIfInBounds_toArray, List.set_cons_zero, List.set_cons_succ, i64_w, i32_w]; rfl
    refine pure_ (i := 4) (N := (some 57)) (v := ?_) (a' := ?_) #[true, true, true, true, true, false, false, false, false, false, false, false, false] rfl rfl (by kernel_rfl) (fun _ _ _ h => h) (Or.inl ⟨by rfl, ?_⟩) ?_ ?_
    rotate_left
    · intro w'; go_simp; first | done | with_reducible rfl
    rotate_left
    · simp only [Act.put, List.setIfInBounds_toArray, List.set_cons_zero, List.set_cons_succ, i64_w, i32_w]; rfl
    refine pure_ (i := 5) (N := (some 58)) (v := ?_) (a' := ?_) #[true, true, true, true, true, true, false, false, false, false, false, false, false] rfl rfl (by kernel_rfl) (fun _ _ _ h => h) (Or.inl ⟨by rfl, ?_⟩) ?_ ?_
    rotate_left
    · intro w'; go_simp; first | done | with_reducible rfl
    rotate_left
    · simp only [Act.put, List.setIfInBounds_toArray, List.set_cons_zero, List.set_cons_succ, i64_w, i32_w]; rfl
    refine pure_ (i := 6) (N := (some 59)) (v := ?_) (a' := ?_) #[true, true, true, true, true, true, true, false, false, false, false, false, false] rfl rfl (by kernel_rfl) (fun _ _ _ h => h) (Or.inl ⟨by rfl, ?_⟩) ?_ ?_
    rotate_left
    · intro w'; go_simp; first | done | with_reducible rfl
    rotate_left
    · simp only [Act.put, List.setIfInBounds_toArray, List.set_cons_zero, List.set_cons_succ, i64_w, i32_w]; rfl
    refine last_ (i := 7) (N := (some 60)) #[true, true, true, true, true, true, true, true, false, false, false, false, false] rfl rfl (by kernel_rfl) (by decide) (fun K hK => ?_)
    refine goes_ Tryd.func48 (by kernel_rfl) rfl #[.string (rotF s kk)] (by rfl) rfl rfl (by (try simp only [List.map_toArray, List.map_cons, List.map_nil]); first | done | rfl) ?_
    refine (HD.out _).mono ?_
    rintro e w7 ⟨⟨v7, rfl, hw7⟩, hb7⟩
    refine ⟨_, rfl, ?_⟩
    refine hK.out _ _ ?_
    clear hK K
    refine norm_ (a' := ?_) ?_ ?_
    rotate_left
    · show Act.put _ (some 60) _ = _; simp only [Act.put, List.setIfInBounds_toArray, List.set_cons_zero, List.set_cons_succ, i64_w, i32_w]; rfl
    refine pure_ (i := 8) (N := (some 52)) (v := ?_) (a' := ?_) #[true, true, true, true, true, true, true, true, true, false, false, false, false] rfl rfl (by kernel_rfl) (fun _ _ _ h => h) (Or.inl ⟨by rfl, ?_⟩) ?_ ?_
    rotate_left
    · intro w'; go_simp; first | done | with_reducible rfl
    rotate_left
    · simp only [Act.put, List.setIfInBounds_toArray, List.set_cons_zero, List.set_cons_succ, i64_w, i32_w]; rfl
    refine pure_ (i := 9) (N := (some 61)) (v := ?_) (a' := ?_) #[true, true, true, true, true, true, true, true, true, true, false, false, false] rfl rfl (by kernel_rfl) (fun _ _ _ h => h) (Or.inl ⟨by rfl, ?_⟩) ?_ ?_
    rotate_left
    · intro w'; go_simp; first | done | with_reducible rfl
    rotate_left
    · simp only [Act.put, List.setIfInBounds_toArray, List.set_cons_zero, List.set_cons_succ, i64_w, i32_w]; rfl
    refine pure_ (i := 10) (N := (some 62)) (v := ?_) (a' := ?_) #[true, true, true, true, true, true, true, true, true, true, true, false, false] rfl rfl (by kernel_rfl) (fun _ _ _ h => h) (Or.inl ⟨by rfl, ?_⟩) ?_ ?_
    rotate_left
    · intro w'; go_simp; first | done | with_reducible rfl
    rotate_left
    · simp only [Act.put, List.setIfInBounds_toArray, List.set_cons_zero, List.set_cons_succ, i64_w, i32_w]; rfl
    refine pure_ (i := 11) (N := (some 11)) (v := ?_) (a' := ?_) #[true, true, true, true, true, true, true, true, true, true, true, true, false] rfl rfl (by kernel_rfl) (fun _ _ _ h => h) (Or.inl ⟨by rfl, ?_⟩) ?_ ?_
    rotate_left
    · intro w'; go_simp; first | done | with_reducible rfl
    rotate_left
    · simp only [Act.put, List.setIfInBounds_toArray, List.set_cons_zero, List.set_cons_succ, i64_w, i32_w]; rfl
    refine pure_ (i := 12) (N := (some 12)) (v := ?_) (a' := ?_) #[true, true, true, true, true, true, true, true, true, true, true, true, true] rfl rfl (by kernel_rfl) (fun _ _ _ h => h) (Or.inl ⟨by rfl, ?_⟩) ?_ ?_
    rotate_left
    · intro w'; go_simp; first | done | with_reducible rfl
    rotate_left
    · simp only [Act.put, List.setIfInBounds_toArray, List.set_cons_zero, List.set_cons_succ, i64_w, i32_w]; rfl
    refine done_ (by kernel_rfl) ?_
    have H7 := Lib.hid (H6.out.drew.trans (hb7.mono H6.out.drew.size))
    have HW7 := Lib.hid hw7
    have HB7 := Lib.hid ((Below.refl w6.heap.size w6).drew.trans hb7)
    clear hb7 hw7 hHeld
    have HS7 := Lib.hid (HS6.out.later HB7.out)
    obtain ⟨A7, c7, rfl, hs7⟩ := sl_list HW7.out
    rw [HRC.out.1] at hs7 ⊢
    have HD7 := Lib.hid hs7
    clear hs7 hsz HS6
    have hp0 : ((((rcl s).length : Nat) : Int) == 0) = false := by
      have := HP.out
      rw [beq_eq_false_iff_ne]
      omega
    go_wp2_with fail
    refine (HSUM.out _).mono ?_
    rintro e w8 ⟨rfl, hb8⟩
    have H8 := Lib.hid (H7.out.trans (hb8.mono H7.out.size))
    have HS8 := Lib.hid (HS7.out.later hb8)
    have HD8 := Lib.hid (HD7.out.later hb8)
    clear hb8 HS7 HD7
    have HXY := Lib.hid HRC.out.2
    obtain ⟨sx, hsx2⟩ : ∃ sx, sumx s kk = sx := ⟨_, rfl⟩
    obtain ⟨sy, hsy2⟩ : ∃ sy, sumy s kk = sy := ⟨_, rfl⟩
    rw [hsx2, hsy2] at HXY ⊢
    unfold ptV
    clear hsx2 hsy2 hsx hsy
    go_wp2_with fail
    have hb9 := below_one (w := w8) (.cells #[.int .i64 sx, .int .i64 sy] 29)
    have hc9 := two_cells w8 29 (.int .i64 sx) (.int .i64 sy)
    have hl9 : w8.heap.size < (w8.alloc (.cells #[.int .i64 sx, .int .i64 sy] 29)).heap.size := by simp
    obtain ⟨w9, hw9⟩ : ∃ w9, w9 = w8.alloc (.cells #[.int .i64 sx, .int .i64 sy] 29) := ⟨_, rfl⟩
    rw [← hw9] at hb9 hc9 hl9 ⊢
    have H9 := Lib.hid (H8.out.trans (hb9.mono H8.out.size))
    have HS9 := Lib.hid (HS8.out.later hb9)
    have HD9 := Lib.hid (HD8.out.later hb9)
    have HC9 := Lib.hid hc9
    have HL9 := Lib.hid hl9
    clear hw9 hb9 hc9 hl9 HS8 HD8
    generalize hn : (rcl s).length = n at *
    have HB := Lib.hid (Below.refl w9.heap.size w9)
    go_loopw [108] (fun q wr => ∃ i : Nat, i ≤ n ∧ q = .int .i64 i ∧ Hid (Below w9.heap.size w9 wr)) (fun q _ => n - (intOf q).toNat)
    case atStart => exact ⟨0, by omega, rfl, HB⟩
    case round =>
      clear HB
      obtain ⟨i, hi, rfl, HB⟩ := hrel
      by_cases hlt : i < n
      · obtain ⟨b1, off1, rfl, hnc1, hP1⟩ := HD9.out.open (by omega)
        obtain ⟨b2, off2, rfl, hnc2, hP2⟩ := HS9.out.open (by omega)
        have g0 := (hP1.later HB.out).c0 i hlt
        have g1 := (hP1.later HB.out).c1 i hlt
        have h0 := (hP2.later HB.out).c0 i hlt
        have h1 := (hP2.later HB.out).c1 i hlt
        have t0 := (HB.out.cell (p := ⟨w8.heap.size, 0, none⟩) HL9.out).trans HC9.out.1
        have t1 := (HB.out.cell (p := ⟨w8.heap.size, 1, none⟩) HL9.out).trans HC9.out.2
        obtain ⟨e0, e1⟩ := HXY.out i hlt
        have hbx := HBX.out i hlt
        obtain ⟨X, hX⟩ : ∃ X, pX (rcl (rotF s kk)) i = X := ⟨_, rfl⟩
        obtain ⟨Y, hY⟩ : ∃ Y, pY (rcl (rotF s kk)) i = Y := ⟨_, rfl⟩
        obtain ⟨U, hU⟩ : ∃ U, pX (rcl s) i = U := ⟨_, rfl⟩
        obtain ⟨V, hV⟩ : ∃ V, pY (rcl s) i = V := ⟨_, rfl⟩
        rw [hX] at g0 e0
        rw [hY] at g1 e1
        rw [hU] at h0 e0 hbx
        rw [hV] at h1 e1 hbx
        have hw0 : wrap64 (X + sx) = U := by rw [e0]; unfold wrap64; omega
        have hw1 : wrap64 (Y + sy) = V := by rw [e1]; unfold wrap64; omega
        have hbA := below_one (w := wr) (.cells #[.int .i64 X, .int .i64 Y] 29)
        have h0' := (hbA.cell (p := ⟨b2, off2 + i * 2, none⟩) (World.block_lt_of_cell? _ _ h0)).trans h0
        have h1' := (hbA.cell (p := ⟨b2, off2 + i * 2 + 1, none⟩) (World.block_lt_of_cell? _ _ h1)).trans h1
        have t0' := (hbA.cell (p := ⟨w8.heap.size, 0, none⟩) (World.block_lt_of_cell? _ _ t0)).trans t0
        have t1' := (hbA.cell (p := ⟨w8.heap.size, 1, none⟩) (World.block_lt_of_cell? _ _ t1)).trans t1
        obtain ⟨d0, d1⟩ := two_cells wr 29 (.int .i64 X) (.int .i64 Y)
        have HB2 := Lib.hid (HB.out.trans (hbA.mono HB.out.size)).drew
        have hnc1' : i < c7 := by omega
        clear hX hY hU hV hP1 hP2 hbA e0 e1 hbx
        go_wp2_with fail
        clear g0 g1 h0 h1 t0 t1
        obtain ⟨w10, hw10⟩ : ∃ w10, w10 = wr.alloc (.cells #[.int .i64 X, .int .i64 Y] 29) := ⟨_, rfl⟩
        rw [← hw10] at h0' h1' t0' t1' d0 d1 HB2 ⊢
        clear hw10
        refine start_ (n := 24) (S := fun w' => w'.cell? ⟨wr.heap.size, 0, none⟩ = some (.int .i64 X) ∧ w'.cell? ⟨wr.heap.size, 1, none⟩ = some (.int .i64 Y) ∧ w'.cell? ⟨w8.heap.size, 0, none⟩ = some (.int .i64 sx) ∧ w'.cell? ⟨w8.heap.size, 1, none⟩ = some (.int .i64 sy) ∧ w'.cell? ⟨b2, off2 + i * 2, none⟩ = some (.int .i64 U) ∧ w'.cell? ⟨b2, off2 + i * 2 + 1, none⟩ = some (.int .i64 V)) (ds := []) #[false, false, false, false, false, false, false, false, false, false, false, false, false, false, false, false, false, false, false, false, false, false, false, false] (by kernel_rfl) rfl rfl ⟨by simpa using d0, by simpa using d1, by simpa using t0', by simpa using t1', by simpa using h0', by simpa using h1'⟩ (fun hHeld => ?_)
        refine pure_ (i := 0) (N := (some 113)) (v := ?_) (a' := ?_) #[true, false, false, false, false, false, false, false, false, false, false, false, false, false, false, false, false, false, false, false, false, false, false, false] rfl rfl (by kernel_rfl) (fun _ _ _ h => h) (Or.inl ⟨by rfl, ?_⟩) ?_ ?_
        rotate_left
        · intro w'; go_simp; first | done | with_reducible rfl
        rotate_left
        · simp only [Act.put, List.setIfInBounds_toArray, List.set_cons_zero, List.set_cons_succ, i64_w, i32_w]; rfl
        refine take_ (i := 1) (N := (some 114)) (v := ?_) (a' := ?_) #[true, true, false, false, false, false, false, false, false, false, false, false, false, false, false, false, false, false, false, false, false, false, false, false] rfl rfl (by kernel_rfl) (fun _ _ _ h => h) (Or.inl ⟨by rfl, ?_⟩) hHeld ?_ ?_
        rotate_left
        · rintro w' ⟨s0, s1, s2, s3, s4, s5⟩; go_simp; first | done | with_reducible rfl
        rotate_left
        · simp only [Act.put, List.setIfInBounds_toArray, List.set_cons_zero, List.set_cons_succ, i64_w, i32_w]; rfl
        refine pure_ (i := 2) (N := (some 115)) (v := ?_) (a' := ?_) #[true, true, true, false, false, false, false, false, false, false, false, false, false, false, false, false, false, false, false, false, false, false, false, false] rfl rfl (by kernel_rfl) (fun _ _ _ h => h) (Or.inl ⟨by rfl, ?_⟩) ?_ ?_
        rotate_left
        · intro w'; go_simp; first | done | with_reducible rfl
        rotate_left
        · simp only [Act.put, List.setIfInBounds_toArray, List.set_cons_zero, List.set_cons_succ, i64_w, i32_w]; rfl
        refine take_ (i := 3) (N := (some 116)) (v := ?_) (a' := ?_) #[true, true, true, true, false, false, false, false, false, false, false, false, false, false, false, false, false, false, false, false, false, false, false, false] rfl rfl (by kernel_rfl) (fun _ _ _ h => h) (Or.inl ⟨by rfl, ?_⟩) hHeld ?_ ?_
        rotate_left
        · rintro w' ⟨s0, s1, s2, s3, s4, s5⟩; go_simp; first | done | with_reducible rfl
        rotate_left
        · simp only [Act.put, List.setIfInBounds_toArray, List.set_cons_zero, List.set_cons_succ, i64_w, i32_w]; rfl
        refine pure_ (i := 4) (N := (some 117)) (v := ?_) (a' := ?_) #[true, true, true, true, true, false, false, false, false, false, false, false, false, false, false, false, false, false, false, false, false, false, false, false] rfl rfl (by kernel_rfl) (fun _ _ _ h => h) (Or.inl ⟨by rfl, ?_⟩) ?_ ?_
        rotate_left
        · intro w'; go_simp; first | done | with_reducible rfl
        rotate_left
        · simp only [Act.put, List.setIfInBounds_toArray, List.set_cons_zero, List.set_cons_succ, i64_w, i32_w]; rfl
        refine pure_ (i := 5) (N := (some 118)) (v := ?_) (a' := ?_) #[true, true, true, true, true, true, false, false, false, false, false, false, false, false, false, false, false, false, false, false, false, false, false, false] rfl rfl (by kernel_rfl) (fun _ _ _ h => h) (Or.inl ⟨by rfl, ?_⟩) ?_ ?_
        rotate_left
        · intro w'; go_simp; first | done | with_reducible rfl
        rotate_left
        · simp only [Act.put, List.setIfInBounds_toArray, List.set_cons_zero, List.set_cons_succ, i64_w, i32_w]; rfl
        refine pure_ (i := 6) (N := (some 119)) (v := ?_) (a' := ?_) #[true, true, true, true, true, true, true, false, false, false, false, false, false, false, false, false, false, false, false, false, false, false, false, false] rfl rfl (by kernel_rfl) (fun _ _ _ h => h) (Or.inl ⟨by rfl, ?_⟩) ?_ ?_
        rotate_left
        · intro w'; go_simp; first | done | with_reducible rfl
        rotate_left
        · simp only [Act.put, List.setIfInBounds_toArray, List.set_cons_zero, List.set_cons_succ, i64_w, i32_w]; rfl
        refine pure_ (i := 7) (N := (some 120)) (v := ?_) (a' := ?_) #[true, true, true, true, true, true, true, true, false, false, false, false, false, false, false, false, false, false, false, false, false, false, false, false] rfl rfl (by kernel_rfl) (fun _ _ _ h => h) (Or.inl ⟨by rfl, ?_⟩) ?_ ?_
        rotate_left
        · intro w'; go_simp; first | done | with_reducible rfl
        rotate_left
        · simp only [Act.put, List.setIfInBounds_toArray, List.set_cons_zero, List.set_cons_succ, i64_w, i32_w]; rfl
        refine pure_ (i := 8) (N := (some 121)) (v := ?_) (a' := ?_) #[true, true, true, true, true, true, true, true, true, false, false, false, false, false, false, false, false, false, false, false, false, false, false, false] rfl rfl (by kernel_rfl) (fun _ _ _ h => h) (Or.inl ⟨by rfl, ?_⟩) ?_ ?_
        rotate_left
        · intro w'; go_simp; first | done | with_reducible rfl
        rotate_left
        · simp only [Act.put, List.setIfInBounds_toArray, List.set_cons_zero, List.set_cons_succ, i64_w, i32_w]; rfl
        refine take_ (i := 9) (N := (some 122)) (v := ?_) (a' := ?_) #[true, true, true, true, true, true, true, true, true, true, false, false, false, false, false, false, false, false, false, false, false, false, false, false] rfl rfl (by kernel_rfl) (fun _ _ _ h => h) (Or.inl ⟨by rfl, ?_⟩) hHeld ?_ ?_
        rotate_left
        · rintro w' ⟨s0, s1, s2, s3, s4, s5⟩; go_simp; first | done | with_reducible rfl
        rotate_left
        · simp only [Act.put, List.setIfInBounds_toArray, List.set_cons_zero, List.set_cons_succ, i64_w, i32_w]; rfl
        refine pure_ (i := 10) (N := (some 123)) (v := (.bool false)) (a' := ?_) #[true, true, true, true, true, true, true, true, true, true, true, false, false, false, false, false, false, false, false, false, false, false, false, false] rfl rfl (by kernel_rfl) (fun _ _ _ h => h) (Or.inl ⟨by rfl, ?_⟩) ?_ ?_
        · intro w'; go_simp; first | done | with_reducible rfl
        rotate_left
        · simp only [Act.put, List.setIfInBounds_toArray, List.set_cons_zero, List.set_cons_succ, i64_w, i32_w]; rfl
        refine pure_ (i := 11) (N := (some 124)) (v := ?_) (a' := ?_) #[true, true, true, true, true, true, true, true, true, true, true, true, false, false, false, false, false, false, false, false, false, false, false, false] rfl rfl (by kernel_rfl) (fun _ _ _ h => h) (Or.inl ⟨by rfl, ?_⟩) ?_ ?_
        rotate_left
        · intro w'; go_simp; first | done | with_reducible rfl
        rotate_left
        · simp only [Act.put, List.setIfInBounds_toArray, List.set_cons_zero, List.set_cons_succ, i64_w, i32_w]; rfl
        refine pure_ (i := 12) (N := (some 125)) (v := ?_) (a' := ?_) #[true, true, true, true, true, true, true, true, true, true, true, true, true, false, false, false, false, false, false, false, false, false, false, false] rfl rfl (by kernel_rfl) (fun _ _ _ h => h) (Or.inl ⟨by rfl, ?_⟩) ?_ ?_
        rotate_left
        · intro w'; go_simp; first | done | with_reducible rfl
        rotate_left
        · simp only [Act.put, List.setIfInBounds_toArray, List.set_cons_zero, List.set_cons_succ, i64_w, i32_w]; rfl
        refine take_ (i := 13) (N := (some 126)) (v := ?_) (a' := ?_) #[true, true, true, true, true, true, true, true, true, true, true, true, true, true, false, false, false, false, false, false, false, false, false, false] rfl rfl (by kernel_rfl) (fun _ _ _ h => h) (Or.inl ⟨by rfl, ?_⟩) hHeld ?_ ?_
        rotate_left
        · rintro w' ⟨s0, s1, s2, s3, s4, s5⟩; go_simp; first | done | with_reducible rfl
        rotate_left
        · simp only [Act.put, List.setIfInBounds_toArray, List.set_cons_zero, List.set_cons_succ, i64_w, i32_w]; rfl
        refine pure_ (i := 14) (N := (some 127)) (v := ?_) (a' := ?_) #[true, true, true, true, true, true, true, true, true, true, true, true, true, true, true, false, false, false, false, false, false, false, false, false] rfl rfl (by kernel_rfl) (fun _ _ _ h => h) (Or.inl ⟨by rfl, ?_⟩) ?_ ?_
        rotate_left
        · intro w'; go_simp; first | done | with_reducible rfl
        rotate_left
        · simp only [Act.put, List.setIfInBounds_toArray, List.set_cons_zero, List.set_cons_succ, i64_w, i32_w]; rfl
        refine take_ (i := 15) (N := (some 128)) (v := ?_) (a' := ?_) #[true, true, true, true, true, true, true, true, true, true, true, true, true, true, true, true, false, false, false, false, false, false, false, false] rfl rfl (by kernel_rfl) (fun _ _ _ h => h) (Or.inl ⟨by rfl, ?_⟩) hHeld ?_ ?_
        rotate_left
        · rintro w' ⟨s0, s1, s2, s3, s4, s5⟩; go_simp; first | done | with_reducible rfl
        rotate_left
        · simp only [Act.put, List.setIfInBounds_toArray, List.set_cons_zero, List.set_cons_succ, i64_w, i32_w]; rfl
        refine pure_ (i := 16) (N := (some 129)) (v := ?_) (a' := ?_) #[true, true, true, true, true, true, true, true, true, true, true, true, true, true, true, true, true, false, false, false, false, false, false, false] rfl rfl (by kernel_rfl) (fun _ _ _ h => h) (Or.inl ⟨by rfl, ?_⟩) ?_ ?_
        rotate_left
        · intro w'; go_simp; first | done | with_reducible rfl
        rotate_left
        · simp only [Act.put, List.setIfInBounds_toArray, List.set_cons_zero, List.set_cons_succ, i64_w, i32_w]; rfl
        refine pure_ (i := 17) (N := (some 130)) (v := ?_) (a' := ?_) #[true, true, true, true, true, true, true, true, true, true, true, true, true, true, true, true, true, true, false, false, false, false, false, false] rfl rfl (by kernel_rfl) (fun _ _ _ h => h) (Or.inl ⟨by rfl, ?_⟩) ?_ ?_
        rotate_left
        · intro w'; go_simp; first | done | with_reducible rfl
        rotate_left
        · simp only [Act.put, List.setIfInBounds_toArray, List.set_cons_zero, List.set_cons_succ, i64_w, i32_w]; rfl
        refine pure_ (i := 18) (N := (some 131)) (v := ?_) (a' := ?_) #[true, true, true, true, true, true, true, true, true, true, true, true, true, true, true, true, true, true, true, false, false, false, false, false] rfl rfl (by kernel_rfl) (fun _ _ _ h => h) (Or.inl ⟨by rfl, ?_⟩) ?_ ?_
        rotate_left
        · intro w'; go_simp; first | done | with_reducible rfl
        rotate_left
        · simp only [Act.put, List.setIfInBounds_toArray, List.set_cons_zero, List.set_cons_succ, i64_w, i32_w]; rfl
        refine pure_ (i := 19) (N := (some 132)) (v := ?_) (a' := ?_) #[true, true, true, true, true, true, true, true, true, true, true, true, true, true, true, true, true, true, true, true, false, false, false, false] rfl rfl (by kernel_rfl) (fun _ _ _ h => h) (Or.inl ⟨by rfl, ?_⟩) ?_ ?_
        rotate_left
        · intro w'; go_simp; first | done | with_reducible rfl
        rotate_left
        · simp only [Act.put, List.setIfInBounds_toArray, List.set_cons_zero, List.set_cons_succ, i64_w, i32_w]; rfl
        refine pure_ (i := 20) (N := (some 133)) (v := ?_) (a' := ?_) #[true, true, true, true, true, true, true, true, true, true, true, true, true, true, true, true, true, true, true, true, true, false, false, false] rfl rfl (by kernel_rfl) (fun _ _ _ h => h) (Or.inl ⟨by rfl, ?_⟩) ?_ ?_
        rotate_left
        · intro w'; go_simp; first | done | with_reducible rfl
        rotate_left
        · simp only [Act.put, List.setIfInBounds_toArray, List.set_cons_zero, List.set_cons_succ, i64_w, i32_w]; rfl
        refine take_ (i := 21) (N := (some 134)) (v := ?_) (a' := ?_) #[true, true, true, true, true, true, true, true, true, true, true, true, true, true, true, true, true, true, true, true, true, true, false, false] rfl rfl (by kernel_rfl) (fun _ _ _ h => h) (Or.inl ⟨by rfl, ?_⟩) hHeld ?_ ?_
        rotate_left
        · rintro w' ⟨s0, s1, s2, s3, s4, s5⟩; go_simp; first | done | with_reducible rfl
        rotate_left
        · simp only [Act.put, List.setIfInBounds_toArray, List.set_cons_zero, List.set_cons_succ, i64_w, i32_w]; rfl
        refine pure_ (i := 22) (N := (some 135)) (v := (.bool false)) (a' := ?_) #[true, true, true, true, true, true, true, true, true, true, true, true, true, true, true, true, true, true, true, true, true, true, true, false] rfl rfl (by kernel_rfl) (fun _ _ _ h => h) (Or.inl ⟨by rfl, ?_⟩) ?_ ?_
        · intro w'; go_simp; first | done | with_reducible rfl
        rotate_left
        · simp only [Act.put, List.setIfInBounds_toArray, List.set_cons_zero, List.set_cons_succ, i64_w, i32_w]; rfl
        refine pure_ (i := 23) (N := (some 136)) (v := ?_) (a' := ?_) #[true, true, true, true, true, true, true, true, true, true, true, true, true, true, true, true, true, true, true, true, true, true, true, true] rfl rfl (by kernel_rfl) (fun _ _ _ h => h) (Or.inl ⟨by rfl, ?_⟩) ?_ ?_
        rotate_left
        · intro w'; go_simp; first | done | with_reducible rfl
        rotate_left
        · simp only [Act.put, List.setIfInBounds_toArray, List.set_cons_zero, List.set_cons_succ, i64_w, i32_w]; rfl
        refine done_ (by kernel_rfl) ?_
        clear hHeld h0' h1' t0' t1' d0 d1
        generalize w10.drew = w11 at HB2 ⊢
        go_wp2_with fail
        exact ⟨⟨i + 1, by omega, by go_num, HB2⟩, by simp [intOf]; omega⟩
      · obtain rfl : i = n := by omega
        have H10 := Lib.hid (H9.out.trans (HB.out.mono H9.out.size))
        go_wp2_with fail
        refine (awake_ok _).mono ?_
        rintro e w11 ⟨rfl, hb11⟩
        have H11 := Lib.hid (H10.out.trans (hb11.mono H10.out.size))
        clear hb11
        go_wp2
        go_ret
        exact ⟨rfl, H11.out⟩
theorem MouldsRound.calls (s : ByteArray) (k : Int) (w : World) (hs : s.size ≤ 140737488351232) :
    Calls Tryd.prog 16 #[.string s, .int .i64 k] w fun e w' => e = .returned (.bool true) ∧ Below w.heap.size w w' := by
  cases h : isO s with
  | false =>
    have ht := txt_le s
    have h' : isO (txt s) = false := by rw [txt_O]; exact h
    exact Round_no s (txt s) k w (by omega) (text_any s) h'
  | true =>
    have h4 := isO_4 h
    have h24 := isW_le (isO_W h)
    have h0 := u64_range k
    have hm := Int.emod_nonneg (IntKind.u64.wrap k) (show (s.size : Int) ≠ 0 by omega)
    have hm2 := Int.emod_lt_of_pos (IntKind.u64.wrap k) (show (0 : Int) < (s.size : Int) by omega)
    rw [← Int.tmod_eq_emod_of_nonneg h0] at hm hm2
    obtain ⟨K, hK⟩ := Int.eq_ofNat_of_zero_le hm
    refine Round_yes s k K w h (by omega) ?_
    rw [hK]
    unfold wrap64
    omega
end Go.Proofs.YtpfenoioeajkmaaDoor.X
end
