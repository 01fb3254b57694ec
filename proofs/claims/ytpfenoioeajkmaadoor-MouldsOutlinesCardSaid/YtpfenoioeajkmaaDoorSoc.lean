/- Texts of this claim, merged by a program (wip/tools/shake.py); what nothing names is left out. -/
import Derived.WideKeyPair
import Derived.Deep.Slices
import Derived.OpenShut
import Derived.DataElems
import Derived.Test.YtpfenoioeajkmaaDoorSob
section
set_option linter.unusedVariables false
set_option linter.unusedSimpArgs false
namespace Go.Proofs.YtpfenoioeajkmaaDoor.X
open Go.RowKit Go.Proofs.YtpfenoioeajkmaaDoorW.PrintWords Go.Proofs.YtpfenoioeajkmaaDoorW.PrintLast Go.Proofs.YtpfenoioeajkmaaDoorW.PrintMore Go.Proofs.YtpfenoioeajkmaaDoor.L
def flatS : List Side → List Value
  | [] => []
  | e :: l => [.int .i64 e.1.1, .int .i64 e.1.2, .int .u8 e.2] ++ flatS l
theorem flatS_app : ∀ (l m : List Side), flatS (l ++ m) = flatS l ++ flatS m
  | [], m => rfl
  | p :: l, m => by rw [List.cons_append, flatS, flatS, flatS_app l m, List.append_assoc]
theorem flatS_get : ∀ (l : List Side) (i : Nat) (h : i < l.length), (flatS l)[i * 3]? = some (.int .i64 l[i].1.1) ∧ (flatS l)[i * 3 + 1]? = some (.int .i64 l[i].1.2) ∧ (flatS l)[i * 3 + 2]? = some (.int .u8 l[i].2)
  | e :: l, 0, h => ⟨rfl, rfl, rfl⟩
  | e :: l, i + 1, h => by
    have := flatS_get l i (by simpa using h)
    rw [flatS]
    simp only [List.getElem_cons_succ]
    rw [show (i + 1) * 3 = i * 3 + 3 by omega, show i * 3 + 3 + 1 = i * 3 + 1 + 3 by omega, show i * 3 + 3 + 2 = i * 3 + 2 + 3 by omega]
    exact this
def OwnS (B : Nat) (w : World) (v : Value) (l : List Side) : Prop := w.ownsRow B 89 3 v l.length (flatS l)
structure Sds (w : World) (b off : Nat) (l : List Side) : Prop where
  c0 : ∀ (i : Nat) (h : i < l.length), w.cell? ⟨b, off + i * 3, none⟩ = some (.int .i64 l[i].1.1)
  c1 : ∀ (i : Nat) (h : i < l.length), w.cell? ⟨b, off + i * 3 + 1, none⟩ = some (.int .i64 l[i].1.2)
  c2 : ∀ (i : Nat) (h : i < l.length), w.cell? ⟨b, off + i * 3 + 2, none⟩ = some (.int .u8 l[i].2)
theorem Sds.later {w w' : World} {b off : Nat} {l : List Side} (h : Sds w b off l) (hb : Below w.heap.size w w') : Sds w' b off l :=
  ⟨fun i hi => (hb.cell (p := ⟨b, off + i * 3, none⟩) (World.block_lt_of_cell? w _ (h.c0 i hi))).trans (h.c0 i hi), fun i hi => (hb.cell (p := ⟨b, off + i * 3 + 1, none⟩) (World.block_lt_of_cell? w _ (h.c1 i hi))).trans (h.c1 i hi), fun i hi => (hb.cell (p := ⟨b, off + i * 3 + 2, none⟩) (World.block_lt_of_cell? w _ (h.c2 i hi))).trans (h.c2 i hi)⟩
theorem OwnS.open {w : World} {base : Nat} {v : Value} {l : List Side} (h : OwnS base w v l) (h0 : 0 < l.length) : ∃ g cap, v = .slice (some ⟨g, 0, none⟩) l.length cap ∧ l.length ≤ cap ∧ Sds w g 0 l := by
  obtain ⟨_, ⟨_, h⟩ | ⟨g, cap, cur, rfl, hg, hb, hn, _, hs, ht⟩⟩ := h
  · omega
  · refine ⟨g, cap, rfl, hn, ?_⟩
    have key : ∀ j u, (flatS l)[j]? = some u → j < l.length * 3 → w.cell? ⟨g, 0 + j, none⟩ = some u := fun j u hu hj => by
      rw [← ht, List.getElem?_take, if_pos hj] at hu
      have hu' : cur[j]? = some u := by simpa using hu
      rw [Nat.zero_add]
      unfold World.cell?
      simp only [hb]
      simpa using hu'
    exact ⟨fun i hi => key _ _ (flatS_get l i hi).1 (by omega), fun i hi => by rw [Nat.add_assoc]; exact key _ _ (flatS_get l i hi).2.1 (by omega), fun i hi => by rw [Nat.add_assoc]; exact key _ _ (flatS_get l i hi).2.2 (by omega)⟩
theorem three_new (w : World) (t : TypeId) (u v z : Value) : ∀ (j : Nat) y, ([u, v, z] : List Value)[j]? = some y → (w.alloc (.cells #[u, v, z] t)).cell? ((⟨w.heap.size, 0, none⟩ : Addr).add j) = some y := fun j y hy => by
  have hj : j = 0 ∨ j = 1 ∨ j = 2 := by
    have := (List.getElem?_eq_some_iff.1 hy).1
    simp at this
    omega
  rcases hj with rfl | rfl | rfl
  · simp at hy
    subst hy
    simp [Addr.add]
  · simp at hy
    subst hy
    simp [Addr.add]
  · simp at hy
    subst hy
    simp [Addr.add]
theorem three_cells (w : World) (t : TypeId) (u v z : Value) : (w.alloc (.cells #[u, v, z] t)).cell? ⟨w.heap.size, 0, none⟩ = some u ∧ (w.alloc (.cells #[u, v, z] t)).cell? ⟨w.heap.size, 1, none⟩ = some v ∧ (w.alloc (.cells #[u, v, z] t)).cell? ⟨w.heap.size, 2, none⟩ = some z := by
  refine ⟨?_, ?_, ?_⟩ <;> simp
theorem info89 : (Tryd.prog.info? 89).map (fun i => (i.zero, i.size, i.bytes)) = some (some (.agg #[.int .i64 0, .int .i64 0, .int .u8 0]), 3, 24) := by kernel_rfl
def wl (E : List Side) (p : Int × Int) (k : Nat) : List UInt8 := (List.range k).map fun i => (ltr E (fol E p i)).toNat.toUInt8
theorem wl_succ (E : List Side) (p : Int × Int) (k : Nat) : wl E p (k + 1) = wl E p k ++ [(ltr E (fol E p k)).toNat.toUInt8] := by
  unfold wl
  rw [List.range_succ, List.map_append]
  rfl
theorem wl_length (E : List Side) (p : Int × Int) (k : Nat) : (wl E p k).length = k := by simp [wl]
def wlB (E : List Side) (p : Int × Int) (k : Nat) : ByteArray := ⟨(wl E p k).toArray⟩
theorem wlB_size (E : List Side) (p : Int × Int) (k : Nat) : (wlB E p k).size = k := by
  show (wl E p k).toArray.size = k
  simp [wl_length]
theorem conv_one (w : World) (c : Int) : (convert 78 9 (.slice (some ⟨w.heap.size, 0, none⟩) 1 1)).run Tryd.prog (w.alloc (.cells #[.int .u8 c] 5)) = .ok (.string (strOfNums [c])) (w.alloc (.cells #[.int .u8 c] 5)) :=
  run_convert_bytes_arg _ 78 5 Tryd.underlying78 Tryd.underlying5 w.heap.size 0 1 1 [c] (by simp) (fun i hi => by
    obtain rfl : i = 0 := by omega
    simp) 9 Tryd.underlying9
theorem wlB_succ (E : List Side) (p : Int × Int) (k : Nat) : wlB E p k ++ strOfNums [ltr E (fol E p k)] = wlB E p (k + 1) := by
  apply ByteArray.ext
  unfold wlB
  rw [wl_succ]
  simp [strOfNums]
structure OutR (E : List Side) (p : Int × Int) (K : Nat) (r : ByteArray) (d : Int) : Prop where
  twice : ¬ (E.map (·.1)).Nodup → r = ⟨#[]⟩ ∧ d = 5
  turn : (E.map (·.1)).Nodup → 1 ≤ K ∧ K ≤ E.length ∧ fol E p K = p ∧ (∀ k, 0 < k → k < K → fol E p k ≠ p) ∧ ∀ k, ∃ c, findL E (fol E p k) = some c ∧ isL c ∧ ltr E (fol E p k) = c
  few : (E.map (·.1)).Nodup → K < E.length → r = ⟨#[]⟩ ∧ d = 5
  many : (E.map (·.1)).Nodup → K = E.length → 24 < K → r = ⟨#[]⟩ ∧ d = 6
  fits : (E.map (·.1)).Nodup → K = E.length → K ≤ 24 → r = firstTo (wlB E p K) K ∧ d = 0
theorem side_new {x y : Nat → Int} {n : Nat} (hg : goodL x y n = true) : inB x y n (x 0) (y 0 - 1) = false := by
  rw [Bool.eq_false_iff, Ne, inB_iff]
  rintro ⟨k, hk, h1, h2⟩
  unfold goodL at hg
  rw [Bool.and_eq_true] at hg
  by_cases h0 : k = 0
  · subst h0
    omega
  · have := good_lt hg.2 (show 0 < k by omega) hk
    unfold lt2 at this
    omega
theorem first_side {x y : Nat → Int} {n : Nat} (hg : goodL x y n = true) : ∃ t, sidesTo (inB x y n) x y n = ((x 0, y 0), 114) :: t := by
  have h1 := (goodL_at hg).1.1
  have h2 := side_new hg
  generalize inB x y n = C at h2 ⊢
  obtain ⟨m, rfl⟩ : ∃ m, n = m + 1 := ⟨n - 1, by omega⟩
  clear h1 hg
  induction m with
  | zero =>
    rw [sidesTo, sidesTo]
    unfold sidesOf
    rw [if_neg (by rw [h2]; decide)]
    exact ⟨_, rfl⟩
  | succ m ih =>
    obtain ⟨t, ht⟩ := ih
    exact ⟨t ++ sidesOf C (x (m + 1)) (y (m + 1)), by rw [sidesTo, ht, List.cons_append]⟩
theorem fol_succ (E : List Side) (p : Int × Int) (k : Nat) : fol E p (k + 1) = ((fol E p k).1 + stepx (ltr E (fol E p k)), (fol E p k).2 + stepy (ltr E (fol E p k))) := rfl
theorem step_small (c : Int) : (-1 ≤ stepx c ∧ stepx c ≤ 1) ∧ -1 ≤ stepy c ∧ stepy c ≤ 1 := by
  unfold stepx stepy
  (repeat' split) <;> omega
theorem fol_le (E : List Side) (p : Int × Int) : ∀ k : Nat, (p.1 - k ≤ (fol E p k).1 ∧ (fol E p k).1 ≤ p.1 + k) ∧ p.2 - k ≤ (fol E p k).2 ∧ (fol E p k).2 ≤ p.2 + k
  | 0 => by simp [fol]
  | k + 1 => by
    have := fol_le E p k
    have := step_small (ltr E (fol E p k))
    rw [fol_succ]
    simp only
    omega
theorem rstepy_of {c : Int} (h : isL c) : rstepy c = stepy c := by
  unfold isL at h
  rcases h with rfl | rfl | rfl | rfl <;> rfl
theorem findL_at {β : Type} : ∀ (l : List ((Int × Int) × β)) (j : Nat) (hj : j < l.length) {q : Int × Int}, (∀ b, b < j → ∀ (hb : b < l.length), l[b].1 ≠ q) → l[j].1 = q → findL l q = some l[j].2
  | e :: l, 0, hj, q, _, h => by
    have h' : e.1 = q := h
    unfold findL
    rw [if_pos h']
    rfl
  | e :: l, j + 1, hj, q, hn, h => by
    unfold findL
    have h0 : ¬ e.1 = q := hn 0 (by omega) (by simp)
    rw [if_neg h0]
    exact findL_at l j (by simpa using hj) (fun b hb hbl => hn (b + 1) (by omega) (by simpa using hbl)) h
theorem sidesOf_length (C : Int → Int → Bool) (a b : Int) : (sidesOf C a b).length ≤ 4 := by
  unfold sidesOf
  simp only [List.length_append]
  (repeat' split) <;> simp
theorem sidesTo_length (C : Int → Int → Bool) (x y : Nat → Int) : ∀ k, (sidesTo C x y k).length ≤ 4 * k
  | 0 => by simp [sidesTo]
  | k + 1 => by
    have := sidesTo_length C x y k
    have := sidesOf_length C (x k) (y k)
    rw [sidesTo, List.length_append]
    omega
theorem OwnS.snoc {B : Nat} {w : World} {v : Value} {l : List Side} {x y c : Int} (h : w.ownsRow B 89 3 v (l.length + 1) (flatS l ++ [.int .i64 x, .int .i64 y, .int .u8 c])) : OwnS B w v (l ++ [((x, y), c)]) := by
  unfold OwnS
  rw [List.length_append, flatS_app]
  exact h
end Go.Proofs.YtpfenoioeajkmaaDoor.X
end

section
set_option linter.unusedVariables false
set_option linter.unusedSimpArgs false
namespace Go.Proofs.YtpfenoioeajkmaaDoor.X
open Go.RowKit Go.Proofs.YtpfenoioeajkmaaDoorW.PrintWords Go.Proofs.YtpfenoioeajkmaaDoorW.PrintLast Go.Proofs.YtpfenoioeajkmaaDoorW.PrintMore Go.Proofs.YtpfenoioeajkmaaDoor.L
set_option maxHeartbeats 32000000 in
set_option maxRecDepth 100000 in
theorem rOutline_calls (A : Option Addr) (n c : Nat) (x y : Nat → Int) (w : World) (hA : Sl w A n c x y) (hg : goodL x y n = true) (K : Nat) (r : ByteArray) (d : Int) (hR : OutR (sidesTo (inB x y n) x y n) (x 0, y 0) K r d) :
    Calls Tryd.prog 47 #[.slice A n c] w fun e w' => e = .returned (.tuple #[.string r, .int .i64 d]) ∧ Below w.heap.size w w' := by
  obtain ⟨⟨hn1, hn30⟩, hxy⟩ := goodL_at hg
  have HR := Lib.hid hR
  have HFS := Lib.hid (first_side hg)
  have HG := Lib.hid hxy
  have HS := Lib.hid hA
  have HP := Lib.hid (show ∃ b off, A = some ⟨b, off, none⟩ ∧ n ≤ c ∧ Pts w b off n x y from by
    rcases hA with ⟨_, h2, _⟩ | ⟨b, off, h1, h4, h3⟩ | ⟨_, _, h2⟩
    · omega
    · exact ⟨b, off, h1, h4, h3⟩
    · omega)
  have HGX := Lib.hid (hxy 0 (by omega))
  clear hA hg hxy hR
  obtain ⟨i0, hi0, hz0, hz1, hz2⟩ := info_parts info89
  have HI := Lib.hid hi0
  have HZ := Lib.hid (And.intro hz0 (And.intro hz1 hz2))
  clear hi0 hz0 hz1 hz2
  go_enter Tryd.func47, Tryd.ntmps47
  go_wp2_with fail
  have HB := Lib.hid (Below.refl w.heap.size w)
  have HO : Hid (OwnS w.heap.size w (.slice none 0 0) (sidesTo (inB x y n) x y 0)) := Lib.hid (World.ownsRow_nil w w.heap.size 89 3)
  go_loopw [22, 4] (fun i v wr => ∃ k : Nat, k ≤ n ∧ i = .int .i64 k ∧ Hid (OwnS w.heap.size wr v (sidesTo (inB x y n) x y k)) ∧ Hid (Below w.heap.size w wr)) (fun i _ _ => n - (intOf i).toNat)
  case atStart => exact ⟨0, by omega, rfl, HO, HB⟩
  case round =>
    clear HO HB
    obtain ⟨i, hi, rfl, HO, HB⟩ := hrel
    by_cases hlt : i < n
    · obtain ⟨b, off, rfl, hnc, hP0⟩ := HP.out
      have hP := hP0.later HB.out
      have h0 := hP.c0 i hlt
      have h1 := hP.c1 i hlt
      have hbx := HG.out i hlt
      have HL : Hid ((sidesTo (inB x y n) x y i).length ≤ 120) := Lib.hid (by have := sidesTo_length (inB x y n) x y i; omega)
      obtain ⟨X, hX⟩ : ∃ X, x i = X := ⟨_, rfl⟩
      obtain ⟨Y, hY⟩ : ∃ Y, y i = Y := ⟨_, rfl⟩
      rw [hX] at h0 hbx
      rw [hY] at h1 hbx
      have HXY := Lib.hid (And.intro hX hY)
      have hic : i < c := by omega
      clear hX hY hP hP0
      go_wp2_with fail
      obtain ⟨w1, hw1⟩ : ∃ w1, w1 = wr.alloc (.cells #[.int .i64 X, .int .i64 Y] 29) := ⟨_, rfl⟩
      have q0 : w1.cell? ⟨wr.heap.size, 0, none⟩ = some (.int .i64 X) := by rw [hw1]; simp
      have q1 : w1.cell? ⟨wr.heap.size, 1, none⟩ = some (.int .i64 Y) := by rw [hw1]; simp
      have hb1 : Below wr.heap.size wr w1 := by rw [hw1]; exact below_one _
      have HB1 := Lib.hid (HB.out.trans (hb1.mono HB.out.size)).drew
      have HO1 : Hid (OwnS w.heap.size w1.drew _ (sidesTo (inB x y n) x y i)) := Lib.hid (pw_own_below HO.out hb1.drew)
      rw [← hw1]
      clear hw1 hb1 HO HB
      generalize wr.heap.size = G at q0 q1 ⊢
      refine start_ (n := 6) (S := fun w' => w'.cell? ⟨G, 0, none⟩ = some (.int .i64 X) ∧ w'.cell? ⟨G, 1, none⟩ = some (.int .i64 Y)) (ds := []) #[false, false, false, false, false, false] (by kernel_rfl) rfl rfl ⟨by simpa using q0, by simpa using q1⟩ (fun hHeld => ?_)
      refine pure_ (i := 0) (N := (some 26)) (v := ?_) (a' := ?_) #[true, false, false, false, false, false] rfl rfl (by kernel_rfl) (fun _ _ _ h => h) (Or.inl ⟨by rfl, ?_⟩) ?_ ?_
      rotate_left
      · intro w'; go_simp; first | done | with_reducible rfl
      rotate_left
      · simp only [Act.put, List.setIfInBounds_toArray, List.set_cons_zero, List.set_cons_succ, i64_w, i32_w]; rfl
      refine take_ (i := 1) (N := (some 27)) (v := ?_) (a' := ?_) #[true, true, false, false, false, false] rfl rfl (by kernel_rfl) (fun _ _ _ h => h) (Or.inl ⟨by rfl, ?_⟩) hHeld ?_ ?_
      rotate_left
      · rintro w' ⟨s0, s1⟩; go_simp; first | done | with_reducible rfl
      rotate_left
      · simp only [Act.put, List.setIfInBounds_toArray, List.set_cons_zero, List.set_cons_succ, i64_w, i32_w]; rfl
      refine pure_ (i := 2) (N := (some 28)) (v := ?_) (a' := ?_) #[true, true, true, false, false, false] rfl rfl (by kernel_rfl) (fun _ _ _ h => h) (Or.inl ⟨by rfl, ?_⟩) ?_ ?_
      rotate_left
      · intro w'; go_simp; first | done | with_reducible rfl
      rotate_left
      · simp only [Act.put, List.setIfInBounds_toArray, List.set_cons_zero, List.set_cons_succ, i64_w, i32_w]; rfl
      refine take_ (i := 3) (N := (some 29)) (v := ?_) (a' := ?_) #[true, true, true, true, false, false] rfl rfl (by kernel_rfl) (fun _ _ _ h => h) (Or.inl ⟨by rfl, ?_⟩) hHeld ?_ ?_
      rotate_left
      · rintro w' ⟨s0, s1⟩; go_simp; first | done | with_reducible rfl
      rotate_left
      · simp only [Act.put, List.setIfInBounds_toArray, List.set_cons_zero, List.set_cons_succ, i64_w, i32_w]; rfl
      refine pure_ (i := 4) (N := (some 7)) (v := ?_) (a' := ?_) #[true, true, true, true, true, false] rfl rfl (by kernel_rfl) (fun _ _ _ h => h) (Or.inl ⟨by rfl, ?_⟩) ?_ ?_
      rotate_left
      · intro w'; go_simp; first | done | with_reducible rfl
      rotate_left
      · simp only [Act.put, List.setIfInBounds_toArray, List.set_cons_zero, List.set_cons_succ, i64_w, i32_w]; rfl
      refine pure_ (i := 5) (N := (some 8)) (v := ?_) (a' := ?_) #[true, true, true, true, true, true] rfl rfl (by kernel_rfl) (fun _ _ _ h => h) (Or.inl ⟨by rfl, ?_⟩) ?_ ?_
      rotate_left
      · intro w'; go_simp; first | done | with_reducible rfl
      rotate_left
      · simp only [Act.put, List.setIfInBounds_toArray, List.set_cons_zero, List.set_cons_succ, i64_w, i32_w]; rfl
      refine done_ (by kernel_rfl) ?_
      clear hHeld q0 q1 h0 h1
      generalize w1.drew = w2 at HB1 HO1 ⊢
      have e1 : wrap64 (Y - 1) = Y - 1 := by unfold wrap64; omega
      have e2 : wrap64 (X + 1) = X + 1 := by unfold wrap64; omega
      have e3 : wrap64 (Y + 1) = Y + 1 := by unfold wrap64; omega
      have e4 : wrap64 (X - 1) = X - 1 := by unfold wrap64; omega
      go_wp2_with fail
      refine (In_calls _ n c x y X (Y - 1) _ (HS.out.later HB1.out) (by omega) (inB x y n X (Y - 1)) (inB_iff ..)).mono ?_
      rintro e w0a ⟨rfl, hb0⟩
      have HB0 := Lib.hid (HB1.out.trans (hb0.mono HB1.out.size))
      have HO0 : Hid (OwnS w.heap.size w0a _ (sidesTo (inB x y n) x y i)) := Lib.hid (pw_own_below HO1.out hb0)
      clear hb0
      cases hq0 : inB x y n X (Y - 1) with
      | true =>
        have HQ0 := Lib.hid hq0
        clear hq0
        go_wp2_with fail
        refine (In_calls _ n c x y (X + 1) Y _ (HS.out.later HB0.out) (by omega) (inB x y n (X + 1) Y) (inB_iff ..)).mono ?_
        rintro e w1a ⟨rfl, hb1⟩
        have HB1 := Lib.hid (HB0.out.trans (hb1.mono HB0.out.size))
        have HO1 : Hid (OwnS w.heap.size w1a _ (sidesTo (inB x y n) x y i)) := Lib.hid (pw_own_below HO0.out hb1)
        clear hb1
        cases hq1 : inB x y n (X + 1) Y with
        | true =>
          have HQ1 := Lib.hid hq1
          clear hq1
          go_wp2_with fail
          refine (In_calls _ n c x y X (Y + 1) _ (HS.out.later HB1.out) (by omega) (inB x y n X (Y + 1)) (inB_iff ..)).mono ?_
          rintro e w2a ⟨rfl, hb2⟩
          have HB2 := Lib.hid (HB1.out.trans (hb2.mono HB1.out.size))
          have HO2 : Hid (OwnS w.heap.size w2a _ (sidesTo (inB x y n) x y i)) := Lib.hid (pw_own_below HO1.out hb2)
          clear hb2
          cases hq2 : inB x y n X (Y + 1) with
          | true =>
            have HQ2 := Lib.hid hq2
            clear hq2
            go_wp2_with fail
            refine (In_calls _ n c x y (X - 1) Y _ (HS.out.later HB2.out) (by omega) (inB x y n (X - 1) Y) (inB_iff ..)).mono ?_
            rintro e w3a ⟨rfl, hb3⟩
            have HB3 := Lib.hid (HB2.out.trans (hb3.mono HB2.out.size))
            have HO3 : Hid (OwnS w.heap.size w3a _ (sidesTo (inB x y n) x y i)) := Lib.hid (pw_own_below HO2.out hb3)
            clear hb3
            cases hq3 : inB x y n (X - 1) Y with
            | true =>
              have HQ3 := Lib.hid hq3
              clear hq3
              go_wp2_with fail
              refine ⟨⟨i + 1, by omega, by go_num, ?_, HB3⟩, by simp [intOf]; omega⟩
              refine Lib.hid ?_
              rw [sidesTo, HXY.out.1, HXY.out.2]
              unfold sidesOf
              rw [if_pos HQ0.out, if_pos HQ1.out, if_pos HQ2.out, if_pos HQ3.out]
              simpa only [List.nil_append, List.append_nil, List.append_assoc] using HO3.out
            | false =>
              have HQ3 : Hid (¬ inB x y n (X - 1) Y = true) := Lib.hid (by rw [hq3]; decide)
              clear hq3
              have hbA3 := below_one (w := w3a) (.cells #[.int .i64 X, .int .i64 (Y + 1), .int .u8 100] 89)
              have HOA3 : Hid (OwnS w.heap.size (w3a.alloc (.cells #[.int .i64 X, .int .i64 (Y + 1), .int .u8 100] 89)) _ (sidesTo (inB x y n) x y i)) := Lib.hid (pw_own_below HO3.out hbA3)
              have HBA3 := Lib.hid (HB3.out.trans (hbA3.mono HB3.out.size))
              clear hbA3
              go_wp2_with (first | (at_builtin; go_loud (refine wpList_append_own_at _ rfl (.tmp 75) (.tmp 80) 87 rfl w.heap.size 89 i0 _ 3 24 Tryd.underlying87 HI.out HZ.out.1 HZ.out.2.1 HZ.out.2.2 rfl (by decide) _ _ _ rfl HOA3.out ⟨w3a.heap.size, 0, none⟩ 1 1 [.int .i64 X, .int .i64 (Y + 1), .int .u8 100] rfl rfl (three_new _ _ _ _ _) (by simp [Value.oneCell']) (by have := HL.out; (try simp only [List.length_append, List.length_cons, List.length_nil]); unfold maxLen; omega) (by have := HL.out; (try simp only [List.length_append, List.length_cons, List.length_nil]); omega) HBA3.out.size ?_); go_loud (intro v3 w3b hown3 hgrow3 _ _; have HOB3 : Hid (OwnS w.heap.size w3b v3 (sidesTo (inB x y n) x y i ++ [((X, (Y + 1)), 100)])) := Lib.hid (OwnS.snoc hown3); have HBB3 := Lib.hid (own_growS HBA3.out HOA3.out hgrow3); clear hown3 hgrow3)) | fail)
              refine ⟨⟨i + 1, by omega, by go_num, ?_, HBB3⟩, by simp [intOf]; omega⟩
              refine Lib.hid ?_
              rw [sidesTo, HXY.out.1, HXY.out.2]
              unfold sidesOf
              rw [if_pos HQ0.out, if_pos HQ1.out, if_pos HQ2.out, if_neg HQ3.out]
              simpa only [List.nil_append, List.append_nil, List.append_assoc] using HOB3.out
          | false =>
            have HQ2 : Hid (¬ inB x y n X (Y + 1) = true) := Lib.hid (by rw [hq2]; decide)
            clear hq2
            have hbA2 := below_one (w := w2a) (.cells #[.int .i64 (X + 1), .int .i64 (Y + 1), .int .u8 108] 89)
            have HOA2 : Hid (OwnS w.heap.size (w2a.alloc (.cells #[.int .i64 (X + 1), .int .i64 (Y + 1), .int .u8 108] 89)) _ (sidesTo (inB x y n) x y i)) := Lib.hid (pw_own_below HO2.out hbA2)
            have HBA2 := Lib.hid (HB2.out.trans (hbA2.mono HB2.out.size))
            clear hbA2
            go_wp2_with (first | (at_builtin; go_loud (refine wpList_append_own_at _ rfl (.tmp 61) (.tmp 67) 87 rfl w.heap.size 89 i0 _ 3 24 Tryd.underlying87 HI.out HZ.out.1 HZ.out.2.1 HZ.out.2.2 rfl (by decide) _ _ _ rfl HOA2.out ⟨w2a.heap.size, 0, none⟩ 1 1 [.int .i64 (X + 1), .int .i64 (Y + 1), .int .u8 108] rfl rfl (three_new _ _ _ _ _) (by simp [Value.oneCell']) (by have := HL.out; (try simp only [List.length_append, List.length_cons, List.length_nil]); unfold maxLen; omega) (by have := HL.out; (try simp only [List.length_append, List.length_cons, List.length_nil]); omega) HBA2.out.size ?_); go_loud (intro v2 w2b hown2 hgrow2 _ _; have HOB2 : Hid (OwnS w.heap.size w2b v2 (sidesTo (inB x y n) x y i ++ [(((X + 1), (Y + 1)), 108)])) := Lib.hid (OwnS.snoc hown2); have HBB2 := Lib.hid (own_growS HBA2.out HOA2.out hgrow2); clear hown2 hgrow2)) | fail)
            refine (In_calls _ n c x y (X - 1) Y _ (HS.out.later HBB2.out) (by omega) (inB x y n (X - 1) Y) (inB_iff ..)).mono ?_
            rintro e w3a ⟨rfl, hb3⟩
            have HB3 := Lib.hid (HBB2.out.trans (hb3.mono HBB2.out.size))
            have HO3 : Hid (OwnS w.heap.size w3a _ ((sidesTo (inB x y n) x y i ++ [(((X + 1), (Y + 1)), 108)]))) := Lib.hid (pw_own_below HOB2.out hb3)
            clear hb3
            cases hq3 : inB x y n (X - 1) Y with
            | true =>
              have HQ3 := Lib.hid hq3
              clear hq3
              go_wp2_with fail
              refine ⟨⟨i + 1, by omega, by go_num, ?_, HB3⟩, by simp [intOf]; omega⟩
              refine Lib.hid ?_
              rw [sidesTo, HXY.out.1, HXY.out.2]
              unfold sidesOf
              rw [if_pos HQ0.out, if_pos HQ1.out, if_neg HQ2.out, if_pos HQ3.out]
              simpa only [List.nil_append, List.append_nil, List.append_assoc] using HO3.out
            | false =>
              have HQ3 : Hid (¬ inB x y n (X - 1) Y = true) := Lib.hid (by rw [hq3]; decide)
              clear hq3
              have hbA3 := below_one (w := w3a) (.cells #[.int .i64 X, .int .i64 (Y + 1), .int .u8 100] 89)
              have HOA3 : Hid (OwnS w.heap.size (w3a.alloc (.cells #[.int .i64 X, .int .i64 (Y + 1), .int .u8 100] 89)) _ ((sidesTo (inB x y n) x y i ++ [(((X + 1), (Y + 1)), 108)]))) := Lib.hid (pw_own_below HO3.out hbA3)
              have HBA3 := Lib.hid (HB3.out.trans (hbA3.mono HB3.out.size))
              clear hbA3
              go_wp2_with (first | (at_builtin; go_loud (refine wpList_append_own_at _ rfl (.tmp 75) (.tmp 80) 87 rfl w.heap.size 89 i0 _ 3 24 Tryd.underlying87 HI.out HZ.out.1 HZ.out.2.1 HZ.out.2.2 rfl (by decide) _ _ _ rfl HOA3.out ⟨w3a.heap.size, 0, none⟩ 1 1 [.int .i64 X, .int .i64 (Y + 1), .int .u8 100] rfl rfl (three_new _ _ _ _ _) (by simp [Value.oneCell']) (by have := HL.out; (try simp only [List.length_append, List.length_cons, List.length_nil]); unfold maxLen; omega) (by have := HL.out; (try simp only [List.length_append, List.length_cons, List.length_nil]); omega) HBA3.out.size ?_); go_loud (intro v3 w3b hown3 hgrow3 _ _; have HOB3 : Hid (OwnS w.heap.size w3b v3 ((sidesTo (inB x y n) x y i ++ [(((X + 1), (Y + 1)), 108)]) ++ [((X, (Y + 1)), 100)])) := Lib.hid (OwnS.snoc hown3); have HBB3 := Lib.hid (own_growS HBA3.out HOA3.out hgrow3); clear hown3 hgrow3)) | fail)
              refine ⟨⟨i + 1, by omega, by go_num, ?_, HBB3⟩, by simp [intOf]; omega⟩
              refine Lib.hid ?_
              rw [sidesTo, HXY.out.1, HXY.out.2]
              unfold sidesOf
              rw [if_pos HQ0.out, if_pos HQ1.out, if_neg HQ2.out, if_neg HQ3.out]
              simpa only [List.nil_append, List.append_nil, List.append_assoc] using HOB3.out
        | false =>
          have HQ1 : Hid (¬ inB x y n (X + 1) Y = true) := Lib.hid (by rw [hq1]; decide)
          clear hq1
          have hbA1 := below_one (w := w1a) (.cells #[.int .i64 (X + 1), .int .i64 Y, .int .u8 117] 89)
          have HOA1 : Hid (OwnS w.heap.size (w1a.alloc (.cells #[.int .i64 (X + 1), .int .i64 Y, .int .u8 117] 89)) _ (sidesTo (inB x y n) x y i)) := Lib.hid (pw_own_below HO1.out hbA1)
          have HBA1 := Lib.hid (HB1.out.trans (hbA1.mono HB1.out.size))
          clear hbA1
          go_wp2_with (first | (at_builtin; go_loud (refine wpList_append_own_at _ rfl (.tmp 48) (.tmp 53) 87 rfl w.heap.size 89 i0 _ 3 24 Tryd.underlying87 HI.out HZ.out.1 HZ.out.2.1 HZ.out.2.2 rfl (by decide) _ _ _ rfl HOA1.out ⟨w1a.heap.size, 0, none⟩ 1 1 [.int .i64 (X + 1), .int .i64 Y, .int .u8 117] rfl rfl (three_new _ _ _ _ _) (by simp [Value.oneCell']) (by have := HL.out; (try simp only [List.length_append, List.length_cons, List.length_nil]); unfold maxLen; omega) (by have := HL.out; (try simp only [List.length_append, List.length_cons, List.length_nil]); omega) HBA1.out.size ?_); go_loud (intro v1 w1b hown1 hgrow1 _ _; have HOB1 : Hid (OwnS w.heap.size w1b v1 (sidesTo (inB x y n) x y i ++ [(((X + 1), Y), 117)])) := Lib.hid (OwnS.snoc hown1); have HBB1 := Lib.hid (own_growS HBA1.out HOA1.out hgrow1); clear hown1 hgrow1)) | fail)
          refine (In_calls _ n c x y X (Y + 1) _ (HS.out.later HBB1.out) (by omega) (inB x y n X (Y + 1)) (inB_iff ..)).mono ?_
          rintro e w2a ⟨rfl, hb2⟩
          have HB2 := Lib.hid (HBB1.out.trans (hb2.mono HBB1.out.size))
          have HO2 : Hid (OwnS w.heap.size w2a _ ((sidesTo (inB x y n) x y i ++ [(((X + 1), Y), 117)]))) := Lib.hid (pw_own_below HOB1.out hb2)
          clear hb2
          cases hq2 : inB x y n X (Y + 1) with
          | true =>
            have HQ2 := Lib.hid hq2
            clear hq2
            go_wp2_with fail
            refine (In_calls _ n c x y (X - 1) Y _ (HS.out.later HB2.out) (by omega) (inB x y n (X - 1) Y) (inB_iff ..)).mono ?_
            rintro e w3a ⟨rfl, hb3⟩
            have HB3 := Lib.hid (HB2.out.trans (hb3.mono HB2.out.size))
            have HO3 : Hid (OwnS w.heap.size w3a _ ((sidesTo (inB x y n) x y i ++ [(((X + 1), Y), 117)]))) := Lib.hid (pw_own_below HO2.out hb3)
            clear hb3
            cases hq3 : inB x y n (X - 1) Y with
            | true =>
              have HQ3 := Lib.hid hq3
              clear hq3
              go_wp2_with fail
              refine ⟨⟨i + 1, by omega, by go_num, ?_, HB3⟩, by simp [intOf]; omega⟩
              refine Lib.hid ?_
              rw [sidesTo, HXY.out.1, HXY.out.2]
              unfold sidesOf
              rw [if_pos HQ0.out, if_neg HQ1.out, if_pos HQ2.out, if_pos HQ3.out]
              simpa only [List.nil_append, List.append_nil, List.append_assoc] using HO3.out
            | false =>
              have HQ3 : Hid (¬ inB x y n (X - 1) Y = true) := Lib.hid (by rw [hq3]; decide)
              clear hq3
              have hbA3 := below_one (w := w3a) (.cells #[.int .i64 X, .int .i64 (Y + 1), .int .u8 100] 89)
              have HOA3 : Hid (OwnS w.heap.size (w3a.alloc (.cells #[.int .i64 X, .int .i64 (Y + 1), .int .u8 100] 89)) _ ((sidesTo (inB x y n) x y i ++ [(((X + 1), Y), 117)]))) := Lib.hid (pw_own_below HO3.out hbA3)
              have HBA3 := Lib.hid (HB3.out.trans (hbA3.mono HB3.out.size))
              clear hbA3
              go_wp2_with (first | (at_builtin; go_loud (refine wpList_append_own_at _ rfl (.tmp 75) (.tmp 80) 87 rfl w.heap.size 89 i0 _ 3 24 Tryd.underlying87 HI.out HZ.out.1 HZ.out.2.1 HZ.out.2.2 rfl (by decide) _ _ _ rfl HOA3.out ⟨w3a.heap.size, 0, none⟩ 1 1 [.int .i64 X, .int .i64 (Y + 1), .int .u8 100] rfl rfl (three_new _ _ _ _ _) (by simp [Value.oneCell']) (by have := HL.out; (try simp only [List.length_append, List.length_cons, List.length_nil]); unfold maxLen; omega) (by have := HL.out; (try simp only [List.length_append, List.length_cons, List.length_nil]); omega) HBA3.out.size ?_); go_loud (intro v3 w3b hown3 hgrow3 _ _; have HOB3 : Hid (OwnS w.heap.size w3b v3 ((sidesTo (inB x y n) x y i ++ [(((X + 1), Y), 117)]) ++ [((X, (Y + 1)), 100)])) := Lib.hid (OwnS.snoc hown3); have HBB3 := Lib.hid (own_growS HBA3.out HOA3.out hgrow3); clear hown3 hgrow3)) | fail)
              refine ⟨⟨i + 1, by omega, by go_num, ?_, HBB3⟩, by simp [intOf]; omega⟩
              refine Lib.hid ?_
              rw [sidesTo, HXY.out.1, HXY.out.2]
              unfold sidesOf
              rw [if_pos HQ0.out, if_neg HQ1.out, if_pos HQ2.out, if_neg HQ3.out]
              simpa only [List.nil_append, List.append_nil, List.append_assoc] using HOB3.out
          | false =>
            have HQ2 : Hid (¬ inB x y n X (Y + 1) = true) := Lib.hid (by rw [hq2]; decide)
            clear hq2
            have hbA2 := below_one (w := w2a) (.cells #[.int .i64 (X + 1), .int .i64 (Y + 1), .int .u8 108] 89)
            have HOA2 : Hid (OwnS w.heap.size (w2a.alloc (.cells #[.int .i64 (X + 1), .int .i64 (Y + 1), .int .u8 108] 89)) _ ((sidesTo (inB x y n) x y i ++ [(((X + 1), Y), 117)]))) := Lib.hid (pw_own_below HO2.out hbA2)
            have HBA2 := Lib.hid (HB2.out.trans (hbA2.mono HB2.out.size))
            clear hbA2
            go_wp2_with (first | (at_builtin; go_loud (refine wpList_append_own_at _ rfl (.tmp 61) (.tmp 67) 87 rfl w.heap.size 89 i0 _ 3 24 Tryd.underlying87 HI.out HZ.out.1 HZ.out.2.1 HZ.out.2.2 rfl (by decide) _ _ _ rfl HOA2.out ⟨w2a.heap.size, 0, none⟩ 1 1 [.int .i64 (X + 1), .int .i64 (Y + 1), .int .u8 108] rfl rfl (three_new _ _ _ _ _) (by simp [Value.oneCell']) (by have := HL.out; (try simp only [List.length_append, List.length_cons, List.length_nil]); unfold maxLen; omega) (by have := HL.out; (try simp only [List.length_append, List.length_cons, List.length_nil]); omega) HBA2.out.size ?_); go_loud (intro v2 w2b hown2 hgrow2 _ _; have HOB2 : Hid (OwnS w.heap.size w2b v2 ((sidesTo (inB x y n) x y i ++ [(((X + 1), Y), 117)]) ++ [(((X + 1), (Y + 1)), 108)])) := Lib.hid (OwnS.snoc hown2); have HBB2 := Lib.hid (own_growS HBA2.out HOA2.out hgrow2); clear hown2 hgrow2)) | fail)
            refine (In_calls _ n c x y (X - 1) Y _ (HS.out.later HBB2.out) (by omega) (inB x y n (X - 1) Y) (inB_iff ..)).mono ?_
            rintro e w3a ⟨rfl, hb3⟩
            have HB3 := Lib.hid (HBB2.out.trans (hb3.mono HBB2.out.size))
            have HO3 : Hid (OwnS w.heap.size w3a _ (((sidesTo (inB x y n) x y i ++ [(((X + 1), Y), 117)]) ++ [(((X + 1), (Y + 1)), 108)]))) := Lib.hid (pw_own_below HOB2.out hb3)
            clear hb3
            cases hq3 : inB x y n (X - 1) Y with
            | true =>
              have HQ3 := Lib.hid hq3
              clear hq3
              go_wp2_with fail
              refine ⟨⟨i + 1, by omega, by go_num, ?_, HB3⟩, by simp [intOf]; omega⟩
              refine Lib.hid ?_
              rw [sidesTo, HXY.out.1, HXY.out.2]
              unfold sidesOf
              rw [if_pos HQ0.out, if_neg HQ1.out, if_neg HQ2.out, if_pos HQ3.out]
              simpa only [List.nil_append, List.append_nil, List.append_assoc] using HO3.out
            | false =>
              have HQ3 : Hid (¬ inB x y n (X - 1) Y = true) := Lib.hid (by rw [hq3]; decide)
              clear hq3
              have hbA3 := below_one (w := w3a) (.cells #[.int .i64 X, .int .i64 (Y + 1), .int .u8 100] 89)
              have HOA3 : Hid (OwnS w.heap.size (w3a.alloc (.cells #[.int .i64 X, .int .i64 (Y + 1), .int .u8 100] 89)) _ (((sidesTo (inB x y n) x y i ++ [(((X + 1), Y), 117)]) ++ [(((X + 1), (Y + 1)), 108)]))) := Lib.hid (pw_own_below HO3.out hbA3)
              have HBA3 := Lib.hid (HB3.out.trans (hbA3.mono HB3.out.size))
              clear hbA3
              go_wp2_with (first | (at_builtin; go_loud (refine wpList_append_own_at _ rfl (.tmp 75) (.tmp 80) 87 rfl w.heap.size 89 i0 _ 3 24 Tryd.underlying87 HI.out HZ.out.1 HZ.out.2.1 HZ.out.2.2 rfl (by decide) _ _ _ rfl HOA3.out ⟨w3a.heap.size, 0, none⟩ 1 1 [.int .i64 X, .int .i64 (Y + 1), .int .u8 100] rfl rfl (three_new _ _ _ _ _) (by simp [Value.oneCell']) (by have := HL.out; (try simp only [List.length_append, List.length_cons, List.length_nil]); unfold maxLen; omega) (by have := HL.out; (try simp only [List.length_append, List.length_cons, List.length_nil]); omega) HBA3.out.size ?_); go_loud (intro v3 w3b hown3 hgrow3 _ _; have HOB3 : Hid (OwnS w.heap.size w3b v3 (((sidesTo (inB x y n) x y i ++ [(((X + 1), Y), 117)]) ++ [(((X + 1), (Y + 1)), 108)]) ++ [((X, (Y + 1)), 100)])) := Lib.hid (OwnS.snoc hown3); have HBB3 := Lib.hid (own_growS HBA3.out HOA3.out hgrow3); clear hown3 hgrow3)) | fail)
              refine ⟨⟨i + 1, by omega, by go_num, ?_, HBB3⟩, by simp [intOf]; omega⟩
              refine Lib.hid ?_
              rw [sidesTo, HXY.out.1, HXY.out.2]
              unfold sidesOf
              rw [if_pos HQ0.out, if_neg HQ1.out, if_neg HQ2.out, if_neg HQ3.out]
              simpa only [List.nil_append, List.append_nil, List.append_assoc] using HOB3.out
      | false =>
        have HQ0 : Hid (¬ inB x y n X (Y - 1) = true) := Lib.hid (by rw [hq0]; decide)
        clear hq0
        have hbA0 := below_one (w := w0a) (.cells #[.int .i64 X, .int .i64 Y, .int .u8 114] 89)
        have HOA0 : Hid (OwnS w.heap.size (w0a.alloc (.cells #[.int .i64 X, .int .i64 Y, .int .u8 114] 89)) _ (sidesTo (inB x y n) x y i)) := Lib.hid (pw_own_below HO0.out hbA0)
        have HBA0 := Lib.hid (HB0.out.trans (hbA0.mono HB0.out.size))
        clear hbA0
        go_wp2_with (first | (at_builtin; go_loud (refine wpList_append_own_at _ rfl (.tmp 36) (.tmp 40) 87 rfl w.heap.size 89 i0 _ 3 24 Tryd.underlying87 HI.out HZ.out.1 HZ.out.2.1 HZ.out.2.2 rfl (by decide) _ _ _ rfl HOA0.out ⟨w0a.heap.size, 0, none⟩ 1 1 [.int .i64 X, .int .i64 Y, .int .u8 114] rfl rfl (three_new _ _ _ _ _) (by simp [Value.oneCell']) (by have := HL.out; (try simp only [List.length_append, List.length_cons, List.length_nil]); unfold maxLen; omega) (by have := HL.out; (try simp only [List.length_append, List.length_cons, List.length_nil]); omega) HBA0.out.size ?_); go_loud (intro v0 w0b hown0 hgrow0 _ _; have HOB0 : Hid (OwnS w.heap.size w0b v0 (sidesTo (inB x y n) x y i ++ [((X, Y), 114)])) := Lib.hid (OwnS.snoc hown0); have HBB0 := Lib.hid (own_growS HBA0.out HOA0.out hgrow0); clear hown0 hgrow0)) | fail)
        refine (In_calls _ n c x y (X + 1) Y _ (HS.out.later HBB0.out) (by omega) (inB x y n (X + 1) Y) (inB_iff ..)).mono ?_
        rintro e w1a ⟨rfl, hb1⟩
        have HB1 := Lib.hid (HBB0.out.trans (hb1.mono HBB0.out.size))
        have HO1 : Hid (OwnS w.heap.size w1a _ ((sidesTo (inB x y n) x y i ++ [((X, Y), 114)]))) := Lib.hid (pw_own_below HOB0.out hb1)
        clear hb1
        cases hq1 : inB x y n (X + 1) Y with
        | true =>
          have HQ1 := Lib.hid hq1
          clear hq1
          go_wp2_with fail
          refine (In_calls _ n c x y X (Y + 1) _ (HS.out.later HB1.out) (by omega) (inB x y n X (Y + 1)) (inB_iff ..)).mono ?_
          rintro e w2a ⟨rfl, hb2⟩
          have HB2 := Lib.hid (HB1.out.trans (hb2.mono HB1.out.size))
          have HO2 : Hid (OwnS w.heap.size w2a _ ((sidesTo (inB x y n) x y i ++ [((X, Y), 114)]))) := Lib.hid (pw_own_below HO1.out hb2)
          clear hb2
          cases hq2 : inB x y n X (Y + 1) with
          | true =>
            have HQ2 := Lib.hid hq2
            clear hq2
            go_wp2_with fail
            refine (In_calls _ n c x y (X - 1) Y _ (HS.out.later HB2.out) (by omega) (inB x y n (X - 1) Y) (inB_iff ..)).mono ?_
            rintro e w3a ⟨rfl, hb3⟩
            have HB3 := Lib.hid (HB2.out.trans (hb3.mono HB2.out.size))
            have HO3 : Hid (OwnS w.heap.size w3a _ ((sidesTo (inB x y n) x y i ++ [((X, Y), 114)]))) := Lib.hid (pw_own_below HO2.out hb3)
            clear hb3
            cases hq3 : inB x y n (X - 1) Y with
            | true =>
              have HQ3 := Lib.hid hq3
              clear hq3
              go_wp2_with fail
              refine ⟨⟨i + 1, by omega, by go_num, ?_, HB3⟩, by simp [intOf]; omega⟩
              refine Lib.hid ?_
              rw [sidesTo, HXY.out.1, HXY.out.2]
              unfold sidesOf
              rw [if_neg HQ0.out, if_pos HQ1.out, if_pos HQ2.out, if_pos HQ3.out]
              simpa only [List.nil_append, List.append_nil, List.append_assoc] using HO3.out
            | false =>
              have HQ3 : Hid (¬ inB x y n (X - 1) Y = true) := Lib.hid (by rw [hq3]; decide)
              clear hq3
              have hbA3 := below_one (w := w3a) (.cells #[.int .i64 X, .int .i64 (Y + 1), .int .u8 100] 89)
              have HOA3 : Hid (OwnS w.heap.size (w3a.alloc (.cells #[.int .i64 X, .int .i64 (Y + 1), .int .u8 100] 89)) _ ((sidesTo (inB x y n) x y i ++ [((X, Y), 114)]))) := Lib.hid (pw_own_below HO3.out hbA3)
              have HBA3 := Lib.hid (HB3.out.trans (hbA3.mono HB3.out.size))
              clear hbA3
              go_wp2_with (first | (at_builtin; go_loud (refine wpList_append_own_at _ rfl (.tmp 75) (.tmp 80) 87 rfl w.heap.size 89 i0 _ 3 24 Tryd.underlying87 HI.out HZ.out.1 HZ.out.2.1 HZ.out.2.2 rfl (by decide) _ _ _ rfl HOA3.out ⟨w3a.heap.size, 0, none⟩ 1 1 [.int .i64 X, .int .i64 (Y + 1), .int .u8 100] rfl rfl (three_new _ _ _ _ _) (by simp [Value.oneCell']) (by have := HL.out; (try simp only [List.length_append, List.length_cons, List.length_nil]); unfold maxLen; omega) (by have := HL.out; (try simp only [List.length_append, List.length_cons, List.length_nil]); omega) HBA3.out.size ?_); go_loud (intro v3 w3b hown3 hgrow3 _ _; have HOB3 : Hid (OwnS w.heap.size w3b v3 ((sidesTo (inB x y n) x y i ++ [((X, Y), 114)]) ++ [((X, (Y + 1)), 100)])) := Lib.hid (OwnS.snoc hown3); have HBB3 := Lib.hid (own_growS HBA3.out HOA3.out hgrow3); clear hown3 hgrow3)) | fail)
              refine ⟨⟨i + 1, by omega, by go_num, ?_, HBB3⟩, by simp [intOf]; omega⟩
              refine Lib.hid ?_
              rw [sidesTo, HXY.out.1, HXY.out.2]
              unfold sidesOf
              rw [if_neg HQ0.out, if_pos HQ1.out, if_pos HQ2.out, if_neg HQ3.out]
              simpa only [List.nil_append, List.append_nil, List.append_assoc] using HOB3.out
          | false =>
            have HQ2 : Hid (¬ inB x y n X (Y + 1) = true) := Lib.hid (by rw [hq2]; decide)
            clear hq2
            have hbA2 := below_one (w := w2a) (.cells #[.int .i64 (X + 1), .int .i64 (Y + 1), .int .u8 108] 89)
            have HOA2 : Hid (OwnS w.heap.size (w2a.alloc (.cells #[.int .i64 (X + 1), .int .i64 (Y + 1), .int .u8 108] 89)) _ ((sidesTo (inB x y n) x y i ++ [((X, Y), 114)]))) := Lib.hid (pw_own_below HO2.out hbA2)
            have HBA2 := Lib.hid (HB2.out.trans (hbA2.mono HB2.out.size))
            clear hbA2
            go_wp2_with (first | (at_builtin; go_loud (refine wpList_append_own_at _ rfl (.tmp 61) (.tmp 67) 87 rfl w.heap.size 89 i0 _ 3 24 Tryd.underlying87 HI.out HZ.out.1 HZ.out.2.1 HZ.out.2.2 rfl (by decide) _ _ _ rfl HOA2.out ⟨w2a.heap.size, 0, none⟩ 1 1 [.int .i64 (X + 1), .int .i64 (Y + 1), .int .u8 108] rfl rfl (three_new _ _ _ _ _) (by simp [Value.oneCell']) (by have := HL.out; (try simp only [List.length_append, List.length_cons, List.length_nil]); unfold maxLen; omega) (by have := HL.out; (try simp only [List.length_append, List.length_cons, List.length_nil]); omega) HBA2.out.size ?_); go_loud (intro v2 w2b hown2 hgrow2 _ _; have HOB2 : Hid (OwnS w.heap.size w2b v2 ((sidesTo (inB x y n) x y i ++ [((X, Y), 114)]) ++ [(((X + 1), (Y + 1)), 108)])) := Lib.hid (OwnS.snoc hown2); have HBB2 := Lib.hid (own_growS HBA2.out HOA2.out hgrow2); clear hown2 hgrow2)) | fail)
            refine (In_calls _ n c x y (X - 1) Y _ (HS.out.later HBB2.out) (by omega) (inB x y n (X - 1) Y) (inB_iff ..)).mono ?_
            rintro e w3a ⟨rfl, hb3⟩
            have HB3 := Lib.hid (HBB2.out.trans (hb3.mono HBB2.out.size))
            have HO3 : Hid (OwnS w.heap.size w3a _ (((sidesTo (inB x y n) x y i ++ [((X, Y), 114)]) ++ [(((X + 1), (Y + 1)), 108)]))) := Lib.hid (pw_own_below HOB2.out hb3)
            clear hb3
            cases hq3 : inB x y n (X - 1) Y with
            | true =>
              have HQ3 := Lib.hid hq3
              clear hq3
              go_wp2_with fail
              refine ⟨⟨i + 1, by omega, by go_num, ?_, HB3⟩, by simp [intOf]; omega⟩
              refine Lib.hid ?_
              rw [sidesTo, HXY.out.1, HXY.out.2]
              unfold sidesOf
              rw [if_neg HQ0.out, if_pos HQ1.out, if_neg HQ2.out, if_pos HQ3.out]
              simpa only [List.nil_append, List.append_nil, List.append_assoc] using HO3.out
            | false =>
              have HQ3 : Hid (¬ inB x y n (X - 1) Y = true) := Lib.hid (by rw [hq3]; decide)
              clear hq3
              have hbA3 := below_one (w := w3a) (.cells #[.int .i64 X, .int .i64 (Y + 1), .int .u8 100] 89)
              have HOA3 : Hid (OwnS w.heap.size (w3a.alloc (.cells #[.int .i64 X, .int .i64 (Y + 1), .int .u8 100] 89)) _ (((sidesTo (inB x y n) x y i ++ [((X, Y), 114)]) ++ [(((X + 1), (Y + 1)), 108)]))) := Lib.hid (pw_own_below HO3.out hbA3)
              have HBA3 := Lib.hid (HB3.out.trans (hbA3.mono HB3.out.size))
              clear hbA3
              go_wp2_with (first | (at_builtin; go_loud (refine wpList_append_own_at _ rfl (.tmp 75) (.tmp 80) 87 rfl w.heap.size 89 i0 _ 3 24 Tryd.underlying87 HI.out HZ.out.1 HZ.out.2.1 HZ.out.2.2 rfl (by decide) _ _ _ rfl HOA3.out ⟨w3a.heap.size, 0, none⟩ 1 1 [.int .i64 X, .int .i64 (Y + 1), .int .u8 100] rfl rfl (three_new _ _ _ _ _) (by simp [Value.oneCell']) (by have := HL.out; (try simp only [List.length_append, List.length_cons, List.length_nil]); unfold maxLen; omega) (by have := HL.out; (try simp only [List.length_append, List.length_cons, List.length_nil]); omega) HBA3.out.size ?_); go_loud (intro v3 w3b hown3 hgrow3 _ _; have HOB3 : Hid (OwnS w.heap.size w3b v3 (((sidesTo (inB x y n) x y i ++ [((X, Y), 114)]) ++ [(((X + 1), (Y + 1)), 108)]) ++ [((X, (Y + 1)), 100)])) := Lib.hid (OwnS.snoc hown3); have HBB3 := Lib.hid (own_growS HBA3.out HOA3.out hgrow3); clear hown3 hgrow3)) | fail)
              refine ⟨⟨i + 1, by omega, by go_num, ?_, HBB3⟩, by simp [intOf]; omega⟩
              refine Lib.hid ?_
              rw [sidesTo, HXY.out.1, HXY.out.2]
              unfold sidesOf
              rw [if_neg HQ0.out, if_pos HQ1.out, if_neg HQ2.out, if_neg HQ3.out]
              simpa only [List.nil_append, List.append_nil, List.append_assoc] using HOB3.out
        | false =>
          have HQ1 : Hid (¬ inB x y n (X + 1) Y = true) := Lib.hid (by rw [hq1]; decide)
          clear hq1
          have hbA1 := below_one (w := w1a) (.cells #[.int .i64 (X + 1), .int .i64 Y, .int .u8 117] 89)
          have HOA1 : Hid (OwnS w.heap.size (w1a.alloc (.cells #[.int .i64 (X + 1), .int .i64 Y, .int .u8 117] 89)) _ ((sidesTo (inB x y n) x y i ++ [((X, Y), 114)]))) := Lib.hid (pw_own_below HO1.out hbA1)
          have HBA1 := Lib.hid (HB1.out.trans (hbA1.mono HB1.out.size))
          clear hbA1
          go_wp2_with (first | (at_builtin; go_loud (refine wpList_append_own_at _ rfl (.tmp 48) (.tmp 53) 87 rfl w.heap.size 89 i0 _ 3 24 Tryd.underlying87 HI.out HZ.out.1 HZ.out.2.1 HZ.out.2.2 rfl (by decide) _ _ _ rfl HOA1.out ⟨w1a.heap.size, 0, none⟩ 1 1 [.int .i64 (X + 1), .int .i64 Y, .int .u8 117] rfl rfl (three_new _ _ _ _ _) (by simp [Value.oneCell']) (by have := HL.out; (try simp only [List.length_append, List.length_cons, List.length_nil]); unfold maxLen; omega) (by have := HL.out; (try simp only [List.length_append, List.length_cons, List.length_nil]); omega) HBA1.out.size ?_); go_loud (intro v1 w1b hown1 hgrow1 _ _; have HOB1 : Hid (OwnS w.heap.size w1b v1 ((sidesTo (inB x y n) x y i ++ [((X, Y), 114)]) ++ [(((X + 1), Y), 117)])) := Lib.hid (OwnS.snoc hown1); have HBB1 := Lib.hid (own_growS HBA1.out HOA1.out hgrow1); clear hown1 hgrow1)) | fail)
          refine (In_calls _ n c x y X (Y + 1) _ (HS.out.later HBB1.out) (by omega) (inB x y n X (Y + 1)) (inB_iff ..)).mono ?_
          rintro e w2a ⟨rfl, hb2⟩
          have HB2 := Lib.hid (HBB1.out.trans (hb2.mono HBB1.out.size))
          have HO2 : Hid (OwnS w.heap.size w2a _ (((sidesTo (inB x y n) x y i ++ [((X, Y), 114)]) ++ [(((X + 1), Y), 117)]))) := Lib.hid (pw_own_below HOB1.out hb2)
          clear hb2
          cases hq2 : inB x y n X (Y + 1) with
          | true =>
            have HQ2 := Lib.hid hq2
            clear hq2
            go_wp2_with fail
            refine (In_calls _ n c x y (X - 1) Y _ (HS.out.later HB2.out) (by omega) (inB x y n (X - 1) Y) (inB_iff ..)).mono ?_
            rintro e w3a ⟨rfl, hb3⟩
            have HB3 := Lib.hid (HB2.out.trans (hb3.mono HB2.out.size))
            have HO3 : Hid (OwnS w.heap.size w3a _ (((sidesTo (inB x y n) x y i ++ [((X, Y), 114)]) ++ [(((X + 1), Y), 117)]))) := Lib.hid (pw_own_below HO2.out hb3)
            clear hb3
            cases hq3 : inB x y n (X - 1) Y with
            | true =>
              have HQ3 := Lib.hid hq3
              clear hq3
              go_wp2_with fail
              refine ⟨⟨i + 1, by omega, by go_num, ?_, HB3⟩, by simp [intOf]; omega⟩
              refine Lib.hid ?_
              rw [sidesTo, HXY.out.1, HXY.out.2]
              unfold sidesOf
              rw [if_neg HQ0.out, if_neg HQ1.out, if_pos HQ2.out, if_pos HQ3.out]
              simpa only [List.nil_append, List.append_nil, List.append_assoc] using HO3.out
            | false =>
              have HQ3 : Hid (¬ inB x y n (X - 1) Y = true) := Lib.hid (by rw [hq3]; decide)
              clear hq3
              have hbA3 := below_one (w := w3a) (.cells #[.int .i64 X, .int .i64 (Y + 1), .int .u8 100] 89)
              have HOA3 : Hid (OwnS w.heap.size (w3a.alloc (.cells #[.int .i64 X, .int .i64 (Y + 1), .int .u8 100] 89)) _ (((sidesTo (inB x y n) x y i ++ [((X, Y), 114)]) ++ [(((X + 1), Y), 117)]))) := Lib.hid (pw_own_below HO3.out hbA3)
              have HBA3 := Lib.hid (HB3.out.trans (hbA3.mono HB3.out.size))
              clear hbA3
              go_wp2_with (first | (at_builtin; go_loud (refine wpList_append_own_at _ rfl (.tmp 75) (.tmp 80) 87 rfl w.heap.size 89 i0 _ 3 24 Tryd.underlying87 HI.out HZ.out.1 HZ.out.2.1 HZ.out.2.2 rfl (by decide) _ _ _ rfl HOA3.out ⟨w3a.heap.size, 0, none⟩ 1 1 [.int .i64 X, .int .i64 (Y + 1), .int .u8 100] rfl rfl (three_new _ _ _ _ _) (by simp [Value.oneCell']) (by have := HL.out; (try simp only [List.length_append, List.length_cons, List.length_nil]); unfold maxLen; omega) (by have := HL.out; (try simp only [List.length_append, List.length_cons, List.length_nil]); omega) HBA3.out.size ?_); go_loud (intro v3 w3b hown3 hgrow3 _ _; have HOB3 : Hid (OwnS w.heap.size w3b v3 (((sidesTo (inB x y n) x y i ++ [((X, Y), 114)]) ++ [(((X + 1), Y), 117)]) ++ [((X, (Y + 1)), 100)])) := Lib.hid (OwnS.snoc hown3); have HBB3 := Lib.hid (own_growS HBA3.out HOA3.out hgrow3); clear hown3 hgrow3)) | fail)
              refine ⟨⟨i + 1, by omega, by go_num, ?_, HBB3⟩, by simp [intOf]; omega⟩
              refine Lib.hid ?_
              rw [sidesTo, HXY.out.1, HXY.out.2]
              unfold sidesOf
              rw [if_neg HQ0.out, if_neg HQ1.out, if_pos HQ2.out, if_neg HQ3.out]
              simpa only [List.nil_append, List.append_nil, List.append_assoc] using HOB3.out
          | false =>
            have HQ2 : Hid (¬ inB x y n X (Y + 1) = true) := Lib.hid (by rw [hq2]; decide)
            clear hq2
            have hbA2 := below_one (w := w2a) (.cells #[.int .i64 (X + 1), .int .i64 (Y + 1), .int .u8 108] 89)
            have HOA2 : Hid (OwnS w.heap.size (w2a.alloc (.cells #[.int .i64 (X + 1), .int .i64 (Y + 1), .int .u8 108] 89)) _ (((sidesTo (inB x y n) x y i ++ [((X, Y), 114)]) ++ [(((X + 1), Y), 117)]))) := Lib.hid (pw_own_below HO2.out hbA2)
            have HBA2 := Lib.hid (HB2.out.trans (hbA2.mono HB2.out.size))
            clear hbA2
            go_wp2_with (first | (at_builtin; go_loud (refine wpList_append_own_at _ rfl (.tmp 61) (.tmp 67) 87 rfl w.heap.size 89 i0 _ 3 24 Tryd.underlying87 HI.out HZ.out.1 HZ.out.2.1 HZ.out.2.2 rfl (by decide) _ _ _ rfl HOA2.out ⟨w2a.heap.size, 0, none⟩ 1 1 [.int .i64 (X + 1), .int .i64 (Y + 1), .int .u8 108] rfl rfl (three_new _ _ _ _ _) (by simp [Value.oneCell']) (by have := HL.out; (try simp only [List.length_append, List.length_cons, List.length_nil]); unfold maxLen; omega) (by have := HL.out; (try simp only [List.length_append, List.length_cons, List.length_nil]); omega) HBA2.out.size ?_); go_loud (intro v2 w2b hown2 hgrow2 _ _; have HOB2 : Hid (OwnS w.heap.size w2b v2 (((sidesTo (inB x y n) x y i ++ [((X, Y), 114)]) ++ [(((X + 1), Y), 117)]) ++ [(((X + 1), (Y + 1)), 108)])) := Lib.hid (OwnS.snoc hown2); have HBB2 := Lib.hid (own_growS HBA2.out HOA2.out hgrow2); clear hown2 hgrow2)) | fail)
            refine (In_calls _ n c x y (X - 1) Y _ (HS.out.later HBB2.out) (by omega) (inB x y n (X - 1) Y) (inB_iff ..)).mono ?_
            rintro e w3a ⟨rfl, hb3⟩
            have HB3 := Lib.hid (HBB2.out.trans (hb3.mono HBB2.out.size))
            have HO3 : Hid (OwnS w.heap.size w3a _ ((((sidesTo (inB x y n) x y i ++ [((X, Y), 114)]) ++ [(((X + 1), Y), 117)]) ++ [(((X + 1), (Y + 1)), 108)]))) := Lib.hid (pw_own_below HOB2.out hb3)
            clear hb3
            cases hq3 : inB x y n (X - 1) Y with
            | true =>
              have HQ3 := Lib.hid hq3
              clear hq3
              go_wp2_with fail
              refine ⟨⟨i + 1, by omega, by go_num, ?_, HB3⟩, by simp [intOf]; omega⟩
              refine Lib.hid ?_
              rw [sidesTo, HXY.out.1, HXY.out.2]
              unfold sidesOf
              rw [if_neg HQ0.out, if_neg HQ1.out, if_neg HQ2.out, if_pos HQ3.out]
              simpa only [List.nil_append, List.append_nil, List.append_assoc] using HO3.out
            | false =>
              have HQ3 : Hid (¬ inB x y n (X - 1) Y = true) := Lib.hid (by rw [hq3]; decide)
              clear hq3
              have hbA3 := below_one (w := w3a) (.cells #[.int .i64 X, .int .i64 (Y + 1), .int .u8 100] 89)
              have HOA3 : Hid (OwnS w.heap.size (w3a.alloc (.cells #[.int .i64 X, .int .i64 (Y + 1), .int .u8 100] 89)) _ ((((sidesTo (inB x y n) x y i ++ [((X, Y), 114)]) ++ [(((X + 1), Y), 117)]) ++ [(((X + 1), (Y + 1)), 108)]))) := Lib.hid (pw_own_below HO3.out hbA3)
              have HBA3 := Lib.hid (HB3.out.trans (hbA3.mono HB3.out.size))
              clear hbA3
              go_wp2_with (first | (at_builtin; go_loud (refine wpList_append_own_at _ rfl (.tmp 75) (.tmp 80) 87 rfl w.heap.size 89 i0 _ 3 24 Tryd.underlying87 HI.out HZ.out.1 HZ.out.2.1 HZ.out.2.2 rfl (by decide) _ _ _ rfl HOA3.out ⟨w3a.heap.size, 0, none⟩ 1 1 [.int .i64 X, .int .i64 (Y + 1), .int .u8 100] rfl rfl (three_new _ _ _ _ _) (by simp [Value.oneCell']) (by have := HL.out; (try simp only [List.length_append, List.length_cons, List.length_nil]); unfold maxLen; omega) (by have := HL.out; (try simp only [List.length_append, List.length_cons, List.length_nil]); omega) HBA3.out.size ?_); go_loud (intro v3 w3b hown3 hgrow3 _ _; have HOB3 : Hid (OwnS w.heap.size w3b v3 ((((sidesTo (inB x y n) x y i ++ [((X, Y), 114)]) ++ [(((X + 1), Y), 117)]) ++ [(((X + 1), (Y + 1)), 108)]) ++ [((X, (Y + 1)), 100)])) := Lib.hid (OwnS.snoc hown3); have HBB3 := Lib.hid (own_growS HBA3.out HOA3.out hgrow3); clear hown3 hgrow3)) | fail)
              refine ⟨⟨i + 1, by omega, by go_num, ?_, HBB3⟩, by simp [intOf]; omega⟩
              refine Lib.hid ?_
              rw [sidesTo, HXY.out.1, HXY.out.2]
              unfold sidesOf
              rw [if_neg HQ0.out, if_neg HQ1.out, if_neg HQ2.out, if_neg HQ3.out]
              simpa only [List.nil_append, List.append_nil, List.append_assoc] using HOB3.out
    · obtain rfl : i = n := by omega
      obtain ⟨p, hp⟩ : ∃ p, (x 0, y 0) = p := ⟨_, rfl⟩
      obtain ⟨E, hE⟩ : ∃ E, sidesTo (inB x y i) x y i = E := ⟨_, rfl⟩
      rw [hE] at HO
      have HR2 : Hid (OutR E p K r d) := Lib.hid (by rw [← hE, ← hp]; exact HR.out)
      obtain ⟨hpos, he0⟩ : ∃ h : 0 < E.length, E[0] = (p, 114) := by
        obtain ⟨t, ht⟩ := HFS.out
        rw [hE, hp] at ht
        subst ht
        exact ⟨by simp, rfl⟩
      have hlen : E.length ≤ 120 := by rw [← hE]; have := sidesTo_length (inB x y i) x y i; omega
      obtain ⟨g, cap, rfl, hcap, hsd⟩ := HO.out.open hpos
      have HSD := Lib.hid hsd
      clear hsd HO HR HFS HG HS HP hlt
      have HPB : Hid (-100 ≤ p.1 ∧ p.1 ≤ 100 ∧ -100 ≤ p.2 ∧ p.2 ≤ 100) := Lib.hid (by rw [← hp]; exact HGX.out)
      have HEE := Lib.hid (And.intro hE hp)
      clear hE hp
      obtain ⟨w9, rfl⟩ : ∃ w9 : World, w9 = wr := ⟨_, rfl⟩
      go_wp2_with fail
      go_loopw [85] (fun q wr => ∃ k : Nat, k ≤ E.length ∧ q = .int .i64 k ∧ Hid (∀ a b, b < a → a < k → ∀ (ha : a < E.length) (hb : b < E.length), E[a].1 ≠ E[b].1) ∧ Hid (Below w.heap.size w wr) ∧ Hid (Sds wr g 0 E)) (fun q _ => E.length - (intOf q).toNat)
      case atStart => exact ⟨0, by omega, rfl, Lib.hid (fun a b _ h => by omega), HB, HSD⟩
      case round =>
        clear HB HSD
        obtain ⟨k, hk, rfl, HD, HB, HSD⟩ := hrel
        by_cases hkl : k < E.length
        · obtain ⟨wo, rfl⟩ : ∃ wo : World, wo = wr := ⟨_, rfl⟩
          have h0 := HSD.out.c0 k hkl
          have h1 := HSD.out.c1 k hkl
          have h2 := HSD.out.c2 k hkl
          obtain ⟨P, hP⟩ : ∃ P, E[k].1.1 = P := ⟨_, rfl⟩
          obtain ⟨Q, hQ⟩ : ∃ Q, E[k].1.2 = Q := ⟨_, rfl⟩
          obtain ⟨Z, hZ⟩ : ∃ Z, E[k].2 = Z := ⟨_, rfl⟩
          rw [hP, Nat.zero_add] at h0
          rw [hQ, Nat.zero_add] at h1
          rw [hZ, Nat.zero_add] at h2
          have HPQ := Lib.hid (And.intro hP hQ)
          have hkc : k ≤ cap := by omega
          have hkc' : k < cap := by omega
          clear hP hQ hZ
          go_wp2_with fail
          have hbA := below_one (w := wo) (.cells #[.int .i64 P, .int .i64 Q, .int .u8 Z] 89)
          have hcA := three_cells wo 89 (.int .i64 P) (.int .i64 Q) (.int .u8 Z)
          have hlA : wo.heap.size < (wo.alloc (.cells #[.int .i64 P, .int .i64 Q, .int .u8 Z] 89)).heap.size := by simp
          obtain ⟨wI, hwI⟩ : ∃ wI, wI = wo.alloc (.cells #[.int .i64 P, .int .i64 Q, .int .u8 Z] 89) := ⟨_, rfl⟩
          rw [← hwI] at hbA hcA hlA ⊢
          clear hwI h0 h1 h2
          have HSDI := Lib.hid (HSD.out.later hbA)
          have HBI := Lib.hid (HB.out.trans (hbA.mono HB.out.size))
          have HCA := Lib.hid hcA
          have HLA := Lib.hid hlA
          clear hbA hcA hlA HSD HB
          have HBJ := Lib.hid (Below.refl wI.heap.size wI)
          go_loopw [94] (fun q wr => ∃ j : Nat, j ≤ k ∧ q = .int .i64 j ∧ Hid (∀ b, b < j → ∀ (hb : b < E.length), E[k].1 ≠ E[b].1) ∧ Hid (Below wI.heap.size wI wr)) (fun q _ => k - (intOf q).toNat)
          case atStart => exact ⟨0, by omega, rfl, Lib.hid (fun b h => by omega), HBJ⟩
          case round =>
            clear HBJ
            obtain ⟨j, hj, rfl, HE, HBJ⟩ := hrel
            by_cases hjk : j < k
            · have hjl : j < E.length := by omega
              have g0 := (HSDI.out.later HBJ.out).c0 j hjl
              have g1 := (HSDI.out.later HBJ.out).c1 j hjl
              have g2 := (HSDI.out.later HBJ.out).c2 j hjl
              have d0 := (HBJ.out.cell (p := ⟨wo.heap.size, 0, none⟩) HLA.out).trans HCA.out.1
              have d1 := (HBJ.out.cell (p := ⟨wo.heap.size, 1, none⟩) HLA.out).trans HCA.out.2.1
              obtain ⟨P2, hP2⟩ : ∃ P2, E[j].1.1 = P2 := ⟨_, rfl⟩
              obtain ⟨Q2, hQ2⟩ : ∃ Q2, E[j].1.2 = Q2 := ⟨_, rfl⟩
              obtain ⟨Z2, hZ2⟩ : ∃ Z2, E[j].2 = Z2 := ⟨_, rfl⟩
              rw [hP2, Nat.zero_add] at g0
              rw [hQ2, Nat.zero_add] at g1
              rw [hZ2, Nat.zero_add] at g2
              have HPQ2 := Lib.hid (And.intro hP2 hQ2)
              have hbK := below_one (w := wr) (.cells #[.int .i64 P2, .int .i64 Q2, .int .u8 Z2] 89)
              have d0' := (hbK.cell (p := ⟨wo.heap.size, 0, none⟩) (Nat.lt_of_lt_of_le HLA.out HBJ.out.size)).trans d0
              have d1' := (hbK.cell (p := ⟨wo.heap.size, 1, none⟩) (Nat.lt_of_lt_of_le HLA.out HBJ.out.size)).trans d1
              have HBK := Lib.hid (HBJ.out.trans (hbK.mono HBJ.out.size))
              clear hP2 hQ2 hZ2 hbK
              by_cases e1 : P = P2
              · have b1 : (P == P2) = true := by simp [e1]
                have HE1 := Lib.hid e1
                by_cases e2 : Q = Q2
                · have b2 : (Q == Q2) = true := by simp [e2]
                  have HE2 := Lib.hid e2
                  clear e1 e2
                  obtain ⟨hr, hd⟩ := HR2.out.twice fun hn => by
                    have h3 := List.pairwise_iff_getElem.1 hn j k (by simpa using hjl) (by simpa using hkl) hjk
                    simp only [List.getElem_map] at h3
                    exact h3 (Prod.ext (by rw [HPQ.out.1, HPQ2.out.1, HE1.out]) (by rw [HPQ.out.2, HPQ2.out.2, HE2.out]))
                  have HRD := Lib.hid (And.intro hr hd)
                  clear hr hd
                  go_wp2
                  go_ret2
                  rw [HRD.out.1, HRD.out.2]
                  exact ⟨rfl, HBI.out.trans (HBK.out.mono HBI.out.size)⟩
                · have b2 : (Q == Q2) = false := by simp [e2]
                  have HE2 := Lib.hid e2
                  clear e1 e2
                  go_wp2_with fail
                  refine ⟨⟨j + 1, by omega, by go_num, Lib.hid (fun b hb hbl he => ?_), HBK⟩, by simp [intOf]; omega⟩
                  by_cases e : b = j
                  · subst e
                    have := congrArg Prod.snd he
                    rw [HPQ.out.2, HPQ2.out.2] at this
                    exact HE2.out this
                  · exact HE.out b (by omega) hbl he
              · have b1 : (P == P2) = false := by simp [e1]
                have HE1 := Lib.hid e1
                clear e1
                go_wp2_with fail
                refine ⟨⟨j + 1, by omega, by go_num, Lib.hid (fun b hb hbl he => ?_), HBK⟩, by simp [intOf]; omega⟩
                by_cases e : b = j
                · subst e
                  have := congrArg Prod.fst he
                  rw [HPQ.out.1, HPQ2.out.1] at this
                  exact HE1.out this
                · exact HE.out b (by omega) hbl he
            · obtain rfl : j = k := by omega
              have HB3 := Lib.hid (HBI.out.trans (HBJ.out.mono HBI.out.size))
              have HSD3 := Lib.hid (HSDI.out.later HBJ.out)
              clear HBJ HSDI
              go_wp2_with fail
              refine ⟨⟨j + 1, by omega, by go_num, Lib.hid (fun a b hba ha hal hbl => ?_), HB3, HSD3⟩, by simp [intOf]; omega⟩
              by_cases e : a = j
              · subst e
                exact HE.out b hba hbl
              · exact HD.out a b hba (by omega) hal hbl
        · obtain rfl : k = E.length := by omega
          have hnd : (E.map (·.1)).Nodup := by
            unfold List.Nodup
            rw [List.pairwise_map, List.pairwise_iff_getElem]
            exact fun a b ha hb hab he => HD.out b a hab hb hb ha he.symm
          have HN := Lib.hid hnd
          obtain ⟨hK1, hKl, hKp, hKm, hKf⟩ := HR2.out.turn hnd
          have HKP := Lib.hid hKp
          have HKM := Lib.hid hKm
          have HKF := Lib.hid hKf
          have c0 := HSD.out.c0 0 hpos
          have c1 := HSD.out.c1 0 hpos
          obtain ⟨P0, hP0⟩ : ∃ P0, p.1 = P0 := ⟨_, rfl⟩
          obtain ⟨Q0, hQ0⟩ : ∃ Q0, p.2 = Q0 := ⟨_, rfl⟩
          rw [he0] at c0 c1
          rw [show (p, (114 : Int)).1.1 = P0 from hP0] at c0
          rw [show (p, (114 : Int)).1.2 = Q0 from hQ0] at c1
          have HPQ0 := Lib.hid (And.intro hP0 hQ0)
          have HE0 := Lib.hid he0
          clear hnd hKp hKm hKf hP0 hQ0 he0 HD hkl
          have hposI : (0 : Int) < E.length := by omega
          have hcap0 : 0 < cap := by omega
          go_wp2_with fail
          refine start_ (n := 10) (S := fun w' => w'.cell? ⟨g, 0, none⟩ = some (.int .i64 P0) ∧ w'.cell? ⟨g, 1, none⟩ = some (.int .i64 Q0)) (ds := []) #[false, false, false, false, false, false, false, false, false, false] (by kernel_rfl) rfl rfl ⟨by simpa using c0, by simpa using c1⟩ (fun hHeld => ?_)
          refine pure_ (i := 0) (N := (some 112)) (v := ?_) (a' := ?_) #[true, false, false, false, false, false, false, false, false, false] rfl rfl (by kernel_rfl) (fun _ _ _ h => h) (Or.inl ⟨by rfl, ?_⟩) ?_ ?_
          rotate_left
          · intro w'; go_simp; first | done | with_reducible rfl
          rotate_left
          · simp only [Act.put, List.setIfInBounds_toArray, List.set_cons_zero, List.set_cons_succ, i64_w, i32_w]; rfl
          refine pure_ (i := 1) (N := (some 113)) (v := ?_) (a' := ?_) #[true, true, false, false, false, false, false, false, false, false] rfl rfl (by kernel_rfl) (fun _ _ _ h => h) (Or.inl ⟨by rfl, ?_⟩) ?_ ?_
          rotate_left
          · intro w'; go_simp; first | done | with_reducible rfl
          rotate_left
          · simp only [Act.put, List.setIfInBounds_toArray, List.set_cons_zero, List.set_cons_succ, i64_w, i32_w]; rfl
          refine pure_ (i := 2) (N := (some 114)) (v := ?_) (a' := ?_) #[true, true, true, false, false, false, false, false, false, false] rfl rfl (by kernel_rfl) (fun _ _ _ h => h) (Or.inl ⟨by rfl, ?_⟩) ?_ ?_
          rotate_left
          · intro w'; go_simp; first | done | with_reducible rfl
          rotate_left
          · simp only [Act.put, List.setIfInBounds_toArray, List.set_cons_zero, List.set_cons_succ, i64_w, i32_w]; rfl
          refine take_ (i := 3) (N := (some 115)) (v := ?_) (a' := ?_) #[true, true, true, true, false, false, false, false, false, false] rfl rfl (by kernel_rfl) (fun _ _ _ h => h) (Or.inl ⟨by rfl, ?_⟩) hHeld ?_ ?_
          rotate_left
          · rintro w' ⟨s0, s1⟩; go_simp; first | done | with_reducible rfl
          rotate_left
          · simp only [Act.put, List.setIfInBounds_toArray, List.set_cons_zero, List.set_cons_succ, i64_w, i32_w]; rfl
          refine pure_ (i := 4) (N := (some 116)) (v := ?_) (a' := ?_) #[true, true, true, true, true, false, false, false, false, false] rfl rfl (by kernel_rfl) (fun _ _ _ h => h) (Or.inl ⟨by rfl, ?_⟩) ?_ ?_
          rotate_left
          · intro w'; go_simp; first | done | with_reducible rfl
          rotate_left
          · simp only [Act.put, List.setIfInBounds_toArray, List.set_cons_zero, List.set_cons_succ, i64_w, i32_w]; rfl
          refine pure_ (i := 5) (N := (some 117)) (v := ?_) (a' := ?_) #[true, true, true, true, true, true, false, false, false, false] rfl rfl (by kernel_rfl) (fun _ _ _ h => h) (Or.inl ⟨by rfl, ?_⟩) ?_ ?_
          rotate_left
          · intro w'; go_simp; first | done | with_reducible rfl
          rotate_left
          · simp only [Act.put, List.setIfInBounds_toArray, List.set_cons_zero, List.set_cons_succ, i64_w, i32_w]; rfl
          refine pure_ (i := 6) (N := (some 118)) (v := ?_) (a' := ?_) #[true, true, true, true, true, true, true, false, false, false] rfl rfl (by kernel_rfl) (fun _ _ _ h => h) (Or.inl ⟨by rfl, ?_⟩) ?_ ?_
          rotate_left
          · intro w'; go_simp; first | done | with_reducible rfl
          rotate_left
          · simp only [Act.put, List.setIfInBounds_toArray, List.set_cons_zero, List.set_cons_succ, i64_w, i32_w]; rfl
          refine take_ (i := 7) (N := (some 119)) (v := ?_) (a' := ?_) #[true, true, true, true, true, true, true, true, false, false] rfl rfl (by kernel_rfl) (fun _ _ _ h => h) (Or.inl ⟨by rfl, ?_⟩) hHeld ?_ ?_
          rotate_left
          · rintro w' ⟨s0, s1⟩; go_simp; first | done | with_reducible rfl
          rotate_left
          · simp only [Act.put, List.setIfInBounds_toArray, List.set_cons_zero, List.set_cons_succ, i64_w, i32_w]; rfl
          refine pure_ (i := 8) (N := (some 14)) (v := ?_) (a' := ?_) #[true, true, true, true, true, true, true, true, true, false] rfl rfl (by kernel_rfl) (fun _ _ _ h => h) (Or.inl ⟨by rfl, ?_⟩) ?_ ?_
          rotate_left
          · intro w'; go_simp; first | done | with_reducible rfl
          rotate_left
          · simp only [Act.put, List.setIfInBounds_toArray, List.set_cons_zero, List.set_cons_succ, i64_w, i32_w]; rfl
          refine pure_ (i := 9) (N := (some 15)) (v := ?_) (a' := ?_) #[true, true, true, true, true, true, true, true, true, true] rfl rfl (by kernel_rfl) (fun _ _ _ h => h) (Or.inl ⟨by rfl, ?_⟩) ?_ ?_
          rotate_left
          · intro w'; go_simp; first | done | with_reducible rfl
          rotate_left
          · simp only [Act.put, List.setIfInBounds_toArray, List.set_cons_zero, List.set_cons_succ, i64_w, i32_w]; rfl
          refine done_ (by kernel_rfl) ?_
          have HB2 := Lib.hid HB.out.drew
          have HSD2 := Lib.hid (HSD.out.later (Below.refl _ _).drew)
          clear hHeld c0 c1 HB HSD
          generalize wr.drew = w2 at HB2 HSD2 ⊢
          go_wp2_with fail
          go_loopw [122, 13, 14, 15] (fun q s a b wr => ∃ k : Nat, k < K ∧ q = .int .i64 k ∧ s = .string (wlB E p k) ∧ a = .int .i64 (fol E p k).1 ∧ b = .int .i64 (fol E p k).2 ∧ Hid (Below w.heap.size w wr) ∧ Hid (Sds wr g 0 E)) (fun q _ _ _ _ => K - (intOf q).toNat)
          case atStart => exact ⟨0, by omega, rfl, rfl, congrArg _ HPQ0.out.1.symm, congrArg _ HPQ0.out.2.symm, HB2, HSD2⟩
          case round =>
            clear HB2 HSD2
            obtain ⟨k, hk, rfl, rfl, rfl, rfl, HB, HSD⟩ := hrel
            obtain ⟨wo, rfl⟩ : ∃ wo : World, wo = wr := ⟨_, rfl⟩
            have hkl : k < E.length := by omega
            obtain ⟨c1, hc, hcl, hcc⟩ := HKF.out k
            have hfb := fol_le E p k
            have hpb := HPB.out
            obtain ⟨q, hq⟩ : ∃ q, fol E p k = q := ⟨_, rfl⟩
            rw [hq] at hc hfb
            have hq2 := fol_succ E p k
            rw [hq, ← hq, hcc, hq] at hq2
            obtain ⟨q2, hqq⟩ : ∃ q2, fol E p (k + 1) = q2 := ⟨_, rfl⟩
            rw [hqq] at hq2
            obtain ⟨X, hX⟩ : ∃ X, q.1 = X := ⟨_, rfl⟩
            obtain ⟨Y, hY⟩ : ∃ Y, q.2 = Y := ⟨_, rfl⟩
            obtain ⟨X2, hX2⟩ : ∃ X2, q2.1 = X2 := ⟨_, rfl⟩
            obtain ⟨Y2, hY2⟩ : ∃ Y2, q2.2 = Y2 := ⟨_, rfl⟩
            rw [hX, hY] at hfb
            have hx2 : X + stepx c1 = X2 := by rw [← hX2, hq2, hX]
            have hy2 : Y + stepy c1 = Y2 := by rw [← hY2, hq2, hY]
            have hsb := step_small c1
            have hw1 : wrap64 (X + stepx c1) = X2 := by unfold wrap64; omega
            have hw2 : wrap64 (Y + rstepy c1) = Y2 := by rw [rstepy_of hcl]; unfold wrap64; omega
            have hcat : wlB E p k ++ strOfNums [c1] = wlB E p (k + 1) := by rw [← wlB_succ, hcc]
            have hend : k + 1 = K ↔ (X2 = P0 ∧ Y2 = Q0) := by
              rw [← hX2, ← hY2, ← hqq, ← HPQ0.out.1, ← HPQ0.out.2]
              constructor
              · intro e
                rw [e, HKP.out]
                exact ⟨rfl, rfl⟩
              · rintro ⟨e1, e2⟩
                refine Classical.byContradiction fun hne => HKM.out (k + 1) (by omega) (by omega) (Prod.ext e1 e2)
            have HWW := Lib.hid (And.intro hw1 hw2)
            have HCAT := Lib.hid hcat
            have HEND := Lib.hid hend
            have HC := Lib.hid (And.intro hc hcl)
            have HQ := Lib.hid (show q = (X, Y) from Prod.ext hX hY)
            have HQ2 := Lib.hid (show fol E p (k + 1) = (X2, Y2) from by rw [hqq]; exact Prod.ext hX2 hY2)
            rw [hq, hX, hY]
            clear hw1 hw2 hcat hend hc hcl hcc hfb hpb hq hq2 hqq hX hY hX2 hY2 hx2 hy2 hsb
            go_wp2_with fail
            have HBJ := Lib.hid (Below.refl wo.heap.size wo)
            go_loopw [126, 13, 14, 15] (fun q s a b wr => ∃ j : Nat, j ≤ E.length ∧ q = .int .i64 j ∧ s = .string (wlB E p k) ∧ a = .int .i64 X ∧ b = .int .i64 Y ∧ Hid (∀ b, b < j → ∀ (hb : b < E.length), E[b].1 ≠ (X, Y)) ∧ Hid (Below wo.heap.size wo wr)) (fun q _ _ _ _ => E.length - (intOf q).toNat)
            case atStart => exact ⟨0, by omega, rfl, rfl, rfl, rfl, Lib.hid (fun b h => by omega), HBJ⟩
            case round =>
              clear HBJ
              obtain ⟨j, hj, rfl, rfl, rfl, rfl, HE, HBJ⟩ := hrel
              by_cases hjl : j < E.length
              · have g0 := (HSD.out.later HBJ.out).c0 j hjl
                have g1 := (HSD.out.later HBJ.out).c1 j hjl
                have g2 := (HSD.out.later HBJ.out).c2 j hjl
                obtain ⟨P2, hP2⟩ : ∃ P2, E[j].1.1 = P2 := ⟨_, rfl⟩
                obtain ⟨Q2, hQ2⟩ : ∃ Q2, E[j].1.2 = Q2 := ⟨_, rfl⟩
                obtain ⟨Z2, hZ2⟩ : ∃ Z2, E[j].2 = Z2 := ⟨_, rfl⟩
                rw [hP2, Nat.zero_add] at g0
                rw [hQ2, Nat.zero_add] at g1
                rw [hZ2, Nat.zero_add] at g2
                have HPQ2 := Lib.hid (And.intro hP2 (And.intro hQ2 hZ2))
                have hjc : j < cap := by omega
                have hbK := below_one (w := wr) (.cells #[.int .i64 P2, .int .i64 Q2, .int .u8 Z2] 89)
                have HBK := Lib.hid (HBJ.out.trans (hbK.mono HBJ.out.size))
                clear hP2 hQ2 hZ2
                by_cases e1 : P2 = X
                · have b1 : (P2 == X) = true := by simp [e1]
                  have HE1 := Lib.hid e1
                  by_cases e2 : Q2 = Y
                  · have b2 : (Q2 == Y) = true := by simp [e2]
                    have hZ : Z2 = c1 := by
                      have h3 := findL_at E j hjl (q := (X, Y)) (fun b hb hbl => HE.out b hb hbl) (Prod.ext (by rw [HPQ2.out.1]; exact e1) (by rw [HPQ2.out.2.1]; exact e2))
                      rw [← HQ.out, HC.out.1] at h3
                      injection h3 with h3
                      rw [← HPQ2.out.2.2, ← h3]
                    subst hZ
                    clear e1 e2
                    have hcv := conv_one (wr.alloc (.cells #[.int .i64 P2, .int .i64 Q2, .int .u8 Z2] 89)) Z2
                    rw [show (wr.alloc (.cells #[.int .i64 P2, .int .i64 Q2, .int .u8 Z2] 89)).heap.size = wr.heap.size + 1 by simp] at hcv
                    have hsz : (9223372036854775807 < (wlB E p k).size + (strOfNums [Z2]).size) = False := by
                      rw [wlB_size]
                      have : (strOfNums [Z2]).size = 1 := rfl
                      simp
                      omega
                    have hbL := (below_one (w := wr.alloc (.cells #[.int .i64 P2, .int .i64 Q2, .int .u8 Z2] 89)) (.cells #[.int .u8 Z2] 5))
                    have HBL := Lib.hid (HBK.out.trans (hbL.mono HBK.out.size))
                    clear hbK hbL
                    have hcat := HCAT.out
                    go_wp2_with fail
                    refine (PA.comfitref07_step.calls Z2 (stepx Z2) (rstepy Z2) _ (rstep_f Z2)).mono ?_
                    rintro e w6 ⟨rfl, hd6⟩
                    have HB6 := Lib.hid (HBL.out.trans (hd6.below.mono HBL.out.size))
                    have c0 := ((HSD.out.later HB6.out).c0 0 hpos)
                    have c1' := ((HSD.out.later HB6.out).c1 0 hpos)
                    rw [HE0.out, Nat.zero_add] at c0 c1'
                    rw [show (p, (114 : Int)).1.1 = P0 from HPQ0.out.1] at c0
                    rw [show (p, (114 : Int)).1.2 = Q0 from HPQ0.out.2] at c1'
                    have hw1 := HWW.out.1
                    have hw2 := HWW.out.2
                    have HBX := Lib.hid (HB.out.trans (HB6.out.mono HB.out.size))
                    have HSX := Lib.hid (HSD.out.later HB6.out)
                    clear hd6 hcv hsz hcat HBK HBL HBJ g0 g1 g2
                    by_cases hK : k + 1 = K
                    · obtain ⟨rfl, rfl⟩ := HEND.out.1 hK
                      subst hK
                      have hZ : (wlB E p (k + 1)).size = k + 1 := wlB_size E p (k + 1)
                      by_cases hlt : k + 1 < E.length
                      · have hi1 : ((k : Int) + 1 < (E.length : Int)) := by omega
                        obtain ⟨hr, hd⟩ := HR2.out.few HN.out (by omega)
                        have HRD := Lib.hid (And.intro hr hd)
                        clear hr hd
                        go_wp2
                        go_ret2
                        rw [HRD.out.1, HRD.out.2]
                        exact ⟨rfl, HBX.out⟩
                      · have hi1 : ¬ ((k : Int) + 1 < (E.length : Int)) := by omega
                        by_cases h24 : 24 < k + 1
                        · have hi2 : ((24 : Int) < (k : Int) + 1) := by omega
                          obtain ⟨hr, hd⟩ := HR2.out.many HN.out (by omega) (by omega)
                          have HRD := Lib.hid (And.intro hr hd)
                          clear hr hd
                          go_wp2
                          go_ret2
                          rw [HRD.out.1, HRD.out.2]
                          exact ⟨rfl, HBX.out⟩
                        · have hi2 : ¬ ((24 : Int) < (k : Int) + 1) := by omega
                          obtain ⟨hr, hd⟩ := HR2.out.fits HN.out (by omega) (by omega)
                          have HRD := Lib.hid (And.intro hr hd)
                          clear hr hd
                          go_wp2_with fail
                          refine (rfirst_calls (wlB E p (k + 1)) _ (by rw [wlB_size]; omega)).mono ?_
                          rintro e w7 ⟨rfl, hb7⟩
                          have HBY := Lib.hid (HBX.out.trans (hb7.mono HBX.out.size))
                          clear hb7
                          go_wp2
                          go_ret2
                          rw [HRD.out.1, HRD.out.2]
                          exact ⟨rfl, HBY.out⟩
                    · have hne : ¬ (X2 = P0 ∧ Y2 = Q0) := fun h => hK (HEND.out.2 h)
                      have HK := Lib.hid hK
                      by_cases hx : X2 = P0
                      · have hy : ¬ Y2 = Q0 := fun h => hne ⟨hx, h⟩
                        have b3 : (X2 == P0) = true := by simp [hx]
                        have b4 : (Y2 == Q0) = false := by simp [hy]
                        clear hx hy hne hK
                        go_wp2_with fail
                        refine ⟨⟨k + 1, by have := HK.out; omega, by go_num, rfl, ?_, ?_, HBX, HSX⟩, by simp [intOf]; omega⟩
                        · rw [HWW.out.1, HQ2.out]
                        · rw [HWW.out.2, HQ2.out]
                      · have b3 : (X2 == P0) = false := by simp [hx]
                        clear hx hne hK
                        go_wp2_with fail
                        refine ⟨⟨k + 1, by have := HK.out; omega, by go_num, rfl, ?_, ?_, HBX, HSX⟩, by simp [intOf]; omega⟩
                        · rw [HWW.out.1, HQ2.out]
                        · rw [HWW.out.2, HQ2.out]
                  · have b2 : (Q2 == Y) = false := by simp [e2]
                    have HE2 := Lib.hid e2
                    clear e1 e2 hbK
                    go_wp2_with fail
                    refine ⟨⟨j + 1, by omega, by go_num, rfl, rfl, rfl, Lib.hid (fun b hb hbl he => ?_), HBK⟩, by simp [intOf]; omega⟩
                    by_cases e : b = j
                    · subst e
                      have := congrArg Prod.snd he
                      rw [HPQ2.out.2.1] at this
                      exact HE2.out this
                    · exact HE.out b (by omega) hbl he
                · have b1 : (P2 == X) = false := by simp [e1]
                  have HE1 := Lib.hid e1
                  clear e1 hbK
                  go_wp2_with fail
                  refine ⟨⟨j + 1, by omega, by go_num, rfl, rfl, rfl, Lib.hid (fun b hb hbl he => ?_), HBK⟩, by simp [intOf]; omega⟩
                  by_cases e : b = j
                  · subst e
                    have := congrArg Prod.fst he
                    rw [HPQ2.out.1] at this
                    exact HE1.out this
                  · exact HE.out b (by omega) hbl he
              · exfalso
                obtain rfl : j = E.length := by omega
                have := findL_mem HC.out.1
                rw [HQ.out] at this
                obtain ⟨m, hm, he⟩ := List.getElem_of_mem this
                exact HE.out m hm hm (by rw [he])
end Go.Proofs.YtpfenoioeajkmaaDoor.X
end

section
set_option linter.unusedVariables false
set_option linter.unusedSimpArgs false
namespace Go.Proofs.YtpfenoioeajkmaaDoor.X
open Go.RowKit Go.Proofs.YtpfenoioeajkmaaDoorW.PrintWords Go.Proofs.YtpfenoioeajkmaaDoorW.PrintLast Go.Proofs.YtpfenoioeajkmaaDoorW.PrintMore Go.Proofs.YtpfenoioeajkmaaDoor.L
def fX (a : Int) (j : Nat) : Int := if j = 1 ∨ j = 2 then a + 1 else a
def fY (b : Int) (j : Nat) : Int := if j = 2 ∨ j = 3 then b + 1 else b
def nX (a : Int) (j : Nat) : Int := if j = 1 then a + 1 else if j = 3 then a - 1 else a
def nY (b : Int) (j : Nat) : Int := if j = 0 then b - 1 else if j = 2 then b + 1 else b
def fL (j : Nat) : Int := if j = 0 then 114 else if j = 1 then 117 else if j = 2 then 108 else 100
def sof (C : Int → Int → Bool) (a b : Int) : Nat → List Side
  | 0 => []
  | j + 1 => sof C a b j ++ if C (nX a j) (nY b j) then [] else [((fX a j, fY b j), fL j)]
theorem sof_four (C : Int → Int → Bool) (a b : Int) : sof C a b 4 = sidesOf C a b := by
  unfold sidesOf
  simp [sof, nX, nY, fX, fY, fL, List.append_assoc]
theorem sof_length (C : Int → Int → Bool) (a b : Int) : ∀ j, (sof C a b j).length ≤ j
  | 0 => by simp [sof]
  | j + 1 => by
    have := sof_length C a b j
    rw [sof, List.length_append]
    split <;> simp <;> omega
theorem sidesTo_letters (C : Int → Int → Bool) (x y : Nat → Int) (k : Nat) : ∀ e ∈ sidesTo C x y k, isL e.2 := fun e he => by
  obtain ⟨i, -, h⟩ := (mem_sidesTo C x y e k).1 he
  obtain ⟨⟨p, q⟩, c⟩ := e
  rw [mem_sidesOf] at h
  unfold isL
  simp only
  omega
theorem mapOf_letters (l : List Side) (h : ∀ e ∈ l, isL e.2) : ∀ q c, findL (mapOf l) q = some c → isL c := by
  refine rev_ind (P := fun l : List Side => (∀ e ∈ l, isL e.2) → ∀ q c, findL (mapOf l) q = some c → isL c) ?_ ?_ l h
  · intro _ q c h
    cases h
  · intro l e ih he q c hf
    rw [mapOf_snoc, findL_putL] at hf
    split at hf
    · injection hf with hf
      rw [← hf]
      exact he e (by simp)
    · exact ih (fun a ha => he a (by simp [ha])) q c hf
def quadC (X Y : Int) : List Value := [.int .i64 X, .int .i64 Y, .int .i64 X, .int .i64 (Y - 1), .int .u8 114, .int .i64 (X + 1), .int .i64 Y, .int .i64 (X + 1), .int .i64 Y, .int .u8 117, .int .i64 (X + 1), .int .i64 (Y + 1), .int .i64 X, .int .i64 (Y + 1), .int .u8 108, .int .i64 X, .int .i64 (Y + 1), .int .i64 (X - 1), .int .i64 Y, .int .u8 100]
structure Quad (w : World) (g : Nat) (X Y : Int) : Prop where
  c0 : ∀ j : Nat, j < 4 → w.cell? ⟨g, j * 5, none⟩ = some (.int .i64 (fX X j))
  c1 : ∀ j : Nat, j < 4 → w.cell? ⟨g, j * 5 + 1, none⟩ = some (.int .i64 (fY Y j))
  c2 : ∀ j : Nat, j < 4 → w.cell? ⟨g, j * 5 + 2, none⟩ = some (.int .i64 (nX X j))
  c3 : ∀ j : Nat, j < 4 → w.cell? ⟨g, j * 5 + 3, none⟩ = some (.int .i64 (nY Y j))
  c4 : ∀ j : Nat, j < 4 → w.cell? ⟨g, j * 5 + 4, none⟩ = some (.int .u8 (fL j))
theorem Quad.of {w : World} {g : Nat} {X Y : Int} {t : TypeId} (h : w.heap[g]? = some (.cells (quadC X Y).toArray t (0, 0))) : Quad w g X Y := by
  have four : ∀ {j : Nat}, j < 4 → j = 0 ∨ j = 1 ∨ j = 2 ∨ j = 3 := fun h => by omega
  constructor <;> intro j hj <;> rw [blk_cell h] <;> rcases four hj with rfl | rfl | rfl | rfl <;> rfl
theorem Quad.later {w w' : World} {g : Nat} {X Y : Int} (h : Quad w g X Y) (hb : Below w.heap.size w w') : Quad w' g X Y := by
  have hlt := World.block_lt_of_cell? w _ (h.c0 0 (by omega))
  exact ⟨fun j hj => (hb.cell (p := ⟨g, j * 5, none⟩) hlt).trans (h.c0 j hj), fun j hj => (hb.cell (p := ⟨g, j * 5 + 1, none⟩) hlt).trans (h.c1 j hj), fun j hj => (hb.cell (p := ⟨g, j * 5 + 2, none⟩) hlt).trans (h.c2 j hj), fun j hj => (hb.cell (p := ⟨g, j * 5 + 3, none⟩) hlt).trans (h.c3 j hj), fun j hj => (hb.cell (p := ⟨g, j * 5 + 4, none⟩) hlt).trans (h.c4 j hj)⟩
theorem Quad.keep {w w' : World} {g : Nat} {X Y : Int} (h : Quad w g X Y) (he : w'.heap[g]? = w.heap[g]?) : Quad w' g X Y :=
  ⟨fun j hj => (World.cell?_of_block (a := ⟨g, j * 5, none⟩) he).trans (h.c0 j hj), fun j hj => (World.cell?_of_block (a := ⟨g, j * 5 + 1, none⟩) he).trans (h.c1 j hj), fun j hj => (World.cell?_of_block (a := ⟨g, j * 5 + 2, none⟩) he).trans (h.c2 j hj), fun j hj => (World.cell?_of_block (a := ⟨g, j * 5 + 3, none⟩) he).trans (h.c3 j hj), fun j hj => (World.cell?_of_block (a := ⟨g, j * 5 + 4, none⟩) he).trans (h.c4 j hj)⟩
structure OuS (w1 : World) (M : List Side) (wr : World) : Prop where
  map : IsM pairV (Value.int .u8) wr w1.heap.size M
  bl : Below w1.heap.size w1 wr
theorem OuS.later {w1 : World} {M : List Side} {wr w2 : World} (h : OuS w1 M wr) (hb : Below wr.heap.size wr w2) : OuS w1 M w2 :=
  ⟨h.map.below hb, h.bl.trans (hb.mono h.bl.size)⟩
structure FoS (w1 : World) (b : Nat) (M : List Side) (p : Int × Int) (k g : Nat) (wr : World) : Prop where
  map : IsM pairV (Value.int .u8) wr w1.heap.size M
  bl : Below w1.heap.size w1 wr
  bd : Lib.IsBuilderF 80 5 b b (Lib.byteCells (wl M p k)) wr
  pt : wr.heap[g]? = some (.cells #[.int .i64 (fol M p k).1, .int .i64 (fol M p k).2] 63 (0, 0))
  rb : w1.heap.size < b
  gb : b < g
theorem bld_later {T e : TypeId} {B b : Nat} {bs : List Value} {w w' : World} (h : Lib.IsBuilderF T e B b bs w) (hb : Below w.heap.size w w') : Lib.IsBuilderF T e B b bs w' := by
  have key : ∀ p, Lib.BuilderAtF T e B b p bs w → Lib.BuilderAtF T e B b p bs w' := by
    intro p hp
    have hlt := hp.lt
    obtain ⟨h1, v, h2, ⟨h3, h4⟩, h5⟩ := hp
    refine ⟨h1, v, (hb.block b hlt).trans h2, ⟨h3, ?_⟩, h5⟩
    rcases h4 with h4 | ⟨g, cap, cur, fz, e1, e2, e3, e4⟩
    · exact .inl h4
    · exact .inr ⟨g, cap, cur, fz, e1, e2, (hb.block g (Array.getElem?_eq_some_iff.1 e3).1).trans e3, e4⟩
  rcases h with h | h
  · exact .inl (key _ h)
  · exact .inr (key _ h)
theorem FoS.later {w1 : World} {b : Nat} {M : List Side} {p : Int × Int} {k g : Nat} {wr w2 : World} (h : FoS w1 b M p k g wr) (hb : Below wr.heap.size wr w2) : FoS w1 b M p k g w2 :=
  ⟨h.map.below hb, h.bl.trans (hb.mono h.bl.size), bld_later h.bd hb, (hb.block g (Array.getElem?_eq_some_iff.1 h.pt).1).trans h.pt, h.rb, h.gb⟩
theorem bld_len {T e : TypeId} {B b : Nat} {bs : List Value} {w : World} (h : Lib.IsBuilderF T e B b bs w) : ∃ a c, w.cell? ⟨b, 1, none⟩ = some (.slice a bs.length c) := by
  have key : ∀ p, Lib.BuilderAtF T e B b p bs w → ∃ a c, w.cell? ⟨b, 1, none⟩ = some (.slice a bs.length c) := by
    rintro p ⟨h1, v, h2, ⟨h3, h4⟩, h5⟩
    have hc : w.cell? ⟨b, 1, none⟩ = some v := by simp [World.cell?, h2]
    rcases h4 with ⟨h4, h6⟩ | ⟨g, cap, cur, fz, e1, e2, e3, e4⟩
    · exact ⟨none, 0, by rw [hc, h4, h6]⟩
    · exact ⟨_, cap, by rw [hc, e1]⟩
  rcases h with h | h
  · exact key _ h
  · exact key _ h
def leftOf (b n : Nat) (w : World) : Nat := match w.cell? ⟨b, 1, none⟩ with
  | some (.slice _ k _) => n + 1 - k
  | _ => 0
theorem FoS.left {w1 : World} {b : Nat} {M : List Side} {p : Int × Int} {k g : Nat} {wr : World} (h : FoS w1 b M p k g wr) (n : Nat) : leftOf b n wr = n + 1 - k := by
  obtain ⟨a, c, hc⟩ := bld_len h.bd
  unfold leftOf
  rw [hc, Lib.byteCells_length, wl_length]
theorem FoS.next {w1 : World} {b : Nat} {M : List Side} {p : Int × Int} {k g : Nat} {wr w2 : World} (h : FoS w1 b M p k g wr) (hl : isL (ltr M (fol M p k)) ∨ ltr M (fol M p k) = 0)
    (hbd : Lib.BuilderAtF 80 5 b b (.pointer (some ⟨b, 0, none⟩)) (Lib.byteCells (wl M p k) ++ [.int .u8 (ltr M (fol M p k))]) w2) (hb : Below b wr w2) (hk : Lib.OthersKept 5 (some b) wr w2) :
    IsM pairV (Value.int .u8) w2 w1.heap.size M ∧ Below w1.heap.size w1 w2 ∧ Lib.IsBuilderF 80 5 b b (Lib.byteCells (wl M p (k + 1))) w2 ∧ w2.heap[g]? = some (.cells #[.int .i64 (fol M p k).1, .int .i64 (fol M p k).2] 63 (0, 0)) := by
  refine ⟨h.map.of_heap (hb.block _ h.rb), h.bl.trans (hb.mono (Nat.le_of_lt h.rb)), .inr ?_, hk g _ h.pt (by have := h.gb; simp; omega) (by simp)⟩
  rw [wl_succ, Lib.byteCells_append]
  have e : Lib.byteCells [(ltr M (fol M p k)).toNat.toUInt8] = [.int .u8 (ltr M (fol M p k))] := by
    unfold isL at hl
    rcases hl with (e | e | e | e) | e <;> rw [e] <;> rfl
  rw [e]
  exact hbd
theorem FoS.start {w1 w : World} {M : List Side} {p : Int × Int} (h : OuS w1 M w) : FoS w1 w.heap.size M p 0 (w.heap.size + 1) ((w.alloc (.cells #[.pointer none, .slice none 0 0] 80)).alloc (.cells #[.int .i64 p.1, .int .i64 p.2] 63)) := by
  have hb1 := below_one (w := w) (.cells #[.pointer none, .slice none 0 0] 80)
  have hb2 := below_one (w := w.alloc (.cells #[.pointer none, .slice none 0 0] 80)) (.cells #[.int .i64 p.1, .int .i64 p.2] 63)
  have e : (w.alloc (.cells #[.pointer none, .slice none 0 0] 80)).heap.size = w.heap.size + 1 := by simp
  have hbb := hb1.trans (hb2.mono hb1.size)
  refine ⟨h.map.below hbb, h.bl.trans (hbb.mono h.bl.size), bld_later (Lib.IsBuilderF.of (Lib.fresh_isBuilder 80 5 w)) hb2, ?_, h.map.lt, by omega⟩
  rw [← e]
  exact blk_new _ _
theorem plus_at {a b c d r t : Int} (h1 : wrap64 (a + c) = r) (h2 : wrap64 (b + d) = t) (w : World) : Calls Tryd.prog 65 #[ptV a b, ptV c d] w fun e w' => e = .returned (.agg #[.int .i64 r, .int .i64 t]) ∧ Below w.heap.size w w' := by
  rw [← h1, ← h2]
  exact plus_calls a b c d w
theorem value_step {P : Program} {ops : Array Oper} {oi : Oper} {N : Option Tmp} {a : Act} {Q : Exit → Act → World → Prop} {K : Act → World → Prop} {W w1 : World} {v : Value} (hw : Region.wanted oi (yielded ops a.tmps) = true) (hN : oi.dst = N)
    (hrun : (execOp a.eval oi).run P W = .ok (.value v) w1) (h : K (a.put N v) w1) : if Region.wanted oi (yielded ops a.tmps) = true then Oper.wp P oi a W K Q else K (a.put N undef) W := by
  subst hN
  rw [if_pos hw]
  unfold Oper.wp
  rw [hrun]
  exact h
theorem FoS.len {w1 : World} {b : Nat} {M : List Side} {p : Int × Int} {k g : Nat} {wr : World} (h : FoS w1 b M p k g wr) : Calls Tryd.prog 68 #[.pointer (some ⟨b, 0, none⟩)] wr fun e w' => e = .returned (.int .i64 k) ∧ w' = wr := by
  refine (Tryd.Builder_Len_f b b _ _ h.bd).mono ?_
  rintro e w' ⟨rfl, rfl⟩
  rw [Lib.byteCells_length, wl_length]
  exact ⟨rfl, rfl⟩
theorem set_two {w : World} {g : Nat} {a b u v : Value} {t : TypeId} {fz : Nat × Nat} (h : w.heap[g]? = some (.cells #[a, b] t fz)) : ((w.setCell ⟨g, 0, none⟩ u).setCell ⟨g, 1, none⟩ v).heap[g]? = some (.cells #[u, v] t fz) := by
  simp [World.setCell, Array.getElem?_modify, h]
theorem OutR.stop {E M : List Side} {p : Int × Int} {K m : Nat} {r : ByteArray} {d : Int} (hR : OutR E p K r d) (hM : mapOf E = M) (h1 : 1 ≤ m) (hmin : ∀ i, 0 < i → i < m → fol M p i ≠ p) (hs : fol M p m = p ∨ E.length < m) :
    (m ≠ E.length → r = ⟨#[]⟩ ∧ d = 5) ∧ (m = E.length → M.length ≠ E.length → r = ⟨#[]⟩ ∧ d = 5) ∧ (m = E.length → M.length = E.length → (24 < E.length → r = ⟨#[]⟩ ∧ d = 6) ∧ (E.length ≤ 24 → r = firstTo (wlB M p m) m ∧ d = 0)) := by
  by_cases hn : (E.map (·.1)).Nodup
  · have e : M = E := by rw [← hM]; exact (mapOf_keys E).2.2.2 hn
    subst e
    obtain ⟨a1, a2, a3, a4, a5⟩ := hR.turn hn
    have hmK : m = K := by
      rcases hs with h | h
      · by_cases q : m < K
        · exact absurd h (a4 m (by omega) q)
        · by_cases q2 : K < m
          · exact absurd a3 (hmin K (by omega) q2)
          · omega
      · exact absurd a3 (hmin K (by omega) (by omega))
    subst hmK
    refine ⟨fun h => hR.few hn (by omega), fun _ h => absurd rfl h, fun h _ => ⟨fun h2 => hR.many hn h (by omega), fun h2 => hR.fits hn h (by omega)⟩⟩
  · have := hR.twice hn
    refine ⟨fun _ => this, fun _ _ => this, fun _ h => absurd ?_ hn⟩
    rw [← hM] at h
    exact (mapOf_keys E).2.2.1 h
theorem wlB_ascii {M : List Side} (hM : ∀ q c, findL M q = some c → isL c) (p : Int × Int) (k : Nat) : ascii (wlB M p k) = true := by
  unfold ascii wlB
  rw [List.all_eq_true]
  intro c hc
  have hc' : c ∈ wl M p k := by simpa using hc
  unfold wl at hc'
  obtain ⟨i, -, rfl⟩ := List.mem_map.1 hc'
  have : ltr M (fol M p i) = 0 ∨ isL (ltr M (fol M p i)) := by
    unfold ltr
    cases h : findL M (fol M p i) with
    | none => exact .inl rfl
    | some c => exact .inr (hM _ _ h)
  unfold isL at this
  rcases this with e | e | e | e | e <;> rw [e] <;> rfl
theorem ltr_letter {M : List Side} (hM : ∀ q c, findL M q = some c → isL c) (q : Int × Int) : isL (ltr M q) ∨ ltr M q = 0 := by
  unfold ltr
  cases h : findL M q with
  | none => exact .inr rfl
  | some c => exact .inl (hM _ _ h)
theorem run_len71 {r : Nat} {es : Array MapEntry} {clock : Nat} {w : World} (hb : w.heap[r]? = some (.map es clock)) : (Builtin.len_ #[71] 3 #[.map (some r)]).run Tryd.prog w = .ok (.int .i64 es.size) w := by
  simp [Builtin.len_, run_underlying Tryd.underlying71, MapKept.run_getObj_map hb, goInt]
end Go.Proofs.YtpfenoioeajkmaaDoor.X
end

section
set_option linter.unusedVariables false
set_option linter.unusedSimpArgs false
namespace Go.Proofs.YtpfenoioeajkmaaDoor.X
open Go.RowKit Go.Proofs.YtpfenoioeajkmaaDoorW.PrintWords Go.Proofs.YtpfenoioeajkmaaDoorW.PrintLast Go.Proofs.YtpfenoioeajkmaaDoorW.PrintMore Go.Proofs.YtpfenoioeajkmaaDoor.L
set_option maxHeartbeats 8000000 in
set_option maxRecDepth 100000 in
theorem Outline_bad (A : Option Addr) (n c : Nat) (x y : Nat → Int) (w : World) (hA : Sl w A n c x y) (hn : n ≤ 9223372036854775807) (hg : goodL x y n = false) :
    Calls Tryd.prog 46 #[.slice A n c] w fun e w' => e = .returned (.tuple #[.string ⟨#[]⟩, .int .i64 2]) ∧ Below w.heap.size w w' := by
  have HA := Lib.hid hA
  have HG := Lib.hid hg
  clear hA hg
  go_enter Tryd.func46, Tryd.ntmps46
  go_wp2_with fail
  refine (read_all A n c x y _ HA.out hn).mono ?_
  rintro e w1 ⟨⟨hg, -⟩ | ⟨-, rfl⟩, hb⟩
  · rw [HG.out] at hg
    cases hg
  · have HB := Lib.hid hb
    clear hb
    go_wp2
    go_ret2
    exact ⟨rfl, HB.out⟩
set_option maxHeartbeats 32000000 in
set_option maxRecDepth 100000 in
theorem Outline_calls (A : Option Addr) (n c : Nat) (x y : Nat → Int) (w : World) (hA : Sl w A n c x y) (hg : goodL x y n = true) (K : Nat) (r : ByteArray) (d : Int) (hR : OutR (sidesTo (inB x y n) x y n) (x 0, y 0) K r d) :
    Calls Tryd.prog 46 #[.slice A n c] w fun e w' => e = .returned (.tuple #[.string r, .int .i64 d]) ∧ Below w.heap.size w w' := by
  obtain ⟨⟨hn1, hn30⟩, hxy⟩ := goodL_at hg
  have HGT : Hid (goodTo x y n = true) := Lib.hid (by unfold goodL at hg; rw [Bool.and_eq_true] at hg; exact hg.2)
  have HR := Lib.hid hR
  have HG := Lib.hid hxy
  have HGL := Lib.hid hg
  have HA := Lib.hid hA
  clear hA hg hxy hR
  go_enter Tryd.func46, Tryd.ntmps46
  go_wp2_with fail
  refine (read_all A n c x y _ HA.out (by omega)).mono ?_
  rintro e w1 ⟨⟨hg, A', c', rfl, hs⟩ | ⟨hg, -⟩, hb⟩
  rotate_left
  · rw [HGL.out] at hg
    cases hg
  obtain ⟨b', off, rfl, hnc, hp⟩ : ∃ b off, A' = some ⟨b, off, none⟩ ∧ n ≤ c' ∧ Pts w1 b off n x y := by
    rcases hs with ⟨_, h2, _⟩ | ⟨b, off, h1, h4, h3⟩ | ⟨_, _, h2⟩
    · omega
    · exact ⟨b, off, h1, h4, h3⟩
    · omega
  have HB1 := Lib.hid hb
  have HS1 := Lib.hid hs
  have HP1 := Lib.hid hp
  clear hb hs hp hg HA
  go_wp2_with (first | ((with_reducible refine gate_op (op := .makeMap 71 none) rfl ?_); refine map_make_event rfl 71 rfl ?_; intro r0 wm hr0 hm hb; have HM := Lib.hid (IsM.mk' (enc := pairV) (encv := Value.int .u8) (l := []) hm rfl); have HB4 := Lib.hid hb; have HZ := Lib.hid hr0; clear hm hb hr0) | fail)
  have HO : Hid (OuS w1 (mapOf (sidesTo (inB x y n) x y 0)) wm) := Lib.hid ⟨HZ.out ▸ HM.out, HB4.out⟩
  obtain rfl := HZ.out
  clear HM HB4 HZ
  go_loopw [26, 7] (fun i v wr => ∃ k : Nat, k ≤ n ∧ i = .int .i64 k ∧ v = .int .i64 ((sidesTo (inB x y n) x y k).length : Nat) ∧ Hid (OuS w1 (mapOf (sidesTo (inB x y n) x y k)) wr)) (fun i _ _ => n - (intOf i).toNat)
  case atStart => exact ⟨0, by omega, rfl, rfl, HO⟩
  case round =>
    clear HO
    obtain ⟨k, hk, rfl, rfl, HO⟩ := hrel
    by_cases hlt : k < n
    · have hP := HP1.out.later HO.out.bl
      have h0 := hP.c0 k hlt
      have h1 := hP.c1 k hlt
      have hbx := HG.out k hlt
      have hL : (sidesTo (inB x y n) x y k).length ≤ 120 := by have := sidesTo_length (inB x y n) x y k; omega
      obtain ⟨E, hE⟩ : ∃ E, sidesTo (inB x y n) x y k = E := ⟨_, rfl⟩
      rw [hE] at HO hL ⊢
      obtain ⟨X, hX⟩ : ∃ X, x k = X := ⟨_, rfl⟩
      obtain ⟨Y, hY⟩ : ∃ Y, y k = Y := ⟨_, rfl⟩
      rw [hX] at h0 hbx
      rw [hY] at h1 hbx
      have HXY := Lib.hid (And.intro hX (And.intro hY hE))
      have hkc : k < c' := by omega
      clear hX hY hP hE
      go_wp2_with fail
      obtain ⟨w2, hw2⟩ : ∃ w2, w2 = wr.alloc (.cells #[.int .i64 X, .int .i64 Y] 63) := ⟨_, rfl⟩
      have q0 : w2.cell? ⟨wr.heap.size, 0, none⟩ = some (.int .i64 X) := by rw [hw2]; simp
      have q1 : w2.cell? ⟨wr.heap.size, 1, none⟩ = some (.int .i64 Y) := by rw [hw2]; simp
      have hb2 : Below wr.heap.size wr w2 := by rw [hw2]; exact below_one _
      have HO2 : Hid (OuS w1 (mapOf E) w2.drew) := Lib.hid (HO.out.later hb2.drew)
      rw [← hw2]
      clear hw2 hb2 HO h0 h1
      generalize wr.heap.size = G at q0 q1 ⊢
      refine start_ (n := 29) (S := fun w' => w'.cell? ⟨G, 0, none⟩ = some (.int .i64 X) ∧ w'.cell? ⟨G, 1, none⟩ = some (.int .i64 Y)) (ds := [26]) #[false, false, false, false, false, false, false, false, false, false, false, false, false, false, false, false, false, false, false, false, false, false, false, false, false, false, false, false, false] (by kernel_rfl) rfl rfl ⟨by simpa using q0, by simpa using q1⟩ (fun hHeld => ?_)
      refine take_ (i := 0) (N := (some 30)) (v := ?_) (a' := ?_) #[true, false, false, false, false, false, false, false, false, false, false, false, false, false, false, false, false, false, false, false, false, false, false, false, false, false, false, false, false] rfl rfl (by kernel_rfl) (fun _ _ _ h => h) (Or.inl ⟨by rfl, ?_⟩) hHeld ?_ ?_
      rotate_left
      · rintro w' ⟨s0, s1⟩; go_simp; first | done | with_reducible rfl
      rotate_left
      · simp only [Act.put, List.setIfInBounds_toArray, List.set_cons_zero, List.set_cons_succ, i64_w, i32_w]; rfl
      refine take_ (i := 1) (N := (some 31)) (v := ?_) (a' := ?_) #[true, true, false, false, false, false, false, false, false, false, false, false, false, false, false, false, false, false, false, false, false, false, false, false, false, false, false, false, false] rfl rfl (by kernel_rfl) (fun _ _ _ h => h) (Or.inl ⟨by rfl, ?_⟩) hHeld ?_ ?_
      rotate_left
      · rintro w' ⟨s0, s1⟩; go_simp; first | done | with_reducible rfl
      rotate_left
      · simp only [Act.put, List.setIfInBounds_toArray, List.set_cons_zero, List.set_cons_succ, i64_w, i32_w]; rfl
      refine take_ (i := 5) (N := (some 35)) (v := ?_) (a' := ?_) #[true, true, false, false, false, true, false, false, false, false, false, false, false, false, false, false, false, false, false, false, false, false, false, false, false, false, false, false, false] rfl rfl (by kernel_rfl) (fun _ _ _ h => h) (Or.inl ⟨by rfl, ?_⟩) hHeld ?_ ?_
      rotate_left
      · rintro w' ⟨s0, s1⟩; go_simp; first | done | with_reducible rfl
      rotate_left
      · simp only [Act.put, List.setIfInBounds_toArray, List.set_cons_zero, List.set_cons_succ, i64_w, i32_w]; rfl
      refine take_ (i := 8) (N := (some 38)) (v := ?_) (a' := ?_) #[true, true, false, false, false, true, false, false, true, false, false, false, false, false, false, false, false, false, false, false, false, false, false, false, false, false, false, false, false] rfl rfl (by kernel_rfl) (fun _ _ _ h => h) (Or.inl ⟨by rfl, ?_⟩) hHeld ?_ ?_
      rotate_left
      · rintro w' ⟨s0, s1⟩; go_simp; first | done | with_reducible rfl
      rotate_left
      · simp only [Act.put, List.setIfInBounds_toArray, List.set_cons_zero, List.set_cons_succ, i64_w, i32_w]; rfl
      refine take_ (i := 12) (N := (some 42)) (v := ?_) (a' := ?_) #[true, true, false, false, false, true, false, false, true, false, false, false, true, false, false, false, false, false, false, false, false, false, false, false, false, false, false, false, false] rfl rfl (by kernel_rfl) (fun _ _ _ h => h) (Or.inl ⟨by rfl, ?_⟩) hHeld ?_ ?_
      rotate_left
      · rintro w' ⟨s0, s1⟩; go_simp; first | done | with_reducible rfl
      rotate_left
      · simp only [Act.put, List.setIfInBounds_toArray, List.set_cons_zero, List.set_cons_succ, i64_w, i32_w]; rfl
      refine take_ (i := 15) (N := (some 45)) (v := ?_) (a' := ?_) #[true, true, false, false, false, true, false, false, true, false, false, false, true, false, false, true, false, false, false, false, false, false, false, false, false, false, false, false, false] rfl rfl (by kernel_rfl) (fun _ _ _ h => h) (Or.inl ⟨by rfl, ?_⟩) hHeld ?_ ?_
      rotate_left
      · rintro w' ⟨s0, s1⟩; go_simp; first | done | with_reducible rfl
      rotate_left
      · simp only [Act.put, List.setIfInBounds_toArray, List.set_cons_zero, List.set_cons_succ, i64_w, i32_w]; rfl
      refine take_ (i := 19) (N := (some 49)) (v := ?_) (a' := ?_) #[true, true, false, false, false, true, false, false, true, false, false, false, true, false, false, true, false, false, false, true, false, false, false, false, false, false, false, false, false] rfl rfl (by kernel_rfl) (fun _ _ _ h => h) (Or.inl ⟨by rfl, ?_⟩) hHeld ?_ ?_
      rotate_left
      · rintro w' ⟨s0, s1⟩; go_simp; first | done | with_reducible rfl
      rotate_left
      · simp only [Act.put, List.setIfInBounds_toArray, List.set_cons_zero, List.set_cons_succ, i64_w, i32_w]; rfl
      refine take_ (i := 22) (N := (some 52)) (v := ?_) (a' := ?_) #[true, true, false, false, false, true, false, false, true, false, false, false, true, false, false, true, false, false, false, true, false, false, true, false, false, false, false, false, false] rfl rfl (by kernel_rfl) (fun _ _ _ h => h) (Or.inl ⟨by rfl, ?_⟩) hHeld ?_ ?_
      rotate_left
      · rintro w' ⟨s0, s1⟩; go_simp; first | done | with_reducible rfl
      rotate_left
      · simp only [Act.put, List.setIfInBounds_toArray, List.set_cons_zero, List.set_cons_succ, i64_w, i32_w]; rfl
      refine pure_ (i := 2) (N := (some 32)) (v := ?_) (a' := ?_) #[true, true, true, false, false, true, false, false, true, false, false, false, true, false, false, true, false, false, false, true, false, false, true, false, false, false, false, false, false] rfl rfl (by kernel_rfl) (fun _ _ _ h => h) (Or.inl ⟨by rfl, ?_⟩) ?_ ?_
      rotate_left
      · intro w'; go_simp; first | done | with_reducible rfl
      rotate_left
      · simp only [Act.put, List.setIfInBounds_toArray, List.set_cons_zero, List.set_cons_succ, i64_w, i32_w]; rfl
      refine pure_ (i := 6) (N := (some 36)) (v := ?_) (a' := ?_) #[true, true, true, false, false, true, true, false, true, false, false, false, true, false, false, true, false, false, false, true, false, false, true, false, false, false, false, false, false] rfl rfl (by kernel_rfl) (fun _ _ _ h => h) (Or.inl ⟨by rfl, ?_⟩) ?_ ?_
      rotate_left
      · intro w'; go_simp; first | done | with_reducible rfl
      rotate_left
      · simp only [Act.put, List.setIfInBounds_toArray, List.set_cons_zero, List.set_cons_succ, i64_w, i32_w]; rfl
      refine pure_ (i := 9) (N := (some 39)) (v := ?_) (a' := ?_) #[true, true, true, false, false, true, true, false, true, true, false, false, true, false, false, true, false, false, false, true, false, false, true, false, false, false, false, false, false] rfl rfl (by kernel_rfl) (fun _ _ _ h => h) (Or.inl ⟨by rfl, ?_⟩) ?_ ?_
      rotate_left
      · intro w'; go_simp; first | done | with_reducible rfl
      rotate_left
      · simp only [Act.put, List.setIfInBounds_toArray, List.set_cons_zero, List.set_cons_succ, i64_w, i32_w]; rfl
      refine pure_ (i := 13) (N := (some 43)) (v := ?_) (a' := ?_) #[true, true, true, false, false, true, true, false, true, true, false, false, true, true, false, true, false, false, false, true, false, false, true, false, false, false, false, false, false] rfl rfl (by kernel_rfl) (fun _ _ _ h => h) (Or.inl ⟨by rfl, ?_⟩) ?_ ?_
      rotate_left
      · intro w'; go_simp; first | done | with_reducible rfl
      rotate_left
      · simp only [Act.put, List.setIfInBounds_toArray, List.set_cons_zero, List.set_cons_succ, i64_w, i32_w]; rfl
      refine pure_ (i := 16) (N := (some 46)) (v := ?_) (a' := ?_) #[true, true, true, false, false, true, true, false, true, true, false, false, true, true, false, true, true, false, false, true, false, false, true, false, false, false, false, false, false] rfl rfl (by kernel_rfl) (fun _ _ _ h => h) (Or.inl ⟨by rfl, ?_⟩) ?_ ?_
      rotate_left
      · intro w'; go_simp; first | done | with_reducible rfl
      rotate_left
      · simp only [Act.put, List.setIfInBounds_toArray, List.set_cons_zero, List.set_cons_succ, i64_w, i32_w]; rfl
      refine pure_ (i := 20) (N := (some 50)) (v := ?_) (a' := ?_) #[true, true, true, false, false, true, true, false, true, true, false, false, true, true, false, true, true, false, false, true, true, false, true, false, false, false, false, false, false] rfl rfl (by kernel_rfl) (fun _ _ _ h => h) (Or.inl ⟨by rfl, ?_⟩) ?_ ?_
      rotate_left
      · intro w'; go_simp; first | done | with_reducible rfl
      rotate_left
      · simp only [Act.put, List.setIfInBounds_toArray, List.set_cons_zero, List.set_cons_succ, i64_w, i32_w]; rfl
      refine pure_ (i := 23) (N := (some 53)) (v := ?_) (a' := ?_) #[true, true, true, false, false, true, true, false, true, true, false, false, true, true, false, true, true, false, false, true, true, false, true, true, false, false, false, false, false] rfl rfl (by kernel_rfl) (fun _ _ _ h => h) (Or.inl ⟨by rfl, ?_⟩) ?_ ?_
      rotate_left
      · intro w'; go_simp; first | done | with_reducible rfl
      rotate_left
      · simp only [Act.put, List.setIfInBounds_toArray, List.set_cons_zero, List.set_cons_succ, i64_w, i32_w]; rfl
      refine pure_ (i := 28) (N := (some 58)) (v := ?_) (a' := ?_) #[true, true, true, false, false, true, true, false, true, true, false, false, true, true, false, true, true, false, false, true, true, false, true, true, false, false, false, false, true] rfl rfl (by kernel_rfl) (fun _ _ _ h => h) (Or.inl ⟨by rfl, ?_⟩) ?_ ?_
      rotate_left
      · intro w'; go_simp; first | done | with_reducible rfl
      rotate_left
      · simp only [Act.put, List.setIfInBounds_toArray, List.set_cons_zero, List.set_cons_succ, i64_w, i32_w]; rfl
      refine one_ (i := 3) (N := (some 33)) #[true, true, true, true, false, true, true, false, true, true, false, false, true, true, false, true, true, false, false, true, true, false, true, true, false, false, false, false, true] rfl rfl (by kernel_rfl) (by decide) (fun K hK => ?_)
      refine goes_ Tryd.func65 (by kernel_rfl) rfl #[ptV X Y, ptV 0 (-1)] (by rfl) rfl rfl (by (try simp only [List.map_toArray, List.map_cons, List.map_nil]); first | done | rfl) ?_
      refine (plus_at (r := X) (t := (Y - 1)) (by unfold wrap64; omega) (by unfold wrap64; omega) _).mono ?_
      rintro e v0 ⟨rfl, hb⟩
      refine ⟨_, rfl, ?_⟩
      have HO3 := Lib.hid (HO2.out.later hb)
      have q0' := (hb.cell (p := ⟨G, 0, none⟩) (World.block_lt_of_cell? _ _ hHeld.1)).trans hHeld.1
      have q1' := (hb.cell (p := ⟨G, 1, none⟩) (World.block_lt_of_cell? _ _ hHeld.2)).trans hHeld.2
      clear hb
      refine hK.out _ _ ⟨q0', q1'⟩ (fun hHeld => ?_)
      clear hK K
      refine norm_ (a' := ?_) ?_ ?_
      rotate_left
      · show Act.put _ (some 33) _ = _; simp only [Act.put, List.setIfInBounds_toArray, List.set_cons_zero, List.set_cons_succ, i64_w, i32_w]; rfl
      clear q0' q1'
      refine pure_ (i := 4) (N := (some 34)) (v := ?_) (a' := ?_) #[true, true, true, true, true, true, true, false, true, true, false, false, true, true, false, true, true, false, false, true, true, false, true, true, false, false, false, false, true] rfl rfl (by kernel_rfl) (fun _ _ _ h => h) (Or.inl ⟨by rfl, ?_⟩) ?_ ?_
      rotate_left
      · intro w'; go_simp; first | done | with_reducible rfl
      rotate_left
      · simp only [Act.put, List.setIfInBounds_toArray, List.set_cons_zero, List.set_cons_succ, i64_w, i32_w]; rfl
      refine one_ (i := 7) (N := (some 37)) #[true, true, true, true, true, true, true, true, true, true, false, false, true, true, false, true, true, false, false, true, true, false, true, true, false, false, false, false, true] rfl rfl (by kernel_rfl) (by decide) (fun K hK => ?_)
      refine goes_ Tryd.func65 (by kernel_rfl) rfl #[ptV X Y, ptV 1 0] (by rfl) rfl rfl (by (try simp only [List.map_toArray, List.map_cons, List.map_nil]); first | done | rfl) ?_
      refine (plus_at (r := (X + 1)) (t := Y) (by unfold wrap64; omega) (by unfold wrap64; omega) _).mono ?_
      rintro e v1 ⟨rfl, hb⟩
      refine ⟨_, rfl, ?_⟩
      have HO4 := Lib.hid (HO3.out.later hb)
      have q0' := (hb.cell (p := ⟨G, 0, none⟩) (World.block_lt_of_cell? _ _ hHeld.1)).trans hHeld.1
      have q1' := (hb.cell (p := ⟨G, 1, none⟩) (World.block_lt_of_cell? _ _ hHeld.2)).trans hHeld.2
      clear hb
      refine hK.out _ _ ⟨q0', q1'⟩ (fun hHeld => ?_)
      clear hK K
      refine norm_ (a' := ?_) ?_ ?_
      rotate_left
      · show Act.put _ (some 37) _ = _; simp only [Act.put, List.setIfInBounds_toArray, List.set_cons_zero, List.set_cons_succ, i64_w, i32_w]; rfl
      clear q0' q1'
      refine one_ (i := 10) (N := (some 40)) #[true, true, true, true, true, true, true, true, true, true, true, false, true, true, false, true, true, false, false, true, true, false, true, true, false, false, false, false, true] rfl rfl (by kernel_rfl) (by decide) (fun K hK => ?_)
      refine goes_ Tryd.func65 (by kernel_rfl) rfl #[ptV X Y, ptV 1 0] (by rfl) rfl rfl (by (try simp only [List.map_toArray, List.map_cons, List.map_nil]); first | done | rfl) ?_
      refine (plus_at (r := (X + 1)) (t := Y) (by unfold wrap64; omega) (by unfold wrap64; omega) _).mono ?_
      rintro e v2 ⟨rfl, hb⟩
      refine ⟨_, rfl, ?_⟩
      have HO5 := Lib.hid (HO4.out.later hb)
      have q0' := (hb.cell (p := ⟨G, 0, none⟩) (World.block_lt_of_cell? _ _ hHeld.1)).trans hHeld.1
      have q1' := (hb.cell (p := ⟨G, 1, none⟩) (World.block_lt_of_cell? _ _ hHeld.2)).trans hHeld.2
      clear hb
      refine hK.out _ _ ⟨q0', q1'⟩ (fun hHeld => ?_)
      clear hK K
      refine norm_ (a' := ?_) ?_ ?_
      rotate_left
      · show Act.put _ (some 40) _ = _; simp only [Act.put, List.setIfInBounds_toArray, List.set_cons_zero, List.set_cons_succ, i64_w, i32_w]; rfl
      clear q0' q1'
      refine pure_ (i := 11) (N := (some 41)) (v := ?_) (a' := ?_) #[true, true, true, true, true, true, true, true, true, true, true, true, true, true, false, true, true, false, false, true, true, false, true, true, false, false, false, false, true] rfl rfl (by kernel_rfl) (fun _ _ _ h => h) (Or.inl ⟨by rfl, ?_⟩) ?_ ?_
      rotate_left
      · intro w'; go_simp; first | done | with_reducible rfl
      rotate_left
      · simp only [Act.put, List.setIfInBounds_toArray, List.set_cons_zero, List.set_cons_succ, i64_w, i32_w]; rfl
      refine one_ (i := 14) (N := (some 44)) #[true, true, true, true, true, true, true, true, true, true, true, true, true, true, true, true, true, false, false, true, true, false, true, true, false, false, false, false, true] rfl rfl (by kernel_rfl) (by decide) (fun K hK => ?_)
      refine goes_ Tryd.func65 (by kernel_rfl) rfl #[ptV X Y, ptV 1 1] (by rfl) rfl rfl (by (try simp only [List.map_toArray, List.map_cons, List.map_nil]); first | done | rfl) ?_
      refine (plus_at (r := (X + 1)) (t := (Y + 1)) (by unfold wrap64; omega) (by unfold wrap64; omega) _).mono ?_
      rintro e v3 ⟨rfl, hb⟩
      refine ⟨_, rfl, ?_⟩
      have HO6 := Lib.hid (HO5.out.later hb)
      have q0' := (hb.cell (p := ⟨G, 0, none⟩) (World.block_lt_of_cell? _ _ hHeld.1)).trans hHeld.1
      have q1' := (hb.cell (p := ⟨G, 1, none⟩) (World.block_lt_of_cell? _ _ hHeld.2)).trans hHeld.2
      clear hb
      refine hK.out _ _ ⟨q0', q1'⟩ (fun hHeld => ?_)
      clear hK K
      refine norm_ (a' := ?_) ?_ ?_
      rotate_left
      · show Act.put _ (some 44) _ = _; simp only [Act.put, List.setIfInBounds_toArray, List.set_cons_zero, List.set_cons_succ, i64_w, i32_w]; rfl
      clear q0' q1'
      refine one_ (i := 17) (N := (some 47)) #[true, true, true, true, true, true, true, true, true, true, true, true, true, true, true, true, true, true, false, true, true, false, true, true, false, false, false, false, true] rfl rfl (by kernel_rfl) (by decide) (fun K hK => ?_)
      refine goes_ Tryd.func65 (by kernel_rfl) rfl #[ptV X Y, ptV 0 1] (by rfl) rfl rfl (by (try simp only [List.map_toArray, List.map_cons, List.map_nil]); first | done | rfl) ?_
      refine (plus_at (r := X) (t := (Y + 1)) (by unfold wrap64; omega) (by unfold wrap64; omega) _).mono ?_
      rintro e v4 ⟨rfl, hb⟩
      refine ⟨_, rfl, ?_⟩
      have HO7 := Lib.hid (HO6.out.later hb)
      have q0' := (hb.cell (p := ⟨G, 0, none⟩) (World.block_lt_of_cell? _ _ hHeld.1)).trans hHeld.1
      have q1' := (hb.cell (p := ⟨G, 1, none⟩) (World.block_lt_of_cell? _ _ hHeld.2)).trans hHeld.2
      clear hb
      refine hK.out _ _ ⟨q0', q1'⟩ (fun hHeld => ?_)
      clear hK K
      refine norm_ (a' := ?_) ?_ ?_
      rotate_left
      · show Act.put _ (some 47) _ = _; simp only [Act.put, List.setIfInBounds_toArray, List.set_cons_zero, List.set_cons_succ, i64_w, i32_w]; rfl
      clear q0' q1'
      refine pure_ (i := 18) (N := (some 48)) (v := ?_) (a' := ?_) #[true, true, true, true, true, true, true, true, true, true, true, true, true, true, true, true, true, true, true, true, true, false, true, true, false, false, false, false, true] rfl rfl (by kernel_rfl) (fun _ _ _ h => h) (Or.inl ⟨by rfl, ?_⟩) ?_ ?_
      rotate_left
      · intro w'; go_simp; first | done | with_reducible rfl
      rotate_left
      · simp only [Act.put, List.setIfInBounds_toArray, List.set_cons_zero, List.set_cons_succ, i64_w, i32_w]; rfl
      refine one_ (i := 21) (N := (some 51)) #[true, true, true, true, true, true, true, true, true, true, true, true, true, true, true, true, true, true, true, true, true, true, true, true, false, false, false, false, true] rfl rfl (by kernel_rfl) (by decide) (fun K hK => ?_)
      refine goes_ Tryd.func65 (by kernel_rfl) rfl #[ptV X Y, ptV 0 1] (by rfl) rfl rfl (by (try simp only [List.map_toArray, List.map_cons, List.map_nil]); first | done | rfl) ?_
      refine (plus_at (r := X) (t := (Y + 1)) (by unfold wrap64; omega) (by unfold wrap64; omega) _).mono ?_
      rintro e v5 ⟨rfl, hb⟩
      refine ⟨_, rfl, ?_⟩
      have HO8 := Lib.hid (HO7.out.later hb)
      have q0' := (hb.cell (p := ⟨G, 0, none⟩) (World.block_lt_of_cell? _ _ hHeld.1)).trans hHeld.1
      have q1' := (hb.cell (p := ⟨G, 1, none⟩) (World.block_lt_of_cell? _ _ hHeld.2)).trans hHeld.2
      clear hb
      refine hK.out _ _ ⟨q0', q1'⟩ (fun hHeld => ?_)
      clear hK K
      refine norm_ (a' := ?_) ?_ ?_
      rotate_left
      · show Act.put _ (some 51) _ = _; simp only [Act.put, List.setIfInBounds_toArray, List.set_cons_zero, List.set_cons_succ, i64_w, i32_w]; rfl
      clear q0' q1'
      refine one_ (i := 24) (N := (some 54)) #[true, true, true, true, true, true, true, true, true, true, true, true, true, true, true, true, true, true, true, true, true, true, true, true, true, false, false, false, true] rfl rfl (by kernel_rfl) (by decide) (fun K hK => ?_)
      refine goes_ Tryd.func65 (by kernel_rfl) rfl #[ptV X Y, ptV (-1) 0] (by rfl) rfl rfl (by (try simp only [List.map_toArray, List.map_cons, List.map_nil]); first | done | rfl) ?_
      refine (plus_at (r := (X - 1)) (t := Y) (by unfold wrap64; omega) (by unfold wrap64; omega) _).mono ?_
      rintro e v6 ⟨rfl, hb⟩
      refine ⟨_, rfl, ?_⟩
      have HO9 := Lib.hid (HO8.out.later hb)
      have q0' := (hb.cell (p := ⟨G, 0, none⟩) (World.block_lt_of_cell? _ _ hHeld.1)).trans hHeld.1
      have q1' := (hb.cell (p := ⟨G, 1, none⟩) (World.block_lt_of_cell? _ _ hHeld.2)).trans hHeld.2
      clear hb
      refine hK.out _ _ ⟨q0', q1'⟩ (fun hHeld => ?_)
      clear hK K
      refine norm_ (a' := ?_) ?_ ?_
      rotate_left
      · show Act.put _ (some 54) _ = _; simp only [Act.put, List.setIfInBounds_toArray, List.set_cons_zero, List.set_cons_succ, i64_w, i32_w]; rfl
      clear q0' q1'
      refine pure_ (i := 25) (N := (some 55)) (v := ?_) (a' := ?_) #[true, true, true, true, true, true, true, true, true, true, true, true, true, true, true, true, true, true, true, true, true, true, true, true, true, true, false, false, true] rfl rfl (by kernel_rfl) (fun _ _ _ h => h) (Or.inl ⟨by rfl, ?_⟩) ?_ ?_
      rotate_left
      · intro w'; go_simp; first | done | with_reducible rfl
      rotate_left
      · simp only [Act.put, List.setIfInBounds_toArray, List.set_cons_zero, List.set_cons_succ, i64_w, i32_w]; rfl
      refine last_ (i := 26) (N := (some 56)) #[true, true, true, true, true, true, true, true, true, true, true, true, true, true, true, true, true, true, true, true, true, true, true, true, true, true, true, false, true] rfl rfl (by kernel_rfl) (by decide) (fun K hK => ?_)
      refine value_step (v := .slice (some ⟨v6.heap.size, 0, none⟩) 4 4) (w1 := v6.alloc (.cells (quadC X Y).toArray 72)) (by rfl) rfl (by unfold quadC; go_simp) ?_
      refine hK.out _ _ ?_
      clear hK K
      refine norm_ (a' := ?_) ?_ ?_
      rotate_left
      · show Act.put _ (some 56) _ = _; simp only [Act.put, List.setIfInBounds_toArray, List.set_cons_zero, List.set_cons_succ, i64_w, i32_w]; rfl
      refine pure_ (i := 27) (N := (some 57)) (v := ?_) (a' := ?_) #[true, true, true, true, true, true, true, true, true, true, true, true, true, true, true, true, true, true, true, true, true, true, true, true, true, true, true, true, true] rfl rfl (by kernel_rfl) (fun _ _ _ h => h) (Or.inl ⟨by rfl, ?_⟩) ?_ ?_
      rotate_left
      · intro w'; go_simp; first | done | with_reducible rfl
      rotate_left
      · simp only [Act.put, List.setIfInBounds_toArray, List.set_cons_zero, List.set_cons_succ, i64_w, i32_w]; rfl
      refine done_ (by kernel_rfl) ?_
      have HQ := Lib.hid (Quad.of (X := X) (Y := Y) (blk_new v6 (.cells (quadC X Y).toArray 72)))
      have HO10 := Lib.hid (HO9.out.later (below_one (w := v6) (.cells (quadC X Y).toArray 72)))
      have HGG : Hid (w1.heap.size < v6.heap.size) := Lib.hid HO9.out.map.lt
      clear hHeld q0 q1 HO2 HO3 HO4 HO5 HO6 HO7 HO8 HO9
      generalize v6.alloc (.cells (quadC X Y).toArray 72) = w5 at HQ HO10 ⊢
      generalize v6.heap.size = G4 at HQ HGG ⊢
      go_wp2_with fail
      go_loopw [58, 7] (fun i v wr => ∃ j : Nat, j ≤ 4 ∧ i = .int .i64 j ∧ v = .int .i64 ((E ++ sof (inB x y n) X Y j).length : Nat) ∧ Hid (OuS w1 (mapOf (E ++ sof (inB x y n) X Y j)) wr) ∧ Hid (Quad wr G4 X Y)) (fun i _ _ => 4 - (intOf i).toNat)
      case atStart => exact ⟨0, by omega, rfl, by rw [sof, List.append_nil], Lib.hid (by rw [sof, List.append_nil]; exact HO10.out), HQ⟩
      case round =>
        clear HO10 HQ
        obtain ⟨j, hj, rfl, rfl, HO, HQ⟩ := hrel
        have hlen : (E ++ sof (inB x y n) X Y j).length ≤ 124 := by have := sof_length (inB x y n) X Y j; rw [List.length_append]; omega
        obtain ⟨F, hF⟩ : ∃ F, E ++ sof (inB x y n) X Y j = F := ⟨_, rfl⟩
        rw [hF] at HO hlen ⊢
        have HF := Lib.hid hF
        clear hF
        by_cases hj4 : j < 4
        · have c0 := HQ.out.c0 j hj4
          have c1 := HQ.out.c1 j hj4
          have c2 := HQ.out.c2 j hj4
          have c3 := HQ.out.c3 j hj4
          have c4 := HQ.out.c4 j hj4
          obtain ⟨a0, ha0⟩ : ∃ a0, fX X j = a0 := ⟨_, rfl⟩
          obtain ⟨a1, ha1⟩ : ∃ a1, fY Y j = a1 := ⟨_, rfl⟩
          obtain ⟨a2, ha2⟩ : ∃ a2, nX X j = a2 := ⟨_, rfl⟩
          obtain ⟨a3, ha3⟩ : ∃ a3, nY Y j = a3 := ⟨_, rfl⟩
          obtain ⟨a4, ha4⟩ : ∃ a4, fL j = a4 := ⟨_, rfl⟩
          rw [ha0] at c0
          rw [ha1] at c1
          rw [ha2] at c2
          rw [ha3] at c3
          rw [ha4] at c4
          have HAA := Lib.hid (And.intro ha0 (And.intro ha1 (And.intro ha2 (And.intro ha3 ha4))))
          clear ha0 ha1 ha2 ha3 ha4
          go_wp2_with fail
          have hb6 := below_one (w := wr) (.cells #[.int .i64 a0, .int .i64 a1, .int .i64 a2, .int .i64 a3, .int .u8 a4] 72)
          have hk6 := blk_new wr (.cells #[.int .i64 a0, .int .i64 a1, .int .i64 a2, .int .i64 a3, .int .u8 a4] 72)
          obtain ⟨w6, hw6⟩ : ∃ w6, w6 = wr.alloc (.cells #[.int .i64 a0, .int .i64 a1, .int .i64 a2, .int .i64 a3, .int .u8 a4] 72) := ⟨_, rfl⟩
          rw [← hw6] at hb6 hk6 ⊢
          have HO6 := Lib.hid (HO.out.later hb6)
          have HQ6 := Lib.hid (HQ.out.later hb6)
          have HK6 := Lib.hid hk6
          clear hw6 hb6 hk6 HO HQ c0 c1 c2 c3 c4
          generalize wr.heap.size = G6 at HK6 ⊢
          refine (search_calls _ n c' x y a2 a3 w6 (HS1.out.later HO6.out.bl) (by omega) HGT.out).mono ?_
          rintro e w7 ⟨⟨i, rfl⟩, hb7⟩
          have HO7 := Lib.hid (HO6.out.later hb7)
          have HQ7 := Lib.hid (HQ6.out.later hb7)
          have hk7 := (hb7.block G6 (Array.getElem?_eq_some_iff.1 HK6.out).1).trans HK6.out
          clear hb7 HO6 HQ6 HK6
          cases hq : inB x y n a2 a3 with
          | true =>
            have HS : Hid (E ++ sof (inB x y n) X Y (j + 1) = F) := Lib.hid (by rw [sof, HAA.out.2.2.1, HAA.out.2.2.2.1, if_pos hq, List.append_nil, HF.out])
            clear hq hk7
            go_wp2_with fail
            refine ⟨⟨j + 1, by omega, by go_num, ?_, ?_, HQ7⟩, by simp [intOf]; omega⟩
            · rw [HS.out]
            · rw [HS.out]
              exact HO7
          | false =>
            have HS : Hid (E ++ sof (inB x y n) X Y (j + 1) = F ++ [((a0, a1), a4)]) := Lib.hid (by rw [sof, HAA.out.1, HAA.out.2.1, HAA.out.2.2.1, HAA.out.2.2.2.1, HAA.out.2.2.2.2, if_neg (by rw [hq]; decide), ← List.append_assoc, HF.out])
            clear hq
            have d0 := blk_cell hk7 0
            have d1 := blk_cell hk7 1
            have d4 := blk_cell hk7 4
            simp at d0 d1 d4
            obtain ⟨o, hup, hmm⟩ := run_update_is (P := Tryd.prog) Tryd.underlying71 keyOk_pair HO7.out.map (a0, a1) a4
            simp only [pairV] at hup
            have HM := Lib.hid hmm
            clear hmm hk7
            go_wp2_with fail
            refine ⟨⟨j + 1, by omega, by go_num, ?_, Lib.hid ⟨?_, putObj_below HO7.out.bl (Nat.le_refl _) _⟩, Lib.hid (HQ7.out.keep ((putObj_keep w7 w1.heap.size o).2 G4 (World.block_lt_of_cell? _ _ (HQ7.out.c0 0 (by omega))) (by have := HGG.out; omega) (by simp)))⟩, by simp [intOf]; omega⟩
            · rw [HS.out, List.length_append]
              first | rfl | (congr 1; simp) | simp
            · rw [HS.out, mapOf_snoc]
              exact HM.out
        · obtain rfl : j = 4 := by omega
          have HS : Hid (sidesTo (inB x y n) x y (k + 1) = F) := Lib.hid (by rw [sidesTo, HXY.out.1, HXY.out.2.1, HXY.out.2.2, ← sof_four, HF.out])
          go_wp2_with fail
          refine ⟨⟨k + 1, by omega, by go_num, ?_, ?_⟩, by simp [intOf]; omega⟩
          · rw [HS.out]
          · rw [HS.out]
            exact HO
    · obtain rfl : k = n := by omega
      have hP := HP1.out.later HO.out.bl
      have h0 := hP.c0 0 (by omega)
      have h1 := hP.c1 0 (by omega)
      obtain ⟨E, hE⟩ : ∃ E, sidesTo (inB x y k) x y k = E := ⟨_, rfl⟩
      obtain ⟨p, hp⟩ : ∃ p, (x 0, y 0) = p := ⟨_, rfl⟩
      have HR2 : Hid (OutR E p K r d) := Lib.hid (by rw [← hE, ← hp]; exact HR.out)
      have HPB : Hid (-100 ≤ p.1 ∧ p.1 ≤ 100 ∧ -100 ≤ p.2 ∧ p.2 ≤ 100) := Lib.hid (by rw [← hp]; exact HG.out 0 (by omega))
      have HLE : Hid (∀ q c, findL (mapOf E) q = some c → isL c) := Lib.hid (by rw [← hE]; exact mapOf_letters _ (sidesTo_letters _ _ _ _))
      have hL : E.length ≤ 120 := by rw [← hE]; have := sidesTo_length (inB x y k) x y k; omega
      rw [hE] at HO ⊢
      have hp0 : x 0 = p.1 := by rw [← hp]
      have hp1 : y 0 = p.2 := by rw [← hp]
      rw [hp0] at h0
      rw [hp1] at h1
      obtain ⟨M, hM⟩ : ∃ M, mapOf E = M := ⟨_, rfl⟩
      rw [hM] at HO HLE
      have HME := Lib.hid hM
      obtain ⟨P0, hP0⟩ : ∃ P0, p.1 = P0 := ⟨_, rfl⟩
      obtain ⟨Q0, hQ0⟩ : ∃ Q0, p.2 = Q0 := ⟨_, rfl⟩
      rw [hP0] at h0
      rw [hQ0] at h1
      have HPQ := Lib.hid (And.intro hP0 hQ0)
      have hc0 : 0 < c' := by omega
      have hk0 : (0 : Int) < k := by omega
      simp only [Nat.zero_mul, Nat.add_zero] at h0 h1
      have hbB := below_one (w := wr) (.cells #[.pointer none, .slice none 0 0] 80)
      have h0' := (hbB.cell (p := ⟨b', off, none⟩) (World.block_lt_of_cell? _ _ h0)).trans h0
      have h1' := (hbB.cell (p := ⟨b', off + 1, none⟩) (World.block_lt_of_cell? _ _ h1)).trans h1
      have hF := FoS.start (M := M) (p := p) HO.out
      rw [hP0, hQ0] at hF
      have HX0 := Lib.hid (And.intro (hp0.trans hP0) (hp1.trans hQ0))
      clear hE hp HR HGT hP hlt HG hp0 hp1 hM hP0 hQ0 HGL hbB
      go_wp2_with fail
      generalize hw3 : (wr.alloc (.cells #[.pointer none, .slice none 0 0] 80)).alloc (.cells #[.int .i64 P0, .int .i64 Q0] 63) = w3 at hF ⊢
      have HF := Lib.hid hF
      clear hw3 hF h0 h1 h0' h1' HO
      generalize wr.heap.size = B at HF ⊢
      go_loopw [15] (fun v wr => ∃ m g, v = .pointer (some ⟨g, 0, none⟩) ∧ m ≤ E.length + 1 ∧ Hid (∀ i, 0 < i → i < m → fol M p i ≠ p) ∧ Hid (FoS w1 B M p m g wr)) (fun _ wr => leftOf B E.length wr)
      case atStart => exact ⟨0, B + 1, rfl, by omega, Lib.hid (fun i h1 h2 => by omega), HF⟩
      case round =>
        clear HF
        obtain ⟨m, g, rfl, hm, HMIN, HF⟩ := hrel
        by_cases hm0 : m = 0
        · have bm : ((m : Int) == 0) = true := by simp [hm0]
          have HGO : Hid (0 < m → fol M p m ≠ p) := Lib.hid (fun h => by omega)
          have HLEFT := Lib.hid (HF.out.left E.length)
          go_wp2_with fail
          refine start_ (n := 14) (S := fun w' => True) (ds := [0]) #[false, false, false, false, false, false, false, false, false, false, false, false, false, false] (by kernel_rfl) rfl rfl trivial (fun hHeld => ?_)
          refine last_ (i := 0) (N := (some 83)) #[true, false, false, false, false, false, false, false, false, false, false, false, false, false] rfl rfl (by kernel_rfl) (by decide) (fun K hK => ?_)
          refine goes_ Tryd.func68 (by kernel_rfl) rfl #[.pointer (some ⟨B, 0, none⟩)] (by rfl) rfl rfl (by (try simp only [List.map_toArray, List.map_cons, List.map_nil]); first | done | rfl) ?_
          refine (HF.out.later (Below.refl _ _).drew).len.mono ?_
          rintro e w4 ⟨rfl, rfl⟩
          refine ⟨_, rfl, ?_⟩
          have HF2 := Lib.hid (HF.out.later (Below.refl _ _).drew)
          refine hK.out _ _ ?_
          clear hK K
          refine norm_ (a' := ?_) ?_ ?_
          rotate_left
          · show Act.put _ (some 83) _ = _; simp only [Act.put, List.setIfInBounds_toArray, List.set_cons_zero, List.set_cons_succ, i64_w, i32_w]; rfl
          refine pure_ (i := 1) (N := (some 84)) (v := (.bool true)) (a' := ?_) #[true, true, false, false, false, false, false, false, false, false, false, false, false, false] rfl rfl (by kernel_rfl) (fun _ _ _ h => h) (Or.inl ⟨by rfl, ?_⟩) ?_ ?_
          · intro w'; go_simp; first | done | with_reducible rfl
          rotate_left
          · simp only [Act.put, List.setIfInBounds_toArray, List.set_cons_zero, List.set_cons_succ, i64_w, i32_w]; rfl
          refine pure_ (i := 2) (N := (some 85)) (v := ?_) (a' := ?_) #[true, true, true, false, false, false, false, false, false, false, false, false, false, false] rfl rfl (by kernel_rfl) (fun _ _ _ h => h) (Or.inl ⟨by rfl, ?_⟩) ?_ ?_
          rotate_left
          · intro w'; go_simp; first | done | with_reducible rfl
          rotate_left
          · simp only [Act.put, List.setIfInBounds_toArray, List.set_cons_zero, List.set_cons_succ, i64_w, i32_w]; rfl
          refine off_ (i := 3) (N := (some 86)) #[true, true, true, true, false, false, false, false, false, false, false, false, false, false] rfl rfl (by kernel_rfl) (fun _ _ _ h => h) (by rfl) (by simp only [Act.put, List.setIfInBounds_toArray, List.set_cons_zero, List.set_cons_succ, i64_w, i32_w]; rfl) ?_
          refine off_ (i := 4) (N := (some 87)) #[true, true, true, true, true, false, false, false, false, false, false, false, false, false] rfl rfl (by kernel_rfl) (fun _ _ _ h => h) (by rfl) (by simp only [Act.put, List.setIfInBounds_toArray, List.set_cons_zero, List.set_cons_succ, i64_w, i32_w]; rfl) ?_
          refine off_ (i := 5) (N := (some 88)) #[true, true, true, true, true, true, false, false, false, false, false, false, false, false] rfl rfl (by kernel_rfl) (fun _ _ _ h => h) (by rfl) (by simp only [Act.put, List.setIfInBounds_toArray, List.set_cons_zero, List.set_cons_succ, i64_w, i32_w]; rfl) ?_
          refine off_ (i := 6) (N := (some 89)) #[true, true, true, true, true, true, true, false, false, false, false, false, false, false] rfl rfl (by kernel_rfl) (fun _ _ _ h => h) (by rfl) (by simp only [Act.put, List.setIfInBounds_toArray, List.set_cons_zero, List.set_cons_succ, i64_w, i32_w]; rfl) ?_
          refine off_ (i := 7) (N := (some 90)) #[true, true, true, true, true, true, true, true, false, false, false, false, false, false] rfl rfl (by kernel_rfl) (fun _ _ _ h => h) (by rfl) (by simp only [Act.put, List.setIfInBounds_toArray, List.set_cons_zero, List.set_cons_succ, i64_w, i32_w]; rfl) ?_
          refine off_ (i := 8) (N := (some 91)) #[true, true, true, true, true, true, true, true, true, false, false, false, false, false] rfl rfl (by kernel_rfl) (fun _ _ _ h => h) (by rfl) (by simp only [Act.put, List.setIfInBounds_toArray, List.set_cons_zero, List.set_cons_succ, i64_w, i32_w]; rfl) ?_
          refine off_ (i := 9) (N := (some 92)) #[true, true, true, true, true, true, true, true, true, true, false, false, false, false] rfl rfl (by kernel_rfl) (fun _ _ _ h => h) (by rfl) (by simp only [Act.put, List.setIfInBounds_toArray, List.set_cons_zero, List.set_cons_succ, i64_w, i32_w]; rfl) ?_
          refine off_ (i := 10) (N := (some 93)) #[true, true, true, true, true, true, true, true, true, true, true, false, false, false] rfl rfl (by kernel_rfl) (fun _ _ _ h => h) (by rfl) (by simp only [Act.put, List.setIfInBounds_toArray, List.set_cons_zero, List.set_cons_succ, i64_w, i32_w]; rfl) ?_
          refine off_ (i := 11) (N := (some 94)) #[true, true, true, true, true, true, true, true, true, true, true, true, false, false] rfl rfl (by kernel_rfl) (fun _ _ _ h => h) (by rfl) (by simp only [Act.put, List.setIfInBounds_toArray, List.set_cons_zero, List.set_cons_succ, i64_w, i32_w]; rfl) ?_
          refine off_ (i := 12) (N := (some 95)) #[true, true, true, true, true, true, true, true, true, true, true, true, true, false] rfl rfl (by kernel_rfl) (fun _ _ _ h => h) (by rfl) (by simp only [Act.put, List.setIfInBounds_toArray, List.set_cons_zero, List.set_cons_succ, i64_w, i32_w]; rfl) ?_
          refine pure_ (i := 13) (N := (some 96)) (v := ?_) (a' := ?_) #[true, true, true, true, true, true, true, true, true, true, true, true, true, true] rfl rfl (by kernel_rfl) (fun _ _ _ h => h) (Or.inl ⟨by rfl, ?_⟩) ?_ ?_
          rotate_left
          · intro w'; go_simp; first | done | with_reducible rfl
          rotate_left
          · simp only [Act.put, List.setIfInBounds_toArray, List.set_cons_zero, List.set_cons_succ, i64_w, i32_w]; rfl
          refine done_ (by kernel_rfl) ?_
          have hm : m ≤ E.length := by omega
          clear hHeld HF bm
          obtain ⟨HF, -⟩ : ∃ h : Hid (FoS w1 B M p m g wr.drew), True := ⟨HF2, trivial⟩
          clear HF2
          generalize wr.drew = wz at HF ⊢
          have d0 := blk_cell HF.out.pt 0
          have d1 := blk_cell HF.out.pt 1
          have hlk := run_lookup_is (P := Tryd.prog) Tryd.underlying71 (z := (0 : Int)) (fun w => by kernel_rfl) keyOk_pair HF.out.map (fol M p m) false
          simp only [pairV, Bool.false_eq_true, if_false] at hlk
          have hlt2 := fol_le M p m
          have hstp := step_small (ltr M (fol M p m))
          have hpb := HPB.out
          obtain ⟨X, hX⟩ : ∃ X, (fol M p m).1 = X := ⟨_, rfl⟩
          obtain ⟨Y, hY⟩ : ∃ Y, (fol M p m).2 = Y := ⟨_, rfl⟩
          obtain ⟨q, hq⟩ : ∃ q, ltr M (fol M p m) = q := ⟨_, rfl⟩
          rw [show (findL M (fol M p m)).getD 0 = q from hq, hX, hY] at hlk
          rw [hq] at hstp
          simp [hX] at d0
          simp [hY] at d1
          rw [hX, hY] at hlt2
          have HXY := Lib.hid (And.intro hX (And.intro hY hq))
          have hx2 : wrap64 (X + stepx q) = X + stepx q := by unfold wrap64; omega
          have hy2 : wrap64 (Y + stepy q) = Y + stepy q := by unfold wrap64; omega
          have HW := Lib.hid (And.intro hx2 hy2)
          have HML : Hid (m ≤ E.length) := Lib.hid (by omega)
          clear hX hY hq hlt2 hstp hpb hx2 hy2
          go_wp2_with fail
          refine (Tryd.Builder_WriteByte_k B B _ q _ HF.out.bd (by rw [Lib.byteCells_length, wl_length]; omega) (by have := (Array.getElem?_eq_some_iff.1 HF.out.pt).1; have := HF.out.gb; omega)).mono ?_
          rintro e w5 ⟨rfl, hbd, hbl, hok⟩
          obtain ⟨f1, f2, f3, f4⟩ := HF.out.next (ltr_letter HLE.out _) (by rw [HXY.out.2.2]; exact hbd) hbl hok
          rw [HXY.out.1, HXY.out.2.1] at f4
          have hsz : B < w5.heap.size := by have := (Array.getElem?_eq_some_iff.1 HF.out.pt).1; have := HF.out.gb; have := hbl.size; omega
          have d2 := blk_cell f4 0
          have d3 := blk_cell f4 1
          simp at d2 d3
          have HN := Lib.hid (And.intro f1 (And.intro f2 (And.intro f3 hsz)))
          have HRB := Lib.hid HF.out.rb
          clear hbd hbl hok f1 f2 f3 f4 hsz d0 d1 hlk
          go_wp2_with fail
          have hb6 := below_one (w := w5) (.cells #[.int .i64 X, .int .i64 Y] 63)
          have hk6 := blk_new w5 (.cells #[.int .i64 X, .int .i64 Y] 63)
          obtain ⟨w6, hw6⟩ : ∃ w6, w6 = w5.alloc (.cells #[.int .i64 X, .int .i64 Y] 63) := ⟨_, rfl⟩
          rw [← hw6] at hb6 hk6 ⊢
          have look : ∀ w', Below w5.heap.size w5 w' → (Instr.lookup 71 (.map (some w1.heap.size)) (.agg #[.int .i64 X, .int .i64 Y]) false).run Tryd.prog w' = .ok (.int .u8 q) w' := fun w' hb => by
            have h := run_lookup_is (P := Tryd.prog) Tryd.underlying71 (z := (0 : Int)) (fun w => by kernel_rfl) keyOk_pair (HN.out.1.below hb) (fol M p m) false
            simp only [pairV, Bool.false_eq_true, if_false] at h
            rw [show (findL M (fol M p m)).getD 0 = q from HXY.out.2.2, HXY.out.1, HXY.out.2.1] at h
            exact h
          have LOOK := Lib.hid look
          have HB6 := Lib.hid hb6.drew
          have HK6 : Hid (w6.drew.heap[w5.heap.size]? = some (.cells #[.int .i64 X, .int .i64 Y] 63 (0, 0))) := Lib.hid hk6
          have q0 := blk_cell hk6 0
          have q1 := blk_cell hk6 1
          simp at q0 q1
          have q2 := look w6.drew hb6.drew
          clear hw6 hb6 hk6 look d2 d3
          obtain ⟨G2, hG2⟩ : ∃ G2, w5.heap.size = G2 := ⟨_, rfl⟩
          rw [hG2] at q0 q1 ⊢
          have HG2 := Lib.hid hG2
          clear hG2
          refine start_ (n := 7) (S := fun w' => w'.cell? ⟨G2, 0, none⟩ = some (.int .i64 X) ∧ w'.cell? ⟨G2, 1, none⟩ = some (.int .i64 Y) ∧ (Instr.lookup 71 (.map (some w1.heap.size)) (.agg #[.int .i64 X, .int .i64 Y]) false).run Tryd.prog w' = .ok (.int .u8 q) w') (ds := [6]) #[false, false, false, false, false, false, false] (by kernel_rfl) rfl rfl ⟨by simpa using q0, by simpa using q1, q2⟩ (fun hHeld => ?_)
          refine take_ (i := 0) (N := (some 97)) (v := ?_) (a' := ?_) #[true, false, false, false, false, false, false] rfl rfl (by kernel_rfl) (fun _ _ _ h => h) (Or.inl ⟨by rfl, ?_⟩) hHeld ?_ ?_
          rotate_left
          · rintro w' ⟨s0, s1, s2⟩; go_simp; first | done | with_reducible rfl
          rotate_left
          · simp only [Act.put, List.setIfInBounds_toArray, List.set_cons_zero, List.set_cons_succ, i64_w, i32_w]; rfl
          refine pure_ (i := 1) (N := (some 98)) (v := ?_) (a' := ?_) #[true, true, false, false, false, false, false] rfl rfl (by kernel_rfl) (fun _ _ _ h => h) (Or.inl ⟨by rfl, ?_⟩) ?_ ?_
          rotate_left
          · intro w'; go_simp; first | done | with_reducible rfl
          rotate_left
          · simp only [Act.put, List.setIfInBounds_toArray, List.set_cons_zero, List.set_cons_succ, i64_w, i32_w]; rfl
          refine take_ (i := 2) (N := (some 99)) (v := ?_) (a' := ?_) #[true, true, true, false, false, false, false] rfl rfl (by kernel_rfl) (fun _ _ _ h => h) (Or.inl ⟨by rfl, ?_⟩) hHeld ?_ ?_
          rotate_left
          · rintro w' ⟨s0, s1, s2⟩; go_simp; first | done | with_reducible rfl
          rotate_left
          · simp only [Act.put, List.setIfInBounds_toArray, List.set_cons_zero, List.set_cons_succ, i64_w, i32_w]; rfl
          refine take_ (i := 3) (N := (some 100)) (v := ?_) (a' := ?_) #[true, true, true, true, false, false, false] rfl rfl (by kernel_rfl) (fun _ _ _ h => h) (Or.inl ⟨by rfl, ?_⟩) hHeld ?_ ?_
          rotate_left
          · rintro w' ⟨s0, s1, s2⟩; go_simp; first | done | with_reducible rfl
          rotate_left
          · simp only [Act.put, List.setIfInBounds_toArray, List.set_cons_zero, List.set_cons_succ, i64_w, i32_w]; rfl
          refine one_ (i := 4) (N := (some 101)) #[true, true, true, true, true, false, false] rfl rfl (by kernel_rfl) (by decide) (fun K hK => ?_)
          refine goes_ Tryd.func69 (by kernel_rfl) rfl #[.int .u8 q] (by rfl) rfl rfl (by (try simp only [List.map_toArray, List.map_cons, List.map_nil]); first | done | rfl) ?_
          refine (step_calls _ _).mono ?_
          rintro e w7 ⟨rfl, hb7⟩
          refine ⟨_, rfl, ?_⟩
          have HB7 := Lib.hid (HB6.out.trans (hb7.mono HB6.out.size))
          have k7 := (hb7.block G2 (World.block_lt_of_cell? _ _ hHeld.1)).trans (HG2.out ▸ HK6.out)
          have r0 := blk_cell k7 0
          have r1 := blk_cell k7 1
          simp at r0 r1
          have HK7 := Lib.hid k7
          refine hK.out _ _ ⟨r0, r1, LOOK.out _ HB7.out⟩ (fun hHeld => ?_)
          clear hK K
          refine norm_ (a' := ?_) ?_ ?_
          rotate_left
          · show Act.put _ (some 101) _ = _; simp only [Act.put, List.setIfInBounds_toArray, List.set_cons_zero, List.set_cons_succ, i64_w, i32_w]; rfl
          refine one_ (i := 5) (N := (some 102)) #[true, true, true, true, true, true, false] rfl rfl (by kernel_rfl) (by decide) (fun K hK => ?_)
          refine goes_ Tryd.func65 (by kernel_rfl) rfl #[ptV X Y, ptV (stepx q) (stepy q)] (by rfl) rfl rfl (by (try simp only [List.map_toArray, List.map_cons, List.map_nil]); first | done | rfl) ?_
          refine (plus_at HW.out.1 HW.out.2 _).mono ?_
          rintro e w8 ⟨rfl, hb8⟩
          refine ⟨_, rfl, ?_⟩
          have HB8 := Lib.hid (HB7.out.trans (hb8.mono HB7.out.size))
          have k8 := (hb8.block G2 (Array.getElem?_eq_some_iff.1 HK7.out).1).trans HK7.out
          have r2 := blk_cell k8 0
          have r3 := blk_cell k8 1
          have r4 := blk_frozen k8 0
          have r5 := blk_frozen k8 1
          simp at r2 r3
          have HK8 := Lib.hid k8
          refine hK.out _ _ ⟨r2, r3, LOOK.out _ HB8.out⟩ (fun hHeld => ?_)
          clear hK K
          refine norm_ (a' := ?_) ?_ ?_
          rotate_left
          · show Act.put _ (some 102) _ = _; simp only [Act.put, List.setIfInBounds_toArray, List.set_cons_zero, List.set_cons_succ, i64_w, i32_w]; rfl
          clear r0 r1 k7 k8
          refine last_ (i := 6) (N := none) #[true, true, true, true, true, true, true] rfl rfl (by kernel_rfl) (by decide) (fun K hK => ?_)
          refine skip_step (w1 := (w8.setCell ⟨G2, 0, none⟩ (.int .i64 (X + stepx q))).setCell ⟨G2, 1, none⟩ (.int .i64 (Y + stepy q))) (by rfl) (by go_simp) ?_
          refine hK.out _ _ ?_
          clear hK K
          refine norm_ (a' := ?_) ?_ ?_
          rotate_left
          · show Act.put _ none _ = _; simp only [Act.put, List.setIfInBounds_toArray, List.set_cons_zero, List.set_cons_succ, i64_w, i32_w]; rfl
          refine done_ (by kernel_rfl) ?_
          have hbA : Below w5.heap.size w5 ((w8.setCell ⟨G2, 0, none⟩ (.int .i64 (X + stepx q))).setCell ⟨G2, 1, none⟩ (.int .i64 (Y + stepy q))) := (HB8.out.setCell (p := ⟨G2, 0, none⟩) (Nat.le_of_eq HG2.out) _).setCell (p := ⟨G2, 1, none⟩) (Nat.le_of_eq HG2.out) _
          have hpt := set_two (u := .int .i64 (X + stepx q)) (v := .int .i64 (Y + stepy q)) HK8.out
          have hFN : FoS w1 B M p (m + 1) G2 ((w8.setCell ⟨G2, 0, none⟩ (.int .i64 (X + stepx q))).setCell ⟨G2, 1, none⟩ (.int .i64 (Y + stepy q))) := by
            refine ⟨HN.out.1.below hbA, HN.out.2.1.trans (hbA.mono HN.out.2.1.size), bld_later HN.out.2.2.1 hbA, ?_, HRB.out, by have := HN.out.2.2.2; have := HG2.out; omega⟩
            rw [fol_succ, HXY.out.1, HXY.out.2.1, HXY.out.2.2]
            exact hpt
          have HFN := Lib.hid hFN
          clear hbA hpt hFN hHeld r2 r3 r4 r5 q0 q1 q2
          generalize (w8.setCell ⟨G2, 0, none⟩ (.int .i64 (X + stepx q))).setCell ⟨G2, 1, none⟩ (.int .i64 (Y + stepy q)) = w9 at HFN ⊢
          go_wp2_with fail
          refine ⟨⟨m + 1, G2, rfl, by have := HML.out; omega, Lib.hid (fun i h1 h2 => ?_), HFN⟩, ?_⟩
          · by_cases e : i = m
            · subst e
              exact HGO.out h1
            · exact HMIN.out i h1 (by omega)
          · rw [HFN.out.left, HLEFT.out]
            have := HML.out
            omega
        · have bm : ((m : Int) == 0) = false := by simp [hm0]
          have HM1 : Hid (1 ≤ m) := Lib.hid (by omega)
          have hP := HP1.out.later (HF.out.later (Below.refl _ _).drew).bl
          have a0 := hP.c0 0 (by omega)
          have a1 := hP.c1 0 (by omega)
          rw [HX0.out.1] at a0
          rw [HX0.out.2] at a1
          simp only [Nat.zero_mul, Nat.add_zero] at a0 a1
          have d0 := blk_cell HF.out.pt 0
          have d1 := blk_cell HF.out.pt 1
          obtain ⟨X, hX⟩ : ∃ X, (fol M p m).1 = X := ⟨_, rfl⟩
          obtain ⟨Y, hY⟩ : ∃ Y, (fol M p m).2 = Y := ⟨_, rfl⟩
          simp [hX] at d0
          simp [hY] at d1
          have HXY0 := Lib.hid (And.intro hX hY)
          clear hX hY hP
          have hm63 : Tryd.prog.eqGuardType Tryd.prog.depth 63 = false := by kernel_rfl
          have he := fun w => pair_eq X Y P0 Q0 w
          have hkn0 : 0 < k := by omega
          have HLEFT := Lib.hid (HF.out.left E.length)
          go_wp2_with fail
          by_cases hpq : X = P0 ∧ Y = Q0
          · have heq : (X == P0 && Y == Q0) = true := by rw [hpq.1, hpq.2]; simp
            rw [heq] at he
            have HSTOP : Hid (fol M p m = p ∨ E.length < m) := Lib.hid (.inl (Prod.ext (by rw [HXY0.out.1, HPQ.out.1]; exact hpq.1) (by rw [HXY0.out.2, HPQ.out.2]; exact hpq.2)))
            clear hpq heq
            refine start_ (n := 14) (S := fun w' => w'.cell? ⟨g, 0, none⟩ = some (.int .i64 X) ∧ w'.cell? ⟨g, 1, none⟩ = some (.int .i64 Y) ∧ w'.cell? ⟨b', off, none⟩ = some (.int .i64 P0) ∧ w'.cell? ⟨b', off + 1, none⟩ = some (.int .i64 Q0)) (ds := []) #[false, false, false, false, false, false, false, false, false, false, false, false, false, false] (by kernel_rfl) rfl rfl ⟨by simpa using d0, by simpa using d1, by simpa using a0, by simpa using a1⟩ (fun hHeld => ?_)
            refine one_ (i := 0) (N := (some 83)) #[true, false, false, false, false, false, false, false, false, false, false, false, false, false] rfl rfl (by kernel_rfl) (by decide) (fun K hK => ?_)
            refine goes_ Tryd.func68 (by kernel_rfl) rfl #[.pointer (some ⟨B, 0, none⟩)] (by rfl) rfl rfl (by (try simp only [List.map_toArray, List.map_cons, List.map_nil]); first | done | rfl) ?_
            refine (HF.out.later (Below.refl _ _).drew).len.mono ?_
            rintro e w4 ⟨rfl, rfl⟩
            refine ⟨_, rfl, ?_⟩
            refine hK.out _ _ hHeld (fun hHeld => ?_)
            clear hK K
            refine norm_ (a' := ?_) ?_ ?_
            rotate_left
            · show Act.put _ (some 83) _ = _; simp only [Act.put, List.setIfInBounds_toArray, List.set_cons_zero, List.set_cons_succ, i64_w, i32_w]; rfl
            refine pure_ (i := 1) (N := (some 84)) (v := (.bool false)) (a' := ?_) #[true, true, false, false, false, false, false, false, false, false, false, false, false, false] rfl rfl (by kernel_rfl) (fun _ _ _ h => h) (Or.inl ⟨by rfl, ?_⟩) ?_ ?_
            · intro w'; go_simp; first | done | with_reducible rfl
            rotate_left
            · simp only [Act.put, List.setIfInBounds_toArray, List.set_cons_zero, List.set_cons_succ, i64_w, i32_w]; rfl
            refine pure_ (i := 2) (N := (some 85)) (v := ?_) (a' := ?_) #[true, true, true, false, false, false, false, false, false, false, false, false, false, false] rfl rfl (by kernel_rfl) (fun _ _ _ h => h) (Or.inl ⟨by rfl, ?_⟩) ?_ ?_
            rotate_left
            · intro w'; go_simp; first | done | with_reducible rfl
            rotate_left
            · simp only [Act.put, List.setIfInBounds_toArray, List.set_cons_zero, List.set_cons_succ, i64_w, i32_w]; rfl
            refine take_ (i := 3) (N := (some 86)) (v := ?_) (a' := ?_) #[true, true, true, true, false, false, false, false, false, false, false, false, false, false] rfl rfl (by kernel_rfl) (fun _ _ _ h => h) (Or.inl ⟨by rfl, ?_⟩) hHeld ?_ ?_
            rotate_left
            · rintro w' ⟨s0, s1, s2, s3⟩; go_simp; first | done | with_reducible rfl
            rotate_left
            · simp only [Act.put, List.setIfInBounds_toArray, List.set_cons_zero, List.set_cons_succ, i64_w, i32_w]; rfl
            refine pure_ (i := 4) (N := (some 87)) (v := ?_) (a' := ?_) #[true, true, true, true, true, false, false, false, false, false, false, false, false, false] rfl rfl (by kernel_rfl) (fun _ _ _ h => h) (Or.inl ⟨by rfl, ?_⟩) ?_ ?_
            rotate_left
            · intro w'; go_simp; first | done | with_reducible rfl
            rotate_left
            · simp only [Act.put, List.setIfInBounds_toArray, List.set_cons_zero, List.set_cons_succ, i64_w, i32_w]; rfl
            refine pure_ (i := 5) (N := (some 88)) (v := ?_) (a' := ?_) #[true, true, true, true, true, true, false, false, false, false, false, false, false, false] rfl rfl (by kernel_rfl) (fun _ _ _ h => h) (Or.inl ⟨by rfl, ?_⟩) ?_ ?_
            rotate_left
            · intro w'; go_simp; first | done | with_reducible rfl
            rotate_left
            · simp only [Act.put, List.setIfInBounds_toArray, List.set_cons_zero, List.set_cons_succ, i64_w, i32_w]; rfl
            refine take_ (i := 6) (N := (some 89)) (v := ?_) (a' := ?_) #[true, true, true, true, true, true, true, false, false, false, false, false, false, false] rfl rfl (by kernel_rfl) (fun _ _ _ h => h) (Or.inl ⟨by rfl, ?_⟩) hHeld ?_ ?_
            rotate_left
            · rintro w' ⟨s0, s1, s2, s3⟩; go_simp; first | done | with_reducible rfl
            rotate_left
            · simp only [Act.put, List.setIfInBounds_toArray, List.set_cons_zero, List.set_cons_succ, i64_w, i32_w]; rfl
            refine pure_ (i := 7) (N := (some 90)) (v := (.bool false)) (a' := ?_) #[true, true, true, true, true, true, true, true, false, false, false, false, false, false] rfl rfl (by kernel_rfl) (fun _ _ _ h => h) (Or.inl ⟨by rfl, ?_⟩) ?_ ?_
            · intro w'; go_simp; first | done | with_reducible rfl
            rotate_left
            · simp only [Act.put, List.setIfInBounds_toArray, List.set_cons_zero, List.set_cons_succ, i64_w, i32_w]; rfl
            refine pure_ (i := 8) (N := (some 91)) (v := ?_) (a' := ?_) #[true, true, true, true, true, true, true, true, true, false, false, false, false, false] rfl rfl (by kernel_rfl) (fun _ _ _ h => h) (Or.inl ⟨by rfl, ?_⟩) ?_ ?_
            rotate_left
            · intro w'; go_simp; first | done | with_reducible rfl
            rotate_left
            · simp only [Act.put, List.setIfInBounds_toArray, List.set_cons_zero, List.set_cons_succ, i64_w, i32_w]; rfl
            refine off_ (i := 9) (N := (some 92)) #[true, true, true, true, true, true, true, true, true, true, false, false, false, false] rfl rfl (by kernel_rfl) (fun _ _ _ h => h) (by rfl) (by simp only [Act.put, List.setIfInBounds_toArray, List.set_cons_zero, List.set_cons_succ, i64_w, i32_w]; rfl) ?_
            refine off_ (i := 10) (N := (some 93)) #[true, true, true, true, true, true, true, true, true, true, true, false, false, false] rfl rfl (by kernel_rfl) (fun _ _ _ h => h) (by rfl) (by simp only [Act.put, List.setIfInBounds_toArray, List.set_cons_zero, List.set_cons_succ, i64_w, i32_w]; rfl) ?_
            refine off_ (i := 11) (N := (some 94)) #[true, true, true, true, true, true, true, true, true, true, true, true, false, false] rfl rfl (by kernel_rfl) (fun _ _ _ h => h) (by rfl) (by simp only [Act.put, List.setIfInBounds_toArray, List.set_cons_zero, List.set_cons_succ, i64_w, i32_w]; rfl) ?_
            refine pure_ (i := 12) (N := (some 95)) (v := ?_) (a' := ?_) #[true, true, true, true, true, true, true, true, true, true, true, true, true, false] rfl rfl (by kernel_rfl) (fun _ _ _ h => h) (Or.inl ⟨by rfl, ?_⟩) ?_ ?_
            rotate_left
            · intro w'; go_simp; first | done | with_reducible rfl
            rotate_left
            · simp only [Act.put, List.setIfInBounds_toArray, List.set_cons_zero, List.set_cons_succ, i64_w, i32_w]; rfl
            refine pure_ (i := 13) (N := (some 96)) (v := ?_) (a' := ?_) #[true, true, true, true, true, true, true, true, true, true, true, true, true, true] rfl rfl (by kernel_rfl) (fun _ _ _ h => h) (Or.inl ⟨by rfl, ?_⟩) ?_ ?_
            rotate_left
            · intro w'; go_simp; first | done | with_reducible rfl
            rotate_left
            · simp only [Act.put, List.setIfInBounds_toArray, List.set_cons_zero, List.set_cons_succ, i64_w, i32_w]; rfl
            refine done_ (by kernel_rfl) ?_
            have HF2 := Lib.hid (HF.out.later (Below.refl _ _).drew)
            clear HF bm he hm63 a0 a1 d0 d1
            obtain ⟨HF, -⟩ : ∃ h : Hid (FoS w1 B M p m g wr.drew), True := ⟨HF2, trivial⟩
            clear HF2
            generalize wr.drew = wz at HF ⊢
            go_wp2_with fail
            refine HF.out.len.mono ?_
            rintro e w4 ⟨rfl, rfl⟩
            have hst := HR2.out.stop HME.out HM1.out HMIN.out HSTOP.out
            have HBZ := Lib.hid (HB1.out.trans (HF.out.bl.mono HB1.out.size))
            by_cases h1 : m = E.length
            · have h1' : ((m : Int) != (E.length : Int)) = false := by simp [h1]
              obtain ⟨es, clock, hmb, hml⟩ := HF.out.map
              have hlm := run_len71 hmb
              have hes : es.size = M.length := by
                have := congrArg List.length hml
                simpa using this
              by_cases h2 : M.length = E.length
              · have h2' : ((es.size : Int) != (E.length : Int)) = false := by rw [hes]; simp [h2]
                obtain ⟨a1, a2⟩ := hst.2.2 h1 h2
                by_cases h24 : 24 < E.length
                · have h24' : (24 : Int) < E.length := by omega
                  obtain ⟨hr, hd⟩ := a1 h24
                  have HRD := Lib.hid (And.intro hr hd)
                  clear hr hd a1 a2 hst h1 h2 hml hes
                  go_wp2
                  go_ret2
                  rw [HRD.out.1, HRD.out.2]
                  exact ⟨rfl, HBZ.out⟩
                · have h24' : ¬ (24 : Int) < E.length := by omega
                  obtain ⟨hr, hd⟩ := a2 (by omega)
                  have HRD := Lib.hid (And.intro hr hd)
                  have HSZ : Hid (m ≤ 1000) := Lib.hid (by omega)
                  clear hr hd a1 a2 hst h1 h2 hml hes
                  go_wp2_with fail
                  refine (Tryd.Builder_String_k B B (wl M p m) _ HF.out.bd (fun e => by have h5 := congrArg List.length e; rw [wl_length] at h5; have := HM1.out; change m = 0 at h5; omega)).mono ?_
                  rintro e w5 ⟨rfl, hb5⟩
                  have HBY : Hid (Below w.heap.size w w5) := Lib.hid (HBZ.out.trans (hb5.mono (by have := HB1.out.size; have := HF.out.rb; omega)))
                  clear hb5
                  go_wp2_with fail
                  refine (first_calls (wlB M p m) _ (by rw [wlB_size]; exact HSZ.out) (wlB_ascii HLE.out p m)).mono ?_
                  rintro e w6 ⟨rfl, hb6⟩
                  have HBX := Lib.hid (HBY.out.trans (hb6.mono HBY.out.size))
                  rw [wlB_size]
                  clear hb6
                  go_wp2
                  go_ret2
                  rw [HRD.out.1, HRD.out.2]
                  exact ⟨rfl, HBX.out⟩
              · have h2' : ((es.size : Int) != (E.length : Int)) = true := by rw [hes]; simp; omega
                have HRD := Lib.hid (hst.2.1 h1 h2)
                clear hst h1 h2 hml hes
                go_wp2
                go_ret2
                rw [HRD.out.1, HRD.out.2]
                exact ⟨rfl, HBZ.out⟩
            · have h1' : ((m : Int) != (E.length : Int)) = true := by simp; omega
              have HRD := Lib.hid (hst.1 h1)
              clear hst h1
              go_wp2
              go_ret2
              rw [HRD.out.1, HRD.out.2]
              exact ⟨rfl, HBZ.out⟩
          · have heq : (X == P0 && Y == Q0) = false := by
              rw [Bool.eq_false_iff]
              intro h
              rw [Bool.and_eq_true, beq_iff_eq, beq_iff_eq] at h
              exact hpq h
            rw [heq] at he
            have HGO : Hid (0 < m → fol M p m ≠ p) := Lib.hid (fun _ e => hpq ⟨by rw [← HXY0.out.1, ← HPQ.out.1, e], by rw [← HXY0.out.2, ← HPQ.out.2, e]⟩)
            clear hpq heq
            by_cases hml : m ≤ E.length
            · have hml' : (m : Int) ≤ (E.length : Int) := by omega
              refine start_ (n := 14) (S := fun w' => w'.cell? ⟨g, 0, none⟩ = some (.int .i64 X) ∧ w'.cell? ⟨g, 1, none⟩ = some (.int .i64 Y) ∧ w'.cell? ⟨b', off, none⟩ = some (.int .i64 P0) ∧ w'.cell? ⟨b', off + 1, none⟩ = some (.int .i64 Q0)) (ds := []) #[false, false, false, false, false, false, false, false, false, false, false, false, false, false] (by kernel_rfl) rfl rfl ⟨by simpa using d0, by simpa using d1, by simpa using a0, by simpa using a1⟩ (fun hHeld => ?_)
              refine one_ (i := 0) (N := (some 83)) #[true, false, false, false, false, false, false, false, false, false, false, false, false, false] rfl rfl (by kernel_rfl) (by decide) (fun K hK => ?_)
              refine goes_ Tryd.func68 (by kernel_rfl) rfl #[.pointer (some ⟨B, 0, none⟩)] (by rfl) rfl rfl (by (try simp only [List.map_toArray, List.map_cons, List.map_nil]); first | done | rfl) ?_
              refine (HF.out.later (Below.refl _ _).drew).len.mono ?_
              rintro e w4 ⟨rfl, rfl⟩
              refine ⟨_, rfl, ?_⟩
              refine hK.out _ _ hHeld (fun hHeld => ?_)
              clear hK K
              refine norm_ (a' := ?_) ?_ ?_
              rotate_left
              · show Act.put _ (some 83) _ = _; simp only [Act.put, List.setIfInBounds_toArray, List.set_cons_zero, List.set_cons_succ, i64_w, i32_w]; rfl
              refine pure_ (i := 1) (N := (some 84)) (v := (.bool false)) (a' := ?_) #[true, true, false, false, false, false, false, false, false, false, false, false, false, false] rfl rfl (by kernel_rfl) (fun _ _ _ h => h) (Or.inl ⟨by rfl, ?_⟩) ?_ ?_
              · intro w'; go_simp; first | done | with_reducible rfl
              rotate_left
              · simp only [Act.put, List.setIfInBounds_toArray, List.set_cons_zero, List.set_cons_succ, i64_w, i32_w]; rfl
              refine pure_ (i := 2) (N := (some 85)) (v := ?_) (a' := ?_) #[true, true, true, false, false, false, false, false, false, false, false, false, false, false] rfl rfl (by kernel_rfl) (fun _ _ _ h => h) (Or.inl ⟨by rfl, ?_⟩) ?_ ?_
              rotate_left
              · intro w'; go_simp; first | done | with_reducible rfl
              rotate_left
              · simp only [Act.put, List.setIfInBounds_toArray, List.set_cons_zero, List.set_cons_succ, i64_w, i32_w]; rfl
              refine take_ (i := 3) (N := (some 86)) (v := ?_) (a' := ?_) #[true, true, true, true, false, false, false, false, false, false, false, false, false, false] rfl rfl (by kernel_rfl) (fun _ _ _ h => h) (Or.inl ⟨by rfl, ?_⟩) hHeld ?_ ?_
              rotate_left
              · rintro w' ⟨s0, s1, s2, s3⟩; go_simp; first | done | with_reducible rfl
              rotate_left
              · simp only [Act.put, List.setIfInBounds_toArray, List.set_cons_zero, List.set_cons_succ, i64_w, i32_w]; rfl
              refine pure_ (i := 4) (N := (some 87)) (v := ?_) (a' := ?_) #[true, true, true, true, true, false, false, false, false, false, false, false, false, false] rfl rfl (by kernel_rfl) (fun _ _ _ h => h) (Or.inl ⟨by rfl, ?_⟩) ?_ ?_
              rotate_left
              · intro w'; go_simp; first | done | with_reducible rfl
              rotate_left
              · simp only [Act.put, List.setIfInBounds_toArray, List.set_cons_zero, List.set_cons_succ, i64_w, i32_w]; rfl
              refine pure_ (i := 5) (N := (some 88)) (v := ?_) (a' := ?_) #[true, true, true, true, true, true, false, false, false, false, false, false, false, false] rfl rfl (by kernel_rfl) (fun _ _ _ h => h) (Or.inl ⟨by rfl, ?_⟩) ?_ ?_
              rotate_left
              · intro w'; go_simp; first | done | with_reducible rfl
              rotate_left
              · simp only [Act.put, List.setIfInBounds_toArray, List.set_cons_zero, List.set_cons_succ, i64_w, i32_w]; rfl
              refine take_ (i := 6) (N := (some 89)) (v := ?_) (a' := ?_) #[true, true, true, true, true, true, true, false, false, false, false, false, false, false] rfl rfl (by kernel_rfl) (fun _ _ _ h => h) (Or.inl ⟨by rfl, ?_⟩) hHeld ?_ ?_
              rotate_left
              · rintro w' ⟨s0, s1, s2, s3⟩; go_simp; first | done | with_reducible rfl
              rotate_left
              · simp only [Act.put, List.setIfInBounds_toArray, List.set_cons_zero, List.set_cons_succ, i64_w, i32_w]; rfl
              refine pure_ (i := 7) (N := (some 90)) (v := (.bool true)) (a' := ?_) #[true, true, true, true, true, true, true, true, false, false, false, false, false, false] rfl rfl (by kernel_rfl) (fun _ _ _ h => h) (Or.inl ⟨by rfl, ?_⟩) ?_ ?_
              · intro w'; go_simp; first | done | with_reducible rfl
              rotate_left
              · simp only [Act.put, List.setIfInBounds_toArray, List.set_cons_zero, List.set_cons_succ, i64_w, i32_w]; rfl
              refine pure_ (i := 8) (N := (some 91)) (v := ?_) (a' := ?_) #[true, true, true, true, true, true, true, true, true, false, false, false, false, false] rfl rfl (by kernel_rfl) (fun _ _ _ h => h) (Or.inl ⟨by rfl, ?_⟩) ?_ ?_
              rotate_left
              · intro w'; go_simp; first | done | with_reducible rfl
              rotate_left
              · simp only [Act.put, List.setIfInBounds_toArray, List.set_cons_zero, List.set_cons_succ, i64_w, i32_w]; rfl
              refine pure_ (i := 10) (N := (some 93)) (v := ?_) (a' := ?_) #[true, true, true, true, true, true, true, true, true, false, true, false, false, false] rfl rfl (by kernel_rfl) (fun _ _ _ h => h) (Or.inl ⟨by rfl, ?_⟩) ?_ ?_
              rotate_left
              · intro w'; go_simp; first | done | with_reducible rfl
              rotate_left
              · simp only [Act.put, List.setIfInBounds_toArray, List.set_cons_zero, List.set_cons_succ, i64_w, i32_w]; rfl
              refine one_ (i := 9) (N := (some 92)) #[true, true, true, true, true, true, true, true, true, true, true, false, false, false] rfl rfl (by kernel_rfl) (by decide) (fun K hK => ?_)
              refine goes_ Tryd.func68 (by kernel_rfl) rfl #[.pointer (some ⟨B, 0, none⟩)] (by rfl) rfl rfl (by (try simp only [List.map_toArray, List.map_cons, List.map_nil]); first | done | rfl) ?_
              refine (HF.out.later (Below.refl _ _).drew).len.mono ?_
              rintro e w4 ⟨rfl, rfl⟩
              refine ⟨_, rfl, ?_⟩
              refine hK.out _ _ hHeld (fun hHeld => ?_)
              clear hK K
              refine norm_ (a' := ?_) ?_ ?_
              rotate_left
              · show Act.put _ (some 92) _ = _; simp only [Act.put, List.setIfInBounds_toArray, List.set_cons_zero, List.set_cons_succ, i64_w, i32_w]; rfl
              refine pure_ (i := 11) (N := (some 94)) (v := (.bool true)) (a' := ?_) #[true, true, true, true, true, true, true, true, true, true, true, true, false, false] rfl rfl (by kernel_rfl) (fun _ _ _ h => h) (Or.inl ⟨by rfl, ?_⟩) ?_ ?_
              · intro w'; go_simp; first | done | with_reducible rfl
              rotate_left
              · simp only [Act.put, List.setIfInBounds_toArray, List.set_cons_zero, List.set_cons_succ, i64_w, i32_w]; rfl
              refine pure_ (i := 12) (N := (some 95)) (v := ?_) (a' := ?_) #[true, true, true, true, true, true, true, true, true, true, true, true, true, false] rfl rfl (by kernel_rfl) (fun _ _ _ h => h) (Or.inl ⟨by rfl, ?_⟩) ?_ ?_
              rotate_left
              · intro w'; go_simp; first | done | with_reducible rfl
              rotate_left
              · simp only [Act.put, List.setIfInBounds_toArray, List.set_cons_zero, List.set_cons_succ, i64_w, i32_w]; rfl
              refine pure_ (i := 13) (N := (some 96)) (v := ?_) (a' := ?_) #[true, true, true, true, true, true, true, true, true, true, true, true, true, true] rfl rfl (by kernel_rfl) (fun _ _ _ h => h) (Or.inl ⟨by rfl, ?_⟩) ?_ ?_
              rotate_left
              · intro w'; go_simp; first | done | with_reducible rfl
              rotate_left
              · simp only [Act.put, List.setIfInBounds_toArray, List.set_cons_zero, List.set_cons_succ, i64_w, i32_w]; rfl
              refine done_ (by kernel_rfl) ?_
              have hm : m ≤ E.length := hml
              clear hml'
              have HF2 := Lib.hid (HF.out.later (Below.refl _ _).drew)
              clear HF bm he hm63 a0 a1 d0 d1
              obtain ⟨HF, -⟩ : ∃ h : Hid (FoS w1 B M p m g wr.drew), True := ⟨HF2, trivial⟩
              clear HF2
              generalize wr.drew = wz at HF ⊢
              have d0 := blk_cell HF.out.pt 0
              have d1 := blk_cell HF.out.pt 1
              have hlk := run_lookup_is (P := Tryd.prog) Tryd.underlying71 (z := (0 : Int)) (fun w => by kernel_rfl) keyOk_pair HF.out.map (fol M p m) false
              simp only [pairV, Bool.false_eq_true, if_false] at hlk
              have hlt2 := fol_le M p m
              have hstp := step_small (ltr M (fol M p m))
              have hpb := HPB.out
              obtain ⟨X, hX⟩ : ∃ X, (fol M p m).1 = X := ⟨_, rfl⟩
              obtain ⟨Y, hY⟩ : ∃ Y, (fol M p m).2 = Y := ⟨_, rfl⟩
              obtain ⟨q, hq⟩ : ∃ q, ltr M (fol M p m) = q := ⟨_, rfl⟩
              rw [show (findL M (fol M p m)).getD 0 = q from hq, hX, hY] at hlk
              rw [hq] at hstp
              simp [hX] at d0
              simp [hY] at d1
              rw [hX, hY] at hlt2
              have HXY := Lib.hid (And.intro hX (And.intro hY hq))
              have hx2 : wrap64 (X + stepx q) = X + stepx q := by unfold wrap64; omega
              have hy2 : wrap64 (Y + stepy q) = Y + stepy q := by unfold wrap64; omega
              have HW := Lib.hid (And.intro hx2 hy2)
              have HML : Hid (m ≤ E.length) := Lib.hid (by omega)
              clear hX hY hq hlt2 hstp hpb hx2 hy2
              go_wp2_with fail
              refine (Tryd.Builder_WriteByte_k B B _ q _ HF.out.bd (by rw [Lib.byteCells_length, wl_length]; omega) (by have := (Array.getElem?_eq_some_iff.1 HF.out.pt).1; have := HF.out.gb; omega)).mono ?_
              rintro e w5 ⟨rfl, hbd, hbl, hok⟩
              obtain ⟨f1, f2, f3, f4⟩ := HF.out.next (ltr_letter HLE.out _) (by rw [HXY.out.2.2]; exact hbd) hbl hok
              rw [HXY.out.1, HXY.out.2.1] at f4
              have hsz : B < w5.heap.size := by have := (Array.getElem?_eq_some_iff.1 HF.out.pt).1; have := HF.out.gb; have := hbl.size; omega
              have d2 := blk_cell f4 0
              have d3 := blk_cell f4 1
              simp at d2 d3
              have HN := Lib.hid (And.intro f1 (And.intro f2 (And.intro f3 hsz)))
              have HRB := Lib.hid HF.out.rb
              clear hbd hbl hok f1 f2 f3 f4 hsz d0 d1 hlk
              go_wp2_with fail
              have hb6 := below_one (w := w5) (.cells #[.int .i64 X, .int .i64 Y] 63)
              have hk6 := blk_new w5 (.cells #[.int .i64 X, .int .i64 Y] 63)
              obtain ⟨w6, hw6⟩ : ∃ w6, w6 = w5.alloc (.cells #[.int .i64 X, .int .i64 Y] 63) := ⟨_, rfl⟩
              rw [← hw6] at hb6 hk6 ⊢
              have look : ∀ w', Below w5.heap.size w5 w' → (Instr.lookup 71 (.map (some w1.heap.size)) (.agg #[.int .i64 X, .int .i64 Y]) false).run Tryd.prog w' = .ok (.int .u8 q) w' := fun w' hb => by
                have h := run_lookup_is (P := Tryd.prog) Tryd.underlying71 (z := (0 : Int)) (fun w => by kernel_rfl) keyOk_pair (HN.out.1.below hb) (fol M p m) false
                simp only [pairV, Bool.false_eq_true, if_false] at h
                rw [show (findL M (fol M p m)).getD 0 = q from HXY.out.2.2, HXY.out.1, HXY.out.2.1] at h
                exact h
              have LOOK := Lib.hid look
              have HB6 := Lib.hid hb6.drew
              have HK6 : Hid (w6.drew.heap[w5.heap.size]? = some (.cells #[.int .i64 X, .int .i64 Y] 63 (0, 0))) := Lib.hid hk6
              have q0 := blk_cell hk6 0
              have q1 := blk_cell hk6 1
              simp at q0 q1
              have q2 := look w6.drew hb6.drew
              clear hw6 hb6 hk6 look d2 d3
              obtain ⟨G2, hG2⟩ : ∃ G2, w5.heap.size = G2 := ⟨_, rfl⟩
              rw [hG2] at q0 q1 ⊢
              have HG2 := Lib.hid hG2
              clear hG2
              refine start_ (n := 7) (S := fun w' => w'.cell? ⟨G2, 0, none⟩ = some (.int .i64 X) ∧ w'.cell? ⟨G2, 1, none⟩ = some (.int .i64 Y) ∧ (Instr.lookup 71 (.map (some w1.heap.size)) (.agg #[.int .i64 X, .int .i64 Y]) false).run Tryd.prog w' = .ok (.int .u8 q) w') (ds := [6]) #[false, false, false, false, false, false, false] (by kernel_rfl) rfl rfl ⟨by simpa using q0, by simpa using q1, q2⟩ (fun hHeld => ?_)
              refine take_ (i := 0) (N := (some 97)) (v := ?_) (a' := ?_) #[true, false, false, false, false, false, false] rfl rfl (by kernel_rfl) (fun _ _ _ h => h) (Or.inl ⟨by rfl, ?_⟩) hHeld ?_ ?_
              rotate_left
              · rintro w' ⟨s0, s1, s2⟩; go_simp; first | done | with_reducible rfl
              rotate_left
              · simp only [Act.put, List.setIfInBounds_toArray, List.set_cons_zero, List.set_cons_succ, i64_w, i32_w]; rfl
              refine pure_ (i := 1) (N := (some 98)) (v := ?_) (a' := ?_) #[true, true, false, false, false, false, false] rfl rfl (by kernel_rfl) (fun _ _ _ h => h) (Or.inl ⟨by rfl, ?_⟩) ?_ ?_
              rotate_left
              · intro w'; go_simp; first | done | with_reducible rfl
              rotate_left
              · simp only [Act.put, List.setIfInBounds_toArray, List.set_cons_zero, List.set_cons_succ, i64_w, i32_w]; rfl
              refine take_ (i := 2) (N := (some 99)) (v := ?_) (a' := ?_) #[true, true, true, false, false, false, false] rfl rfl (by kernel_rfl) (fun _ _ _ h => h) (Or.inl ⟨by rfl, ?_⟩) hHeld ?_ ?_
              rotate_left
              · rintro w' ⟨s0, s1, s2⟩; go_simp; first | done | with_reducible rfl
              rotate_left
              · simp only [Act.put, List.setIfInBounds_toArray, List.set_cons_zero, List.set_cons_succ, i64_w, i32_w]; rfl
              refine take_ (i := 3) (N := (some 100)) (v := ?_) (a' := ?_) #[true, true, true, true, false, false, false] rfl rfl (by kernel_rfl) (fun _ _ _ h => h) (Or.inl ⟨by rfl, ?_⟩) hHeld ?_ ?_
              rotate_left
              · rintro w' ⟨s0, s1, s2⟩; go_simp; first | done | with_reducible rfl
              rotate_left
              · simp only [Act.put, List.setIfInBounds_toArray, List.set_cons_zero, List.set_cons_succ, i64_w, i32_w]; rfl
              refine one_ (i := 4) (N := (some 101)) #[true, true, true, true, true, false, false] rfl rfl (by kernel_rfl) (by decide) (fun K hK => ?_)
              refine goes_ Tryd.func69 (by kernel_rfl) rfl #[.int .u8 q] (by rfl) rfl rfl (by (try simp only [List.map_toArray, List.map_cons, List.map_nil]); first | done | rfl) ?_
              refine (step_calls _ _).mono ?_
              rintro e w7 ⟨rfl, hb7⟩
              refine ⟨_, rfl, ?_⟩
              have HB7 := Lib.hid (HB6.out.trans (hb7.mono HB6.out.size))
              have k7 := (hb7.block G2 (World.block_lt_of_cell? _ _ hHeld.1)).trans (HG2.out ▸ HK6.out)
              have r0 := blk_cell k7 0
              have r1 := blk_cell k7 1
              simp at r0 r1
              have HK7 := Lib.hid k7
              refine hK.out _ _ ⟨r0, r1, LOOK.out _ HB7.out⟩ (fun hHeld => ?_)
              clear hK K
              refine norm_ (a' := ?_) ?_ ?_
              rotate_left
              · show Act.put _ (some 101) _ = _; simp only [Act.put, List.setIfInBounds_toArray, List.set_cons_zero, List.set_cons_succ, i64_w, i32_w]; rfl
              refine one_ (i := 5) (N := (some 102)) #[true, true, true, true, true, true, false] rfl rfl (by kernel_rfl) (by decide) (fun K hK => ?_)
              refine goes_ Tryd.func65 (by kernel_rfl) rfl #[ptV X Y, ptV (stepx q) (stepy q)] (by rfl) rfl rfl (by (try simp only [List.map_toArray, List.map_cons, List.map_nil]); first | done | rfl) ?_
              refine (plus_at HW.out.1 HW.out.2 _).mono ?_
              rintro e w8 ⟨rfl, hb8⟩
              refine ⟨_, rfl, ?_⟩
              have HB8 := Lib.hid (HB7.out.trans (hb8.mono HB7.out.size))
              have k8 := (hb8.block G2 (Array.getElem?_eq_some_iff.1 HK7.out).1).trans HK7.out
              have r2 := blk_cell k8 0
              have r3 := blk_cell k8 1
              have r4 := blk_frozen k8 0
              have r5 := blk_frozen k8 1
              simp at r2 r3
              have HK8 := Lib.hid k8
              refine hK.out _ _ ⟨r2, r3, LOOK.out _ HB8.out⟩ (fun hHeld => ?_)
              clear hK K
              refine norm_ (a' := ?_) ?_ ?_
              rotate_left
              · show Act.put _ (some 102) _ = _; simp only [Act.put, List.setIfInBounds_toArray, List.set_cons_zero, List.set_cons_succ, i64_w, i32_w]; rfl
              clear r0 r1 k7 k8
              refine last_ (i := 6) (N := none) #[true, true, true, true, true, true, true] rfl rfl (by kernel_rfl) (by decide) (fun K hK => ?_)
              refine skip_step (w1 := (w8.setCell ⟨G2, 0, none⟩ (.int .i64 (X + stepx q))).setCell ⟨G2, 1, none⟩ (.int .i64 (Y + stepy q))) (by rfl) (by go_simp) ?_
              refine hK.out _ _ ?_
              clear hK K
              refine norm_ (a' := ?_) ?_ ?_
              rotate_left
              · show Act.put _ none _ = _; simp only [Act.put, List.setIfInBounds_toArray, List.set_cons_zero, List.set_cons_succ, i64_w, i32_w]; rfl
              refine done_ (by kernel_rfl) ?_
              have hbA : Below w5.heap.size w5 ((w8.setCell ⟨G2, 0, none⟩ (.int .i64 (X + stepx q))).setCell ⟨G2, 1, none⟩ (.int .i64 (Y + stepy q))) := (HB8.out.setCell (p := ⟨G2, 0, none⟩) (Nat.le_of_eq HG2.out) _).setCell (p := ⟨G2, 1, none⟩) (Nat.le_of_eq HG2.out) _
              have hpt := set_two (u := .int .i64 (X + stepx q)) (v := .int .i64 (Y + stepy q)) HK8.out
              have hFN : FoS w1 B M p (m + 1) G2 ((w8.setCell ⟨G2, 0, none⟩ (.int .i64 (X + stepx q))).setCell ⟨G2, 1, none⟩ (.int .i64 (Y + stepy q))) := by
                refine ⟨HN.out.1.below hbA, HN.out.2.1.trans (hbA.mono HN.out.2.1.size), bld_later HN.out.2.2.1 hbA, ?_, HRB.out, by have := HN.out.2.2.2; have := HG2.out; omega⟩
                rw [fol_succ, HXY.out.1, HXY.out.2.1, HXY.out.2.2]
                exact hpt
              have HFN := Lib.hid hFN
              clear hbA hpt hFN hHeld r2 r3 r4 r5 q0 q1 q2
              generalize (w8.setCell ⟨G2, 0, none⟩ (.int .i64 (X + stepx q))).setCell ⟨G2, 1, none⟩ (.int .i64 (Y + stepy q)) = w9 at HFN ⊢
              go_wp2_with fail
              refine ⟨⟨m + 1, G2, rfl, by have := HML.out; omega, Lib.hid (fun i h1 h2 => ?_), HFN⟩, ?_⟩
              · by_cases e : i = m
                · subst e
                  exact HGO.out h1
                · exact HMIN.out i h1 (by omega)
              · rw [HFN.out.left, HLEFT.out]
                have := HML.out
                omega
            · have hml' : ¬ (m : Int) ≤ (E.length : Int) := by omega
              have HSTOP : Hid (fol M p m = p ∨ E.length < m) := Lib.hid (.inr (by omega))
              refine start_ (n := 14) (S := fun w' => w'.cell? ⟨g, 0, none⟩ = some (.int .i64 X) ∧ w'.cell? ⟨g, 1, none⟩ = some (.int .i64 Y) ∧ w'.cell? ⟨b', off, none⟩ = some (.int .i64 P0) ∧ w'.cell? ⟨b', off + 1, none⟩ = some (.int .i64 Q0)) (ds := []) #[false, false, false, false, false, false, false, false, false, false, false, false, false, false] (by kernel_rfl) rfl rfl ⟨by simpa using d0, by simpa using d1, by simpa using a0, by simpa using a1⟩ (fun hHeld => ?_)
              refine one_ (i := 0) (N := (some 83)) #[true, false, false, false, false, false, false, false, false, false, false, false, false, false] rfl rfl (by kernel_rfl) (by decide) (fun K hK => ?_)
              refine goes_ Tryd.func68 (by kernel_rfl) rfl #[.pointer (some ⟨B, 0, none⟩)] (by rfl) rfl rfl (by (try simp only [List.map_toArray, List.map_cons, List.map_nil]); first | done | rfl) ?_
              refine (HF.out.later (Below.refl _ _).drew).len.mono ?_
              rintro e w4 ⟨rfl, rfl⟩
              refine ⟨_, rfl, ?_⟩
              refine hK.out _ _ hHeld (fun hHeld => ?_)
              clear hK K
              refine norm_ (a' := ?_) ?_ ?_
              rotate_left
              · show Act.put _ (some 83) _ = _; simp only [Act.put, List.setIfInBounds_toArray, List.set_cons_zero, List.set_cons_succ, i64_w, i32_w]; rfl
              refine pure_ (i := 1) (N := (some 84)) (v := (.bool false)) (a' := ?_) #[true, true, false, false, false, false, false, false, false, false, false, false, false, false] rfl rfl (by kernel_rfl) (fun _ _ _ h => h) (Or.inl ⟨by rfl, ?_⟩) ?_ ?_
              · intro w'; go_simp; first | done | with_reducible rfl
              rotate_left
              · simp only [Act.put, List.setIfInBounds_toArray, List.set_cons_zero, List.set_cons_succ, i64_w, i32_w]; rfl
              refine pure_ (i := 2) (N := (some 85)) (v := ?_) (a' := ?_) #[true, true, true, false, false, false, false, false, false, false, false, false, false, false] rfl rfl (by kernel_rfl) (fun _ _ _ h => h) (Or.inl ⟨by rfl, ?_⟩) ?_ ?_
              rotate_left
              · intro w'; go_simp; first | done | with_reducible rfl
              rotate_left
              · simp only [Act.put, List.setIfInBounds_toArray, List.set_cons_zero, List.set_cons_succ, i64_w, i32_w]; rfl
              refine take_ (i := 3) (N := (some 86)) (v := ?_) (a' := ?_) #[true, true, true, true, false, false, false, false, false, false, false, false, false, false] rfl rfl (by kernel_rfl) (fun _ _ _ h => h) (Or.inl ⟨by rfl, ?_⟩) hHeld ?_ ?_
              rotate_left
              · rintro w' ⟨s0, s1, s2, s3⟩; go_simp; first | done | with_reducible rfl
              rotate_left
              · simp only [Act.put, List.setIfInBounds_toArray, List.set_cons_zero, List.set_cons_succ, i64_w, i32_w]; rfl
              refine pure_ (i := 4) (N := (some 87)) (v := ?_) (a' := ?_) #[true, true, true, true, true, false, false, false, false, false, false, false, false, false] rfl rfl (by kernel_rfl) (fun _ _ _ h => h) (Or.inl ⟨by rfl, ?_⟩) ?_ ?_
              rotate_left
              · intro w'; go_simp; first | done | with_reducible rfl
              rotate_left
              · simp only [Act.put, List.setIfInBounds_toArray, List.set_cons_zero, List.set_cons_succ, i64_w, i32_w]; rfl
              refine pure_ (i := 5) (N := (some 88)) (v := ?_) (a' := ?_) #[true, true, true, true, true, true, false, false, false, false, false, false, false, false] rfl rfl (by kernel_rfl) (fun _ _ _ h => h) (Or.inl ⟨by rfl, ?_⟩) ?_ ?_
              rotate_left
              · intro w'; go_simp; first | done | with_reducible rfl
              rotate_left
              · simp only [Act.put, List.setIfInBounds_toArray, List.set_cons_zero, List.set_cons_succ, i64_w, i32_w]; rfl
              refine take_ (i := 6) (N := (some 89)) (v := ?_) (a' := ?_) #[true, true, true, true, true, true, true, false, false, false, false, false, false, false] rfl rfl (by kernel_rfl) (fun _ _ _ h => h) (Or.inl ⟨by rfl, ?_⟩) hHeld ?_ ?_
              rotate_left
              · rintro w' ⟨s0, s1, s2, s3⟩; go_simp; first | done | with_reducible rfl
              rotate_left
              · simp only [Act.put, List.setIfInBounds_toArray, List.set_cons_zero, List.set_cons_succ, i64_w, i32_w]; rfl
              refine pure_ (i := 7) (N := (some 90)) (v := (.bool true)) (a' := ?_) #[true, true, true, true, true, true, true, true, false, false, false, false, false, false] rfl rfl (by kernel_rfl) (fun _ _ _ h => h) (Or.inl ⟨by rfl, ?_⟩) ?_ ?_
              · intro w'; go_simp; first | done | with_reducible rfl
              rotate_left
              · simp only [Act.put, List.setIfInBounds_toArray, List.set_cons_zero, List.set_cons_succ, i64_w, i32_w]; rfl
              refine pure_ (i := 8) (N := (some 91)) (v := ?_) (a' := ?_) #[true, true, true, true, true, true, true, true, true, false, false, false, false, false] rfl rfl (by kernel_rfl) (fun _ _ _ h => h) (Or.inl ⟨by rfl, ?_⟩) ?_ ?_
              rotate_left
              · intro w'; go_simp; first | done | with_reducible rfl
              rotate_left
              · simp only [Act.put, List.setIfInBounds_toArray, List.set_cons_zero, List.set_cons_succ, i64_w, i32_w]; rfl
              refine pure_ (i := 10) (N := (some 93)) (v := ?_) (a' := ?_) #[true, true, true, true, true, true, true, true, true, false, true, false, false, false] rfl rfl (by kernel_rfl) (fun _ _ _ h => h) (Or.inl ⟨by rfl, ?_⟩) ?_ ?_
              rotate_left
              · intro w'; go_simp; first | done | with_reducible rfl
              rotate_left
              · simp only [Act.put, List.setIfInBounds_toArray, List.set_cons_zero, List.set_cons_succ, i64_w, i32_w]; rfl
              refine one_ (i := 9) (N := (some 92)) #[true, true, true, true, true, true, true, true, true, true, true, false, false, false] rfl rfl (by kernel_rfl) (by decide) (fun K hK => ?_)
              refine goes_ Tryd.func68 (by kernel_rfl) rfl #[.pointer (some ⟨B, 0, none⟩)] (by rfl) rfl rfl (by (try simp only [List.map_toArray, List.map_cons, List.map_nil]); first | done | rfl) ?_
              refine (HF.out.later (Below.refl _ _).drew).len.mono ?_
              rintro e w4 ⟨rfl, rfl⟩
              refine ⟨_, rfl, ?_⟩
              refine hK.out _ _ hHeld (fun hHeld => ?_)
              clear hK K
              refine norm_ (a' := ?_) ?_ ?_
              rotate_left
              · show Act.put _ (some 92) _ = _; simp only [Act.put, List.setIfInBounds_toArray, List.set_cons_zero, List.set_cons_succ, i64_w, i32_w]; rfl
              refine pure_ (i := 11) (N := (some 94)) (v := (.bool false)) (a' := ?_) #[true, true, true, true, true, true, true, true, true, true, true, true, false, false] rfl rfl (by kernel_rfl) (fun _ _ _ h => h) (Or.inl ⟨by rfl, ?_⟩) ?_ ?_
              · intro w'; go_simp; first | done | with_reducible rfl
              rotate_left
              · simp only [Act.put, List.setIfInBounds_toArray, List.set_cons_zero, List.set_cons_succ, i64_w, i32_w]; rfl
              refine pure_ (i := 12) (N := (some 95)) (v := ?_) (a' := ?_) #[true, true, true, true, true, true, true, true, true, true, true, true, true, false] rfl rfl (by kernel_rfl) (fun _ _ _ h => h) (Or.inl ⟨by rfl, ?_⟩) ?_ ?_
              rotate_left
              · intro w'; go_simp; first | done | with_reducible rfl
              rotate_left
              · simp only [Act.put, List.setIfInBounds_toArray, List.set_cons_zero, List.set_cons_succ, i64_w, i32_w]; rfl
              refine pure_ (i := 13) (N := (some 96)) (v := ?_) (a' := ?_) #[true, true, true, true, true, true, true, true, true, true, true, true, true, true] rfl rfl (by kernel_rfl) (fun _ _ _ h => h) (Or.inl ⟨by rfl, ?_⟩) ?_ ?_
              rotate_left
              · intro w'; go_simp; first | done | with_reducible rfl
              rotate_left
              · simp only [Act.put, List.setIfInBounds_toArray, List.set_cons_zero, List.set_cons_succ, i64_w, i32_w]; rfl
              refine done_ (by kernel_rfl) ?_
              clear hml'
              have HF2 := Lib.hid (HF.out.later (Below.refl _ _).drew)
              clear HF bm he hm63 a0 a1 d0 d1
              obtain ⟨HF, -⟩ : ∃ h : Hid (FoS w1 B M p m g wr.drew), True := ⟨HF2, trivial⟩
              clear HF2
              generalize wr.drew = wz at HF ⊢
              go_wp2_with fail
              refine HF.out.len.mono ?_
              rintro e w4 ⟨rfl, rfl⟩
              have hst := HR2.out.stop HME.out HM1.out HMIN.out HSTOP.out
              have HBZ := Lib.hid (HB1.out.trans (HF.out.bl.mono HB1.out.size))
              by_cases h1 : m = E.length
              · have h1' : ((m : Int) != (E.length : Int)) = false := by simp [h1]
                obtain ⟨es, clock, hmb, hml⟩ := HF.out.map
                have hlm := run_len71 hmb
                have hes : es.size = M.length := by
                  have := congrArg List.length hml
                  simpa using this
                by_cases h2 : M.length = E.length
                · have h2' : ((es.size : Int) != (E.length : Int)) = false := by rw [hes]; simp [h2]
                  obtain ⟨a1, a2⟩ := hst.2.2 h1 h2
                  by_cases h24 : 24 < E.length
                  · have h24' : (24 : Int) < E.length := by omega
                    obtain ⟨hr, hd⟩ := a1 h24
                    have HRD := Lib.hid (And.intro hr hd)
                    clear hr hd a1 a2 hst h1 h2 hml hes
                    go_wp2
                    go_ret2
                    rw [HRD.out.1, HRD.out.2]
                    exact ⟨rfl, HBZ.out⟩
                  · have h24' : ¬ (24 : Int) < E.length := by omega
                    obtain ⟨hr, hd⟩ := a2 (by omega)
                    have HRD := Lib.hid (And.intro hr hd)
                    have HSZ : Hid (m ≤ 1000) := Lib.hid (by omega)
                    clear hr hd a1 a2 hst h1 h2 hml hes
                    go_wp2_with fail
                    refine (Tryd.Builder_String_k B B (wl M p m) _ HF.out.bd (fun e => by have h5 := congrArg List.length e; rw [wl_length] at h5; have := HM1.out; change m = 0 at h5; omega)).mono ?_
                    rintro e w5 ⟨rfl, hb5⟩
                    have HBY : Hid (Below w.heap.size w w5) := Lib.hid (HBZ.out.trans (hb5.mono (by have := HB1.out.size; have := HF.out.rb; omega)))
                    clear hb5
                    go_wp2_with fail
                    refine (first_calls (wlB M p m) _ (by rw [wlB_size]; exact HSZ.out) (wlB_ascii HLE.out p m)).mono ?_
                    rintro e w6 ⟨rfl, hb6⟩
                    have HBX := Lib.hid (HBY.out.trans (hb6.mono HBY.out.size))
                    rw [wlB_size]
                    clear hb6
                    go_wp2
                    go_ret2
                    rw [HRD.out.1, HRD.out.2]
                    exact ⟨rfl, HBX.out⟩
                · have h2' : ((es.size : Int) != (E.length : Int)) = true := by rw [hes]; simp; omega
                  have HRD := Lib.hid (hst.2.1 h1 h2)
                  clear hst h1 h2 hml hes
                  go_wp2
                  go_ret2
                  rw [HRD.out.1, HRD.out.2]
                  exact ⟨rfl, HBZ.out⟩
              · have h1' : ((m : Int) != (E.length : Int)) = true := by simp; omega
                have HRD := Lib.hid (hst.1 h1)
                clear hst h1
                go_wp2
                go_ret2
                rw [HRD.out.1, HRD.out.2]
                exact ⟨rfl, HBZ.out⟩
end Go.Proofs.YtpfenoioeajkmaaDoor.X
end

section
set_option linter.unusedVariables false
set_option linter.unusedSimpArgs false
namespace Go.Proofs.YtpfenoioeajkmaaDoor.X
open Go.RowKit Go.Proofs.YtpfenoioeajkmaaDoorW.PrintWords Go.Proofs.YtpfenoioeajkmaaDoorW.PrintLast Go.Proofs.YtpfenoioeajkmaaDoorW.PrintMore Go.Proofs.YtpfenoioeajkmaaDoor.L
theorem outR_of {E : List Side} {p : Int × Int} {K : Nat} (ht : (E.map (·.1)).Nodup → 1 ≤ K ∧ K ≤ E.length ∧ fol E p K = p ∧ (∀ k, 0 < k → k < K → fol E p k ≠ p) ∧ ∀ k, ∃ c, findL E (fol E p k) = some c ∧ isL c ∧ ltr E (fol E p k) = c) : ∃ r d, OutR E p K r d := by
  by_cases hn : (E.map (·.1)).Nodup
  · obtain ⟨h1, h2, -⟩ := ht hn
    by_cases h3 : K < E.length
    · exact ⟨_, _, fun h => absurd hn h, ht, fun _ _ => ⟨rfl, rfl⟩, fun _ h => by omega, fun _ h => by omega⟩
    · by_cases h4 : 24 < K
      · exact ⟨_, _, fun h => absurd hn h, ht, fun _ h => by omega, fun _ _ _ => ⟨rfl, rfl⟩, fun _ _ h => by omega⟩
      · exact ⟨_, _, fun h => absurd hn h, ht, fun _ h => by omega, fun _ _ h => by omega, fun _ _ _ => ⟨rfl, rfl⟩⟩
  · exact ⟨_, _, fun _ => ⟨rfl, rfl⟩, ht, fun h => absurd h hn, fun h => absurd h hn, fun h => absurd h hn⟩
theorem outR_some {x y : Nat → Int} {n : Nat} (hg : goodL x y n = true) : ∃ K r d, OutR (sidesTo (inB x y n) x y n) (x 0, y 0) K r d := by
  obtain ⟨t, ht⟩ := first_side hg
  by_cases hn : ((sidesTo (inB x y n) x y n).map (·.1)).Nodup
  · obtain ⟨K, h⟩ := come_back rfl hn (p := (x 0, y 0)) (c := 114) (by rw [ht]; exact List.mem_cons_self)
    exact ⟨K, outR_of fun _ => h⟩
  · exact ⟨0, outR_of fun h => absurd h hn⟩
set_option maxHeartbeats 8000000 in
set_option maxRecDepth 100000 in
theorem MouldsOutlines.calls (A : Option Addr) (n c : Nat) (x y : Nat → Int) (w : World) (hA : Sl w A n c x y) (hn : n ≤ 9223372036854775807) (hc : c ≤ 9223372036854775807) :
    Calls Tryd.prog 12 #[.slice A n c] w fun e w' => e = .returned (.bool true) ∧ Below w.heap.size w w' := by
  have HA := Lib.hid hA
  have hmn : mnN n 33 ≤ 9223372036854775807 := by unfold mnN; split <;> omega
  clear hA
  go_enter Tryd.func12, Tryd.ntmps12
  go_wp2_with fail
  refine (list_calls A n c x y w HA.out hc).mono ?_
  rintro e w2 ⟨⟨A', c', rfl, hS⟩, hb2⟩
  have HS := Lib.hid hS
  have HB2 := Lib.hid hb2
  clear hS hb2
  cases hG : goodL x y n with
  | false =>
    have HG := Lib.hid hG
    clear hG
    go_wp2_with fail
    refine (Outline_bad A' (mnN n 33) c' x y w2 HS.out hmn (by rw [goodL_mn]; exact HG.out)).mono ?_
    rintro e w3 ⟨rfl, hb3⟩
    have HB3 := Lib.hid (HB2.out.trans (hb3.mono HB2.out.size))
    clear hb3
    go_wp2_with fail
    have HL := Lib.hid (List_calls A n c x y w3 (HA.out.later HB3.out) hn)
    rw [HG.out] at HL
    refine HL.out.mono ?_
    rintro e w4 ⟨rfl, hb4⟩
    have HB4 := Lib.hid (HB3.out.trans (hb4.mono HB3.out.size))
    clear hb4
    go_wp2_with fail
    refine (awake_ok _).mono ?_
    rintro e w5 ⟨rfl, hb5⟩
    have HB5 := Lib.hid (HB4.out.trans (hb5.mono HB4.out.size))
    clear hb5
    go_wp2
    go_ret
    exact ⟨rfl, HB5.out⟩
  | true =>
    have HG := Lib.hid hG
    have hmg := mn_of_good hG
    rw [hmg] at HS hmn ⊢
    clear hG hmg
    obtain ⟨K, r, d, hR⟩ := outR_some HG.out
    have HR := Lib.hid hR
    clear hR
    have b2 : (d == d) = true := by simp
    go_wp2_with fail
    refine (Outline_calls A' n c' x y w2 HS.out HG.out K r d HR.out).mono ?_
    rintro e w3 ⟨rfl, hb3⟩
    have HB3 := Lib.hid (HB2.out.trans (hb3.mono HB2.out.size))
    clear hb3
    go_wp2_with fail
    have HL := Lib.hid (List_calls A n c x y w3 (HA.out.later HB3.out) hn)
    rw [HG.out] at HL
    refine HL.out.mono ?_
    rintro e w4 ⟨rfl, hb4⟩
    have HB4 := Lib.hid (HB3.out.trans (hb4.mono HB3.out.size))
    clear hb4
    go_wp2_with fail
    refine (rOutline_calls A n c x y w4 (HA.out.later HB4.out) HG.out K r d HR.out).mono ?_
    rintro e w5 ⟨rfl, hb5⟩
    have HB5 := Lib.hid (HB4.out.trans (hb5.mono HB4.out.size))
    clear hb5
    go_wp2_with fail
    refine (awake_ok _).mono ?_
    rintro e w6 ⟨rfl, hb6⟩
    have HB6 := Lib.hid (HB5.out.trans (hb6.mono HB5.out.size))
    clear hb6
    go_wp2
    go_ret
    exact ⟨rfl, HB6.out⟩
end Go.Proofs.YtpfenoioeajkmaaDoor.X
end

section
set_option linter.unusedVariables false
namespace Go.Proofs.YtpfenoioeajkmaaDoor.X
open Go.RowKit Go.WideShapes Go.WideMaps Go.Deep Go.ChangeShapes Go.Proofs.YtpfenoioeajkmaaDoorW.PrintWords Go.Proofs.YtpfenoioeajkmaaDoorW.PrintLast Go.Proofs.YtpfenoioeajkmaaDoorW.PrintMore
theorem cells29 : Tryd.prog.cellsOf 29 = 2 := by kernel_rfl
theorem cells3 : Tryd.prog.cellsOf 3 = 1 := by kernel_rfl
set_option maxRecDepth 10000 in
theorem pair_trod {H : Type} {enc : TypeId × Value → H} {w : World} {base : Nat} {sp : Nat → Bool} {held : Bool} {fuel : Nat} {cs : List Value} {x : DataW H × List MemPlace} (h : DataW.trod enc Tryd.prog w base sp held fuel 29 cs = some x) : ∃ a b : Int, cs = [.int .i64 a, .int .i64 b] := by
  obtain ⟨xs, m, _, _, hl, hn, hel⟩ := DataW.trod_array Tryd.underlying29 h
  rw [cells29] at hl
  match cs, hl with
  | [c0, c1], _ =>
    have h0 := hel 0 (by decide)
    have h1 := hel 1 (by decide)
    rw [cells3] at h0 h1
    rw [List.getElem?_eq_getElem (by omega)] at h0 h1
    obtain ⟨a, e0, _⟩ := DataW.trod_int Tryd.underlying3 h0
    obtain ⟨b, e1, _⟩ := DataW.trod_int Tryd.underlying3 h1
    simp at e0 e1
    exact ⟨a, b, by rw [e0, e1]⟩
theorem open_pts {H : Type} {enc : TypeId × Value → H} {w : World} {base : Nat} {held : Bool} {fuel : Nat} {A : Option Addr} {n c : Nat} {x : DataW H × List MemPlace} (h : DataW.trod enc Tryd.prog w base (fun _ => true) held fuel 45 [.slice A n c] = some x) :
    (∃ px py, Sl w A n c px py) ∧ n ≤ 9223372036854775807 ∧ c ≤ 9223372036854775807 := by
  rcases open_slice Tryd.underlying45 h with ⟨hcs, _⟩ | ⟨a, len, cap, m, k, D, Pl, hcs, _, hl, hm, hmm, _, hx⟩
  · simp at hcs
    obtain ⟨rfl, rfl, rfl⟩ := hcs
    exact ⟨⟨fun _ => 0, fun _ => 0, .inl ⟨rfl, rfl, rfl⟩⟩, by decide, by decide⟩
  · simp at hcs
    obtain ⟨rfl, rfl, rfl⟩ := hcs
    unfold maxLen at hm
    refine ⟨?_, by omega, by omega⟩
    rcases Nat.eq_zero_or_pos n with h0 | h0
    · exact ⟨fun _ => 0, fun _ => 0, .inr (.inr ⟨a, rfl, h0⟩)⟩
    · have hnm : n ≤ m := by rw [hmm]; simpa using hl
      obtain ⟨f, hf⟩ := choose_lt (α := Int × Int) (n := n) (p := fun i q => w.cell? (a.add (i * 2)) = some (.int .i64 q.1) ∧ w.cell? (a.add (i * 2 + 1)) = some (.int .i64 q.2)) (fun i hi => by
        obtain ⟨cs', h1, h2⟩ := hx i (by omega)
        obtain ⟨p, q, rfl⟩ := pair_trod h2
        rw [cells29] at h1
        obtain ⟨_, _, h3⟩ := World.cells?_some h1
        refine ⟨(p, q), ?_, ?_⟩
        · have := h3 0 (by decide)
          rw [Addr.add_add] at this
          simpa using this
        · have := h3 1 (by decide)
          rw [Addr.add_add] at this
          simpa using this)
      have hsp : a.spot = none := by
        have := (hf 0 h0).1
        rw [show a.add (0 * 2) = a by simp [Addr.add]] at this
        exact World.cell?_spot this
      have ha : ∀ j, a.add j = ⟨a.block, a.off + j, none⟩ := fun j => by
        unfold Addr.add
        by_cases hj : j = 0
        · subst hj
          rw [if_pos rfl, ← hsp]
          simp
        · rw [if_neg hj]
      refine ⟨fun i => (f i).1, fun i => (f i).2, .inr (.inl ⟨a.block, a.off, ?_, hl, fun i hi => ?_, fun i hi => ?_⟩)⟩
      · rw [← hsp]
      · rw [← ha]; exact (hf i hi).1
      · rw [Nat.add_assoc, ← ha]; exact (hf i hi).2
theorem open_ptsT {H : Type} {enc : TypeId × Value → H} {w : World} {base : Nat} {held : Bool} {A : Option Addr} {n c : Nat} {d : DataW H} {pl : List MemPlace} (h : DataW.Trod enc Tryd.prog w base (fun _ => true) held 45 (.slice A n c) d pl) :
    (∃ px py, Sl w A n c px py) ∧ n ≤ 9223372036854775807 ∧ c ≤ 9223372036854775807 := by
  obtain ⟨m, hm⟩ := h
  exact open_pts hm
end Go.Proofs.YtpfenoioeajkmaaDoor.X
end
